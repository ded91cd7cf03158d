/- code.Out's writer of parts, as the machine walks it. -/
import Derived.Test.YtlfgdaiegefjiaaDoorQc
import Derived.Test.YtlfgdaiegefjiaaDoorSA
import Derived.Test.YtlfgdaiegefjiaaDoorSx4
import Derived.Test.YtlfgdaiegefjiaaDoorQa
import Derived.LoopTactic
import Derived.Test.YtlfgdaiegefjiaaDoorSx14
namespace Go.Proofs.YtlfgdaiegefjiaaDoor.S
open Go.RowKit Go.Proofs.YtlfgdaiegefjiaaDoorW.PrintWords Go.Proofs.YtlfgdaiegefjiaaDoorW.PrintLast Go.Proofs.YtlfgdaiegefjiaaDoorW.PrintMore
set_option linter.unusedVariables false
set_option linter.unusedSimpArgs false
/-- A number's eight bytes, the greatest first. -/
def byteAt (v : Int) (k : Nat) : Int := v / 2 ^ (8 * (7 - k)) % 256
def byteRow (v : Int) : List Int := (List.range 8).map (byteAt v)
def partBytes (ps : List (Int × Nat)) : List Int := ps.flatMap fun p => (byteRow p.1).drop (8 - p.2)
def total (ps : List (Int × Nat)) : Nat := (ps.map (·.2)).sum
/-- What is written lies so: made, bad, the bytes in a row of one's own. -/
def OutAt (w0 W : World) (g : Nat) (md bd : Bool) (b : List Int) : Prop :=
 ∃ v, W.heap[g]? = some (.cells #[.bool md, .bool bd, v] 103 (0, 0)) ∧ w0.heap.size ≤ g ∧ Kd.R (Kd.int .u8) 5 W w0.heap.size (fun _ => True) v b
/-- Parts lie so: of each its number, and how many bytes it has. -/
def PartsAt (W : World) (pb : Nat) (ps : List (Int × Nat)) : Prop :=
 ∃ cs, W.heap[pb]? = some (.cells cs 114 (0, 0)) ∧ ∀ (i : Nat) (p : Int × Nat), ps[i]? = some p → cs[i * 2]? = some (.int .i64 p.1) ∧ cs[i * 2 + 1]? = some (.int .i64 p.2)
/-- The room of eight bytes, the first k of them laid. -/
def room (v : Int) (k : Nat) : Array Value := (((byteRow v).take k ++ List.replicate (8 - k) 0).map (Value.int .u8)).toArray
theorem room_size (v : Int) (k : Nat) (h : k ≤ 8) : (room v k).size = 8 := by simp [room, byteRow]; omega
theorem room_set (v : Int) : ∀ k, k < 8 → (room v k).setIfInBounds k (.int .u8 (byteAt v k)) = room v (k + 1)
 | 0, _ => rfl | 1, _ => rfl | 2, _ => rfl | 3, _ => rfl | 4, _ => rfl | 5, _ => rfl | 6, _ => rfl | 7, _ => rfl
 | k + 8, h => absurd h (by omega)
theorem total_le : ∀ (ps : List (Int × Nat)), (∀ p ∈ ps, p.2 ≤ 8) → total ps ≤ 8 * ps.length
 | [], _ => by simp [total]
 | p :: ps, h => by
  have h1 := total_le ps (fun q hq => h q (by simp [hq]))
  have h2 := h p (by simp)
  simp [total] at h1 ⊢
  omega
/-- Whatever lay beside what is written lies so still. -/
def OutKept (g : Nat) (w w' : World) : Prop := w.heap.size ≤ w'.heap.size ∧ ∀ k o, w.heap[k]? = some o → k ≠ g → (∀ cs, o ≠ .cells cs 5 (0, 0)) → w'.heap[k]? = some o
theorem OutKept.of_below {g : Nat} {w w' : World} (h : Below w.heap.size w w') : OutKept g w w' := ⟨h.size, fun k o hk _ _ => blk_below hk h⟩
theorem OutKept.trans {g : Nat} {w w' w'' : World} (h : OutKept g w w') (h' : OutKept g w' w'') : OutKept g w w'' :=
 ⟨Nat.le_trans h.1 h'.1, fun k o hk h1 h2 => h'.2 k o (h.2 k o hk h1 h2) h1 h2⟩
theorem OutKept.set {g : Nat} (w : World) (i : Nat) (u : Value) : OutKept g w (w.setCell ⟨g, i, none⟩ u) :=
 ⟨by simp, fun k o hk h1 _ => (Below.heap_setCell w ⟨g, i, none⟩ u k h1).trans hk⟩
theorem OutKept.grown {g base : Nat} {w w1 : World} {v : Value} {ok : Nat → Prop} {xs : List Int} (hR : (Kd.int .u8).R 5 w base ok v xs) (hg : w.grownBy w1 v.ownBlock) : OutKept g w w1 :=
 ⟨hg.size, fun k o hk _ h2 => (hg.block k (blk_lt hk) (by
  intro he
  obtain ⟨cells, hc⟩ := own_typed (Kd.own_of_R hR) k he.symm
  exact h2 cells (Option.some.inj (hk.symm.trans hc)))).trans hk⟩
theorem partBytes_length : ∀ (ps : List (Int × Nat)), (∀ p ∈ ps, p.2 ≤ 8) → (partBytes ps).length = total ps
 | [], _ => rfl
 | p :: ps, h => by
  have h1 := partBytes_length ps (fun q hq => h q (by simp [hq]))
  have h2 := h p (by simp)
  simp only [partBytes, List.flatMap_cons, List.length_append, total, List.map_cons, List.sum_cons] at h1 ⊢
  rw [h1]
  simp [byteRow]; omega
theorem partBytes_take (ps : List (Int × Nat)) (j : Nat) (p : Int × Nat) (hp : ps[j]? = some p) : partBytes (ps.take (j + 1)) = partBytes (ps.take j) ++ (byteRow p.1).drop (8 - p.2) := by
 obtain ⟨h1, h2⟩ := List.getElem?_eq_some_iff.1 hp
 rw [List.take_succ_eq_append_getElem h1, h2]
 simp [partBytes]
theorem PartsAt.kept {W W' : World} {pb g : Nat} {ps : List (Int × Nat)} (h : PartsAt W pb ps) (hg : ∀ cs, W.heap[g]? ≠ some (.cells cs 114 (0, 0))) (hk : OutKept g W W') : PartsAt W' pb ps := by
 obtain ⟨cs, h1, h2⟩ := h
 exact ⟨cs, hk.2 pb _ h1 (fun e => hg cs (e ▸ h1)) (fun cs' e => by cases e), h2⟩
theorem PartsAt.lt {W : World} {pb : Nat} {ps : List (Int × Nat)} (h : PartsAt W pb ps) : pb < W.heap.size := by
 obtain ⟨cs, h1, _⟩ := h
 exact (Array.getElem?_eq_some_iff.1 h1).1
theorem PartsAt.below {W W' : World} {pb : Nat} {ps : List (Int × Nat)} (h : PartsAt W pb ps) (hb : Below W.heap.size W W') : PartsAt W' pb ps := by
 have hl := h.lt
 obtain ⟨cs, h1, h2⟩ := h
 exact ⟨cs, (hb.block pb hl).trans h1, h2⟩
theorem PartsAt.cells {W : World} {pb : Nat} {ps : List (Int × Nat)} (h : PartsAt W pb ps) (i : Nat) (p : Int × Nat) (hp : ps[i]? = some p) : W.cell? ⟨pb, i * 2, none⟩ = some (.int .i64 p.1) ∧ W.cell? ⟨pb, i * 2 + 1, none⟩ = some (.int .i64 p.2) := by
 obtain ⟨cs, h1, h2⟩ := h
 obtain ⟨h3, h4⟩ := h2 i p hp
 simp [World.cell?, h1, h3, h4]
theorem room_reads (W : World) (r : Nat) (v : Int) (m : Nat) (hm : m ≤ 8) (h : W.heap[r]? = some (.cells (room v 8) 140 (0, 0))) : ReadsRow (fun x cs => cs = [.int .u8 x]) 1 W (some ⟨r, 8 - m, none⟩) m ((byteRow v).drop (8 - m)) := by
 refine ⟨by simp [byteRow]; omega, by omega, fun _ => ⟨_, rfl, fun j p hj => ⟨[.int .u8 p], rfl, rfl, fun i u hu => ?_⟩⟩⟩
 obtain ⟨rfl, rfl⟩ : i = 0 ∧ u = .int .u8 p := by
  match i, hu with
  | 0, hu => simpa [eq_comm] using hu
 rw [List.getElem?_drop] at hj
 rw [show (Addr.mk r (8 - m) none).add (j * 1 + 0) = ⟨r, 8 - m + j, none⟩ by unfold Addr.add; split <;> simp_all]
 rw [blk_cell h]
 have h8 : (List.map (Value.int .u8) (byteRow v)).length = 8 := by simp [byteRow]
 simp [room, List.take_of_length_le (Nat.le_of_eq h8), hj]
theorem slice8 (r m : Nat) (h : 1 ≤ m) (h8 : m ≤ 8) (w : World) : (Instr.sliceAt 140 (.pointer (some ⟨r, 0, none⟩)) (some (.int .i64 (wrap64 (8 - (m : Int))))) (some (.int .i64 8)) (some (.int .i64 8))).run Tryd.prog w = .ok (.slice (some ⟨r, 8 - m, none⟩) m m) w := by
 have hw : wrap64 (8 - (m : Int)) = 8 - (m : Int) := by unfold wrap64; omega
 have ha : Tryd.prog.underlying 140 = some (.array (Tryd.prog.arrayLen 140) (Tryd.prog.elem 140)) := by kernel_rfl
 have hn : Tryd.prog.arrayLen 140 = 8 := by kernel_rfl
 have he : Tryd.prog.elem 140 = 5 := by kernel_rfl
 rw [hw, run_sliceAt_array_lhm w 140 _ ha .i64 .i64 .i64 _ _ _ (by omega) (by omega) (by omega) (by rw [hn]; decide), he]
 have hz : (sizeOf 5).run Tryd.prog w = .ok 1 w := by go_simp
 rw [hz]
 have h1 : (8 - (m : Int)).toNat = 8 - m := by omega
 have h2 : ¬ (8 = 8 - m) := by omega
 have h3 : ¬ (8 - m) * 1 = 0 ∨ 8 - m = 0 := by omega
 simp only [Result.andThen, slicedAt, h1, show Int.toNat 8 = 8 from rfl, if_neg h2, Addr.add]
 rw [show 8 - (8 - m) = m by omega]
 split
 · rename_i h4
   rw [show 8 - m = 0 by omega]
 · simp
def isBad (bd ok : Bool) (b : List Int) (s : ByteArray) (ps : List (Int × Nat)) : Bool := bd || (!ok || decide (65536 < b.length + (s.size + total ps)))
def putsTo (bd ok : Bool) (b : List Int) (s : ByteArray) (ps : List (Int × Nat)) : List Int := if isBad bd ok b s ps = true then b else b ++ partBytes ps ++ bytesOf s
def puts_.T18 : Bool × List (List Nat × List Nat) := (true, [([], []), ([], []), ([1], [1]), ([2], [2]), ([3], [3]), ([], []), ([5], [5]), ([6], [6]), ([7], [7]), ([4, 8], [4, 8]), ([0, 0, 1, 2, 3, 4, 5, 6, 7, 8, 9], [0]), ([10, 0, 1, 2, 3, 4, 5, 6, 7, 8, 9], [10]), ([11, 9, 9, 0, 1, 2, 3, 4, 5, 6, 7, 8, 9], [9, 11])])
def puts_.B18 : List Nat := [0, 0, 2, 6, 14, 0, 32, 96, 224, 510, 1023, 2047, 4095]
theorem puts_.tab18 : rtab .any (opsOf Tryd.f70 18) = puts_.T18 := by kernel_rfl
theorem puts_.bits18 : waitsOk puts_.T18.2 puts_.B18 = true := by kernel_rfl
set_option maxHeartbeats 8000000 in
set_option maxRecDepth 100000 in
theorem puts_calls (g pb c : Nat) (md bd ok : Bool) (b : List Int) (s : ByteArray) (ps : List (Int × Nat)) (w0 w : World) (hO : OutAt w0 w g md bd b) (hB : Below w0.heap.size w0 w) (hP : PartsAt w pb ps)
 (hs : s.size ≤ 140737488355328) (hn : ps.length ≤ 1000) (hsz : ∀ p ∈ ps, 1 ≤ p.2 ∧ p.2 ≤ 8) (hbl : b.length ≤ 70000) :
 Calls Tryd.prog 70 #[.pointer (some ⟨g, 0, none⟩), .bool ok, .string s, .slice (some ⟨pb, 0, none⟩) ps.length c] w fun e w' =>
  e = .returned (.tuple #[]) ∧ OutAt w0 w' g md (isBad bd ok b s ps) (putsTo bd ok b s ps) ∧ OutKept g w w' ∧ Below w0.heap.size w0 w' := by
 have HP := Aside0.mk hP
 have HO := Aside0.mk hO
 have HB := Aside0.mk (Below.refl w.heap.size w)
 have HBw := Aside0.mk hB
 have HS := Aside0.mk hsz
 clear hP hO hsz hB
 go_enter Tryd.func70, Tryd.ntmps70
 go_wp2
 go_loopw [8, 21] (fun v8 v21 wr => ∃ (i : Nat), v21 = .int .i64 i ∧ i ≤ ps.length ∧ v8 = .int .i64 ((s.size + total (ps.take i) : Nat) : Int) ∧ Aside0 (Below w.heap.size w wr)) (fun _ v21 _ => ps.length - (intOf v21).toNat)
 case atStart => exact ⟨0, rfl, Nat.zero_le _, by simp [total], HB⟩
 case round =>
  obtain ⟨i, rfl, hi, rfl, HBr⟩ := hrel
  by_cases hlt : i < ps.length
  · obtain ⟨p, hp⟩ : ∃ p, ps[i]? = some p := ⟨_, List.getElem?_eq_getElem hlt⟩
    obtain ⟨hc1, hc2⟩ := (HP.out.below HBr.out).cells i p hp
    have hb8 := HS.out p (List.mem_of_getElem? hp)
    have hT : Aside0 (total (ps.take (i + 1)) = total (ps.take i) + p.2) := ⟨by
     obtain ⟨h1, h2⟩ := List.getElem?_eq_some_iff.1 hp
     rw [List.take_succ_eq_append_getElem hlt, h2]; simp [total]⟩
    have hTle := total_le (ps.take i) (fun p hp => (HS.out p (List.mem_of_mem_take hp)).2)
    have hTl : (ps.take i).length ≤ 1000 := by rw [List.length_take]; omega
    go_wp2
    go_roundw
    case rel => exact ⟨i + 1, by go_num, by omega, by rw [hT.out]; go_num, ⟨below_alloc HBr.out _⟩⟩
    case measure => simp [intOf]; omega
  · obtain rfl : i = ps.length := by omega
    rw [List.take_length]
    obtain ⟨v, hblk, hg, hR⟩ := HO.out
    have hT8 := total_le ps (fun p hp => (HS.out p hp).2)
    have hblk1 := Aside0.mk (blk_below hblk HBr.out)
    have HR := Aside0.mk (Kd.R_below hR HBr.out)
    obtain ⟨A, cc, rfl⟩ := Kd.R_slice hR
    have k1 : wr.cell? ⟨g, 1, none⟩ = some (.bool bd) := (blk_cell hblk1.out 1).trans rfl
    have k2 : wr.cell? ⟨g, 2, none⟩ = some (.slice A b.length cc) := (blk_cell hblk1.out 2).trans rfl
    have f1 := blk_frozen hblk1.out 1
    clear hblk hR
    by_cases hbad : bd = true ∨ ok = false ∨ 65536 < b.length + (s.size + total ps)
    · have hb1 : Aside0 (isBad bd ok b s ps = true) := ⟨by
       simp only [isBad, Bool.or_eq_true, Bool.not_eq_true', decide_eq_true_eq]; exact hbad⟩
      have hend : ∀ u : Bool, u = true → True ∧ OutAt w0 (wr.setCell ⟨g, 1, none⟩ (.bool u)) g md (isBad bd ok b s ps) (putsTo bd ok b s ps) ∧ OutKept g w (wr.setCell ⟨g, 1, none⟩ (.bool u)) ∧ Below w0.heap.size w0 (wr.setCell ⟨g, 1, none⟩ (.bool u)) := by
       rintro u rfl
       refine ⟨trivial, ⟨.slice A b.length cc, ?_, hg, ?_⟩, (OutKept.of_below HBr.out).trans (OutKept.set _ _ _), below_set (below_then HBw.out HBw.out.size HBr.out) hg⟩
       · rw [hb1.out]; exact blk_set hblk1.out 1 _
       · unfold putsTo; rw [if_pos hb1.out]
         exact Kd.R_set HR.out hblk1.out (by simp [Kd.E, Kd.int, Kd.scalar]) 1 _
      replace hend := Aside0.mk hend
      cases bd with
      | true =>
       go_wp2
       first | go_end0 | ((try simp only [Exit.inBlock, Exit.then]); refine bodyPost_ret (results_none rfl _ _ _) rfl ?_)
       exact ⟨rfl, (hend.out _ (by simp)).2⟩
      | false =>
       cases ok with
       | false =>
        go_wp2
        first | go_end0 | ((try simp only [Exit.inBlock, Exit.then]); refine bodyPost_ret (results_none rfl _ _ _) rfl ?_)
        exact ⟨rfl, (hend.out _ (by simp)).2⟩
       | true =>
        have hbig : 65536 < b.length + (s.size + total ps) := by simpa using hbad
        have d1 : decide (65536 < (b.length : Int) + ((s.size + total ps : Nat) : Int)) = true := decide_eq_true (by omega)
        go_wp2
        first | go_end0 | ((try simp only [Exit.inBlock, Exit.then]); refine bodyPost_ret (results_none rfl _ _ _) rfl ?_)
        exact ⟨rfl, (hend.out _ (by simp; omega)).2⟩
    · obtain ⟨rfl, rfl, hfit⟩ : bd = false ∧ ok = true ∧ ¬ 65536 < b.length + (s.size + total ps) := by
       cases bd <;> cases ok <;> simp_all
      have d1 : decide (65536 < (b.length : Int) + ((s.size + total ps : Nat) : Int)) = false := decide_eq_false (by omega)
      go_wp2
      go_loopw [57] (fun v57 wx => ∃ (j : Nat) (v' : Value), v57 = .int .i64 j ∧ j ≤ ps.length ∧ Aside0 (wx.heap[g]? = some (.cells #[.bool md, .bool false, v'] 103 (0, 0))) ∧ Aside0 ((Kd.int .u8).R 5 wx w0.heap.size (fun _ => True) v' (b ++ partBytes (ps.take j))) ∧ Aside0 (OutKept g w wx) ∧ Aside0 (Below w0.heap.size w0 wx)) (fun v57 _ => ps.length - (intOf v57).toNat)
      case atStart =>
       rw [show decide (65536 < (b.length : Int) + ((s.size : Int) + (total ps : Int))) = false from decide_eq_false (by omega)]
       refine ⟨0, _, rfl, Nat.zero_le _, ⟨blk_set hblk1.out 1 _⟩, ⟨?_⟩, ⟨?_⟩, ⟨?_⟩⟩
       · simpa [partBytes] using Kd.R_set HR.out hblk1.out (by simp [Kd.E, Kd.int, Kd.scalar]) 1 _
       · exact (OutKept.of_below HBr.out).trans (OutKept.set _ _ _)
       · exact below_set (below_then HBw.out HBw.out.size HBr.out) hg
      case round =>
       obtain ⟨wx, rfl⟩ : ∃ wx, wx = wr := ⟨_, rfl⟩
       obtain ⟨j, v', rfl, hj, Hblk, HRj, HKj, HBj⟩ := hrel
       by_cases hlt' : j < ps.length
       · obtain ⟨p, hp⟩ : ∃ p, ps[j]? = some p := ⟨_, List.getElem?_eq_getElem hlt'⟩
         have hPx : PartsAt wx pb ps := HP.out.kept (by
          obtain ⟨v0, h1, h2, _⟩ := HO.out
          rw [h1]; simp) HKj.out
         obtain ⟨hc1, hc2⟩ := hPx.cells j p hp
         go_wp2
         go_loopw [61, 14] (fun v61 v14 wy => ∃ (k : Nat), v61 = .int .i64 k ∧ k ≤ 8 ∧ Aside0 (wy.heap[wx.heap.size]? = some (.cells #[.int .i64 p.1, .int .i64 p.2] 114 (0, 0))) ∧ Aside0 (wy.heap[wx.heap.size + 1]? = some (.cells (room p.1 k) 140 (0, 0))) ∧ Aside0 (Below wx.heap.size wx wy)) (fun v61 _ _ => 8 - (intOf v61).toNat)
         case atStart =>
          refine ⟨0, rfl, Nat.zero_le _, ⟨?_⟩, ⟨?_⟩, ⟨?_⟩⟩
          · exact ((below_alloc (Below.refl _ _) _).block wx.heap.size (by simp)).trans (heap_alloc_new wx _)
          · have hn := heap_alloc_new (wx.alloc (.cells #[.int .i64 p.1, .int .i64 p.2] 114)) (.cells (room p.1 0) 140)
            rw [show (wx.alloc (.cells #[.int .i64 p.1, .int .i64 p.2] 114)).heap.size = wx.heap.size + 1 by simp] at hn
            exact hn
          · exact below_alloc (below_alloc (Below.refl _ _) _) _
         case round =>
          obtain ⟨k, rfl, hk, Hq, Hr, HBy⟩ := hrel
          by_cases hk8 : k < 8
          · have kq : wr.cell? ⟨wx.heap.size, 0, none⟩ = some (.int .i64 p.1) := (blk_cell Hq.out 0).trans rfl
            have fr := blk_frozen Hr.out k
            obtain ⟨c0, hc0⟩ : ∃ c0, wr.cell? ⟨wx.heap.size + 1, k, none⟩ = some c0 := ⟨_, (blk_cell Hr.out k).trans (Array.getElem?_eq_getElem (by rw [room_size _ _ hk]; exact hk8))⟩
            go_wp2
            go_roundw
            case rel =>
             exact ⟨k + 1, by go_num, by omega, ⟨(Below.heap_setCell wr _ _ _ (by simp)).trans Hq.out⟩, ⟨(blk_set Hr.out k _).trans (by rw [← room_set _ _ hk8]; rfl)⟩, ⟨below_set HBy.out (by simp)⟩⟩
            case measure => simp [intOf]; omega
          · obtain rfl : k = 8 := by omega
            obtain ⟨A1, c1, rfl⟩ := Kd.R_slice HRj.out
            obtain ⟨n1, hn1⟩ : ∃ n, (b ++ partBytes (ps.take j)).length = n := ⟨_, rfl⟩
            rw [hn1] at HRj Hblk
            have h88 := HS.out p (List.mem_of_getElem? hp)
            have HRy := Aside0.mk (Kd.R_below HRj.out HBy.out.drew)
            have HBy0 := Aside0.mk (below_then HBj.out HBj.out.size HBy.out.drew)
            have HBq := Aside0.mk HBy.out.drew
            have Hgy := Aside0.mk (blk_below Hblk.out HBy.out.drew)
            have Hrd := Aside0.mk (room_reads wr.drew _ _ _ h88.2 Hr.out)
            have hsl : ∀ w', (Instr.sliceAt 140 (.pointer (some ⟨wx.heap.size + 1, 0, none⟩)) (some (.int .i64 (wrap64 (8 - (p.2 : Int))))) (some (.int .i64 8)) (some (.int .i64 8))).run Tryd.prog w' = .ok (.slice (some ⟨wx.heap.size + 1, 8 - p.2, none⟩) p.2 p.2) w' := fun w' => slice8 _ _ h88.1 h88.2 w'
            have cg : wr.drew.cell? ⟨g, 2, none⟩ = some (.slice A1 n1 c1) := (blk_cell Hgy.out 2).trans rfl
            have cp : wr.drew.cell? ⟨wx.heap.size, 1, none⟩ = some (.int .i64 p.2) := (blk_cell Hq.out 1).trans rfl
            have hrow : Aside0 (∀ v, v = Value.slice A1 n1 c1 → some g ≠ v.ownBlock) := ⟨by
             rintro v rfl he
             obtain ⟨cells, hc⟩ := own_typed (Kd.own_of_R HRy.out) g he.symm
             have := Hgy.out.symm.trans hc
             injection this with this
             injection this with _ h2
             exact absurd h2 (by decide)⟩
            have hlen : Aside0 ((n1 + p.2) * 1 ≤ 140737488355328) := ⟨by
             have h1 := total_le (ps.take j) (fun p hp => (HS.out p (List.mem_of_mem_take hp)).2)
             have h2 : (ps.take j).length ≤ 1000 := by rw [List.length_take]; omega
             rw [List.length_append, partBytes_length _ (fun p hp => (HS.out p (List.mem_of_mem_take hp)).2)] at hn1
             omega⟩
            replace hn1 := Aside0.mk hn1
            go_wp2
            refine start_ (n := 13) (S := fun w' => w'.cell? ⟨g, 2, none⟩ = some (.slice A1 n1 c1) ∧ w'.cell? ⟨wx.heap.size, 1, none⟩ = some (.int .i64 p.2)) (ds := [9, 12]) (mb 13 0) (by kernel_rfl) rfl (by kernel_rfl) ⟨cg, cp⟩ (fun hHeld => ?_)
            refine with_tabW puts_.tab18 puts_.bits18 (fun HT_ HW_ => ?_)
            generalize wr.drew = wq at HBq HRy HBy0 Hgy Hrd cg cp hHeld ⊢
            refine pu 0 74 (mb 13 1) HT_ ?_
            refine pu 1 75 (mb 13 3) HT_ ?_
            refine pu 2 76 (mb 13 7) HT_ ?_
            refine pu 3 77 (mb 13 15) HT_ ?_
            refine pu 5 79 (mb 13 47) HT_ ?_
            refine tk 4 78 (mb 13 63) HT_ HW_ hHeld ?_
            refine tk 6 80 (mb 13 127) HT_ HW_ hHeld ?_
            refine pu 7 81 (mb 13 255) HT_ ?_
            refine pu 8 82 (mb 13 511) HT_ ?_
            refine last_ (i := 9) (N := some 83) (mb 13 1023) rfl rfl (one_of HT_.out (by kernel_rfl)) (by decide) (fun K hK => ?_)
            skip
            refine Kd.R_append_rows_step (Kd.int .u8) (Rr := fun x cs => cs = [.int .u8 x]) (w0 := w0) w0.heap.size (by rfl) (.tmp 78) (.tmp 82) 51 5 (.int .u8 0) 1 rfl Tryd.underlying51 info5 rfl (by decide) (by decide) (.slice A1 n1 c1) (b ++ partBytes (ps.take j)) ((byteRow p.1).drop (8 - p.2)) (some ⟨wx.heap.size + 1, 8 - p.2, none⟩) p.2 p.2 (fun _ => True) (fun _ => False) rfl ?aX ?aH ?aR ?aM (fun _ hk => hk.elim) (fun _ _ => trivial) HBy0.out HBy0.out.size ?aL ?_
            (case aX => exact rfl)
            (case aH => exact HRy.out)
            (case aR => exact Hrd.out)
            (case aM => intro x cs h; exact h)
            (case aL => rw [hn1.out]; exact hlen.out)
            intro v1 wz ho hb hg hat
            obtain ⟨A2, c2, rfl⟩ := Kd.R_slice ho
            generalize hn2 : (b ++ partBytes (ps.take j) ++ (byteRow p.1).drop (8 - p.2)).length = n2 at ho hb hg hat ⊢
            replace hn2 := Aside0.mk hn2
            have hO1 := Aside0.mk ho
            have HB1 := Aside0.mk hb
            have hG1 := Aside0.mk hg
            clear ho hb hg hat
            have Hg1 := Aside0.mk (blk_grown Hgy.out hG1.out (hrow.out _ rfl))
            have cg1 := (blk_cell Hg1.out 2).trans rfl
            have fg1 := blk_frozen Hg1.out 2
            refine hK.out _ _ ?_
            clear hK K
            refine nm _ ?_
            refine pu 10 84 (mb 13 2047) HT_ ?_
            refine pu 11 85 (mb 13 4095) HT_ ?_
            refine last_ (i := 12) (N := none) (mb 13 8191) rfl rfl (one_of HT_.out (by kernel_rfl)) (by decide) (fun K hK => ?_)
            refine skip_ (w1 := ?_) (by rfl) rfl ?_ ?_
            rotate_left
            · go_simp
              rfl
            refine hK.out _ _ ?_
            clear hK K
            refine dn HT_ ?_
            go_wp2
            go_roundw
            case rel =>
             refine ⟨j + 1, _, by go_num, by omega, ⟨blk_set Hg1.out 2 _⟩, ⟨?_⟩, ⟨?_⟩, ⟨below_set HB1.out hg⟩⟩
             · rw [partBytes_take ps j p hp, ← List.append_assoc]
               exact Kd.R_set hO1.out Hg1.out (by simp [Kd.E, Kd.int, Kd.scalar]) 2 _
             · exact ((HKj.out.trans (OutKept.of_below HBq.out)).trans (OutKept.grown HRy.out hG1.out)).trans (OutKept.set _ _ _)
            case measure => simp [intOf]; omega
       · obtain rfl : j = ps.length := by omega
         rw [List.take_length] at HRj
         obtain ⟨A1, c1, rfl⟩ := Kd.R_slice HRj.out
         obtain ⟨n1, hn1⟩ : ∃ n, (b ++ partBytes ps).length = n := ⟨_, rfl⟩
         rw [hn1] at HRj Hblk
         have cg : wx.cell? ⟨g, 2, none⟩ = some (.slice A1 n1 c1) := (blk_cell Hblk.out 2).trans rfl
         have hrow : Aside0 (∀ v, v = Value.slice A1 n1 c1 → some g ≠ v.ownBlock) := ⟨by
          rintro v rfl he
          obtain ⟨cells, hc⟩ := own_typed (Kd.own_of_R HRj.out) g he.symm
          have := Hblk.out.symm.trans hc
          injection this with this
          injection this with _ h2
          exact absurd h2 (by decide)⟩
         have hl2 : Aside0 ((b ++ partBytes ps).length + s.size ≤ 140737488355328) := ⟨by
          rw [List.length_append, partBytes_length _ (fun p hp => (HS.out p hp).2)]
          omega⟩
         have hown : Aside0 (wx.ownsRow w0.heap.size 5 1 (.slice A1 n1 c1) (b ++ partBytes ps).length (nums .u8 (b ++ partBytes ps))) := ⟨Kd.own_of_R HRj.out⟩
         go_upto_region 20 with fail
         go_wp2_with ((with_reducible refine gate_builtin (b := .append) (xs := #[.tmp 91, .tmp 92]) rfl ?_); at_builtin; refine print_append_str (w0 := w0) w0.heap.size rfl (.tmp 91) (.tmp 92) 51 9 5 rfl Tryd.underlying51 Tryd.underlying9 info5 (.slice A1 n1 c1) (b ++ partBytes ps) s rfl rfl hown.out HBj.out HBj.out.size hl2.out ?_; intro v1 wz ho hb hgr; have hR1 := Kd.R_of_own (h1 := fun _ => rfl) (ok := fun _ => True) ho (fun _ _ => trivial); obtain ⟨A2, c2, rfl⟩ := Kd.R_slice hR1; generalize hn2 : (b ++ partBytes ps ++ bytesOf s).length = n2 at ho hR1 ⊢; have HO1 := Aside0.mk hR1; have HB1 := Aside0.mk hb; have HG1 := Aside0.mk (OutKept.grown (g := g) HRj.out hgr); have Hg1 := Aside0.mk (blk_grown Hblk.out hgr (hrow.out _ rfl)); have cg1 := (blk_cell Hg1.out 2).trans rfl; have fg1 := blk_frozen Hg1.out 2; clear hR1 hb hgr ho)
         first | go_end0 | ((try simp only [Exit.inBlock, Exit.then]); refine bodyPost_ret (results_none rfl _ _ _) rfl ?_)
         have hb0 : isBad false true b s ps = false := by simp [isBad]; omega
         refine ⟨rfl, ⟨.slice A2 n2 c2, ?_, hg, ?_⟩, (HKj.out.trans HG1.out).trans (OutKept.set _ _ _), below_set HB1.out hg⟩
         · rw [hb0]; exact blk_set Hg1.out 2 _
         · unfold putsTo; rw [if_neg (by rw [hb0]; decide)]
           exact Kd.R_set HO1.out Hg1.out (by simp [Kd.E, Kd.int, Kd.scalar]) 2 _
end Go.Proofs.YtlfgdaiegefjiaaDoor.S
/- code.Out's writers, as the machine walks them. -/
namespace Go.Proofs.YtlfgdaiegefjiaaDoor.S
open Go.RowKit Go.Proofs.YtlfgdaiegefjiaaDoorW.PrintWords Go.Proofs.YtlfgdaiegefjiaaDoorW.PrintLast Go.Proofs.YtlfgdaiegefjiaaDoorW.PrintMore
set_option linter.unusedVariables false
set_option linter.unusedSimpArgs false
theorem OutAt.below {w0 W W' : World} {g : Nat} {md bd : Bool} {b : List Int} (h : OutAt w0 W g md bd b) (hb : Below W.heap.size W W') : OutAt w0 W' g md bd b := by
 obtain ⟨v, h1, h2, h3⟩ := h
 exact ⟨v, blk_below h1 hb, h2, Kd.R_below h3 hb⟩
theorem PartsAt.new1 (W : World) (a k : Int) (n : Nat) (hk : k = n) : PartsAt (W.alloc (.cells #[.int .i64 a, .int .i64 k] 114)) W.heap.size [(a, n)] := by
 subst hk
 refine ⟨_, heap_alloc_new W _, fun i p hp => ?_⟩
 match i, hp with
 | 0, hp =>
  obtain rfl : p = (a, n) := by simpa [eq_comm] using hp
  exact ⟨rfl, rfl⟩
theorem PartsAt.new2 (W : World) (a k a' k' : Int) (n n' : Nat) (hk : k = n) (hk' : k' = n') : PartsAt (W.alloc (.cells #[.int .i64 a, .int .i64 k, .int .i64 a', .int .i64 k'] 114)) W.heap.size [(a, n), (a', n')] := by
 subst hk hk'
 refine ⟨_, heap_alloc_new W _, fun i p hp => ?_⟩
 match i, hp with
 | 0, hp =>
  obtain rfl : p = (a, n) := by simpa [eq_comm] using hp
  exact ⟨rfl, rfl⟩
 | 1, hp =>
  obtain rfl : p = (a', n') := by simpa [eq_comm] using hp
  exact ⟨rfl, rfl⟩
theorem putsTo_le (bd ok : Bool) (b : List Int) (s : ByteArray) (ps : List (Int × Nat)) (hps : ∀ p ∈ ps, p.2 ≤ 8) (hb : b.length ≤ 65536) : (putsTo bd ok b s ps).length ≤ 65536 := by
 unfold putsTo isBad
 split
 · exact hb
 · rename_i h
   simp only [Bool.or_eq_true, decide_eq_true_eq, not_or] at h
   rw [List.length_append, List.length_append, partBytes_length ps hps, show (bytesOf s).length = s.size from by simp [bytesOf]]
   omega
theorem OutAt.made (w0 W : World) (hB : Below w0.heap.size w0 W) : OutAt w0 (W.alloc (.cells #[.bool true, .bool false, .slice none 0 0] 103)) W.heap.size true false [] :=
 ⟨_, heap_alloc_new W _, hB.size, Kd.R_nil (Kd.int .u8) 5 _ _ _⟩
def isByte (n : Int) : Bool := decide (0 ≤ n ∧ n ≤ 255)
def isTime (n : Int) : Bool := decide (0 ≤ n ∧ n ≤ 1099511627775)
theorem one_f (n : Int) : code_one.f n = some (isByte n) := by
 unfold code_one.f isByte
 by_cases h : 0 ≤ n <;> simp [h]
theorem time_f (n : Int) : code_time.f n = some (isTime n) := by
 unfold code_time.f isTime
 by_cases h : 0 ≤ n <;> simp [h]
/-- What is written, in short: whether it is bad, and the bytes. -/
abbrev St := Bool × List Int
def St.puts (x : St) (ok : Bool) (s : ByteArray) (ps : List (Int × Nat)) : St := (isBad x.1 ok x.2 s ps, putsTo x.1 ok x.2 s ps)
/-- The contract of a writer: what is written is x' behind it. -/
def Writes (f : Nat) (g : Nat) (args : List Value) (x x' : St) : Prop := ∀ (md : Bool) (w0 w : World), OutAt w0 w g md x.1 x.2 → Below w0.heap.size w0 w → x.2.length ≤ 65536 →
 Calls Tryd.prog f (#[.pointer (some ⟨g, 0, none⟩)] ++ args.toArray) w fun e w' => e = .returned (.tuple #[]) ∧ OutAt w0 w' g md x'.1 x'.2 ∧ OutKept g w w' ∧ Below w0.heap.size w0 w'
set_option maxHeartbeats 8000000 in
theorem NewOut_calls (w0 w : World) (hB : Below w0.heap.size w0 w) : Calls Tryd.prog 23 #[] w fun e w' => ∃ g, e = .returned (.pointer (some ⟨g, 0, none⟩)) ∧ OutAt w0 w' g true false [] ∧ w.heap.size ≤ g ∧ Below w.heap.size w w' := by
 go_enter Tryd.func23, Tryd.ntmps23
 go_wp2
 go_ret
 exact ⟨_, rfl, OutAt.made w0 _ (by first | exact hB | exact hB.drew), by simp, below_alloc (by first | exact Below.refl _ _ | exact (Below.refl _ _).drew) _⟩
set_option maxHeartbeats 8000000 in
set_option maxRecDepth 100000 in
theorem Byte_calls (g : Nat) (n : Int) (x : St) : Writes 62 g [.int .i64 n] x (x.puts (isByte n) ⟨#[]⟩ [(n, 1)]) := by
 intro md w0 w hO hB hbl
 show Calls Tryd.prog 62 #[.pointer (some ⟨g, 0, none⟩), .int .i64 n] w _
 replace hO := Aside0.mk hO
 replace hB := Aside0.mk hB
 go_enter Tryd.func62, Tryd.ntmps62
 go_wp2_with (first | ((with_reducible refine gate_callee (f := 72) rfl ?_); refine gL 6 Tryd.func72 #[.int .i64 n] ?_; (with_reducible refine (code_one.calls n (isByte n) _ (one_f n)).mono ?_); rintro e w1 ⟨rfl, hd⟩; refine ⟨_, rfl, ?_⟩; have HD := Aside0.mk hd.below; clear hd) | ((with_reducible refine gate_callee (f := 70) rfl ?_); refine gL 10 Tryd.func70 #[.pointer (some ⟨g, 0, none⟩), .bool (isByte n), .string ⟨#[]⟩, .slice (some ⟨w1.heap.size, 0, none⟩) 1 1] ?_; (refine (puts_calls g w1.heap.size 1 md x.1 (isByte n) x.2 ⟨#[]⟩ [(n, 1)] w0 _ (hO.out.below (below_alloc HD.out _)) (below_then hB.out hB.out.size (below_alloc HD.out _)) (PartsAt.new1 _ n 1 1 rfl) (by decide) (by simp) (by simp) (by omega)).mono ?_); rintro e w2 ⟨rfl, h1, h2, h3⟩; refine ⟨_, rfl, ?_⟩))
 go_end0
 exact ⟨rfl, h1, (OutKept.of_below (below_alloc HD.out _)).trans h2, h3⟩
set_option maxHeartbeats 8000000 in
set_option maxRecDepth 100000 in
theorem Num_calls (g : Nat) (n : Int) (x : St) : Writes 73 g [.int .i64 n] x (x.puts (isTime n) ⟨#[]⟩ [(n, 6)]) := by
 intro md w0 w hO hB hbl
 show Calls Tryd.prog 73 #[.pointer (some ⟨g, 0, none⟩), .int .i64 n] w _
 replace hO := Aside0.mk hO
 replace hB := Aside0.mk hB
 go_enter Tryd.func73, Tryd.ntmps73
 go_wp2_with (first | ((with_reducible refine gate_callee (f := 71) rfl ?_); refine gL 6 Tryd.func71 #[.int .i64 n] ?_; (with_reducible refine (code_time.calls n (isTime n) _ (time_f n)).mono ?_); rintro e w1 ⟨rfl, hd⟩; refine ⟨_, rfl, ?_⟩; have HD := Aside0.mk hd.below; clear hd) | ((with_reducible refine gate_callee (f := 70) rfl ?_); refine gL 10 Tryd.func70 #[.pointer (some ⟨g, 0, none⟩), .bool (isTime n), .string ⟨#[]⟩, .slice (some ⟨w1.heap.size, 0, none⟩) 1 1] ?_; (refine (puts_calls g w1.heap.size 1 md x.1 (isTime n) x.2 ⟨#[]⟩ [(n, 6)] w0 _ (hO.out.below (below_alloc HD.out _)) (below_then hB.out hB.out.size (below_alloc HD.out _)) (PartsAt.new1 _ n 6 6 rfl) (by decide) (by simp) (by simp) (by omega)).mono ?_); rintro e w2 ⟨rfl, h1, h2, h3⟩; refine ⟨_, rfl, ?_⟩))
 go_end0
 exact ⟨rfl, h1, (OutKept.of_below (below_alloc HD.out _)).trans h2, h3⟩
set_option maxHeartbeats 8000000 in
set_option maxRecDepth 100000 in
theorem Text_calls (g : Nat) (s : ByteArray) (hs : s.size ≤ 140737488355328) (x : St) : Writes 38 g [.string s] x (x.puts (decide ((s.size : Int) ≤ 65535)) s [((s.size : Int), 2)]) := by
 intro md w0 w hO hB hbl
 show Calls Tryd.prog 38 #[.pointer (some ⟨g, 0, none⟩), .string s] w _
 replace hO := Aside0.mk hO
 replace hB := Aside0.mk hB
 go_enter Tryd.func38, Tryd.ntmps38
 go_wp2_with ((with_reducible refine gate_callee (f := 70) rfl ?_); refine gL 13 Tryd.func70 #[.pointer (some ⟨g, 0, none⟩), .bool (decide ((s.size : Int) ≤ 65535)), .string s, .slice (some ⟨w.heap.size, 0, none⟩) 1 1] ?_; (refine (puts_calls g w.heap.size 1 md x.1 (decide ((s.size : Int) ≤ 65535)) x.2 s [((s.size : Int), 2)] w0 _ (hO.out.below (below_alloc (Below.refl _ _) _)) (below_then hB.out hB.out.size (below_alloc (Below.refl _ _) _)) (PartsAt.new1 _ s.size 2 2 rfl) hs (by simp) (by simp) (by omega)).mono ?_); rintro e w2 ⟨rfl, h1, h2, h3⟩; refine ⟨_, rfl, ?_⟩)
 go_end0
 exact ⟨rfl, h1, (OutKept.of_below (below_alloc (Below.refl _ _) _)).trans h2, h3⟩
theorem PartsAt.new2h {B : Nat} {wq W : World} (h : Below B wq W) (a k a' k' : Int) (n n' : Nat) (hk : k = n) (hk' : k' = n') : PartsAt (W.alloc (.cells #[.int .i64 a, .int .i64 k, .int .i64 a', .int .i64 k'] 114)) W.heap.size [(a, n), (a', n')] := PartsAt.new2 W a k a' k' n n' hk hk'
def stamp_.T1 : Bool × List (List Nat × List Nat) := (true, [([], []), ([], []), ([1], [1]), ([2], [2]), ([3, 3], [3]), ([4], [4]), ([5, 4], [4, 5]), ([6, 4, 4], [4, 6]), ([4, 7], [4, 7]), ([], []), ([9], [9]), ([10], [10]), ([], []), ([12], [12]), ([13], [13]), ([11, 14], [11, 14]), ([0, 8, 15, 7], [0, 8, 15])])
def stamp_.B1 : List Nat := [0, 0, 2, 6, 14, 30, 62, 126, 254, 0, 512, 1536, 0, 4096, 12288, 32256, 65535]
theorem stamp_.tab1 : rtab .any (opsOf Tryd.f35 1) = stamp_.T1 := by kernel_rfl
theorem stamp_.bits1 : waitsOk stamp_.T1.2 stamp_.B1 = true := by kernel_rfl
set_option maxHeartbeats 8000000 in
set_option maxRecDepth 100000 in
theorem Stamp_calls (g : Nat) (a n : Int) (x : St) : Writes 35 g [.agg #[.int .i64 a, .int .i64 n]] x (x.puts (isTime a && isByte n) ⟨#[]⟩ [(a, 6), (n, 1)]) := by
 intro md w0 w hO hB hbl
 show Calls Tryd.prog 35 #[.pointer (some ⟨g, 0, none⟩), .agg #[.int .i64 a, .int .i64 n]] w _
 replace hO := Aside0.mk hO
 replace hB := Aside0.mk hB
 go_enter Tryd.func35, Tryd.ntmps35
 go_upto_region 1 with fail
 have hbx := (below_alloc (Below.refl w.heap.size w) (.cells #[.int .i64 a, .int .i64 n] 23)).drew
 have hnew := heap_alloc_new w (.cells #[.int .i64 a, .int .i64 n] 23)
 have hc0 : (w.alloc (.cells #[.int .i64 a, .int .i64 n] 23)).drew.cell? ⟨w.heap.size, 0, none⟩ = some (.int .i64 a) := (blk_cell hnew 0).trans rfl
 have hc1 : (w.alloc (.cells #[.int .i64 a, .int .i64 n] 23)).drew.cell? ⟨w.heap.size, 1, none⟩ = some (.int .i64 n) := (blk_cell hnew 1).trans rfl
 have hOq := Aside0.mk (hO.out.below hbx)
 have hBq := Aside0.mk (below_then hB.out hB.out.size hbx)
 have hKq := Aside0.mk (OutKept.of_below (g := g) hbx)
 clear hnew hbx
 obtain ⟨wq, hwq⟩ : ∃ wq, wq = (w.alloc (.cells #[.int .i64 a, .int .i64 n] 23)).drew := ⟨_, rfl⟩
 rw [← hwq] at hc0 hc1 hOq hBq hKq
 have HQ := Aside0.mk hwq
 clear hwq
 cases ht : isTime a with
 | true =>
  refine start_ (n := 17) (S := fun w' => w'.cell? ⟨w.heap.size, 0, none⟩ = some (.int .i64 a) ∧ w'.cell? ⟨w.heap.size, 1, none⟩ = some (.int .i64 n) ∧ Below wq.heap.size wq w') (ds := [16]) (mb 17 0) (by kernel_rfl) rfl (by kernel_rfl) ⟨(by rw [← HQ.out]; exact hc0), (by rw [← HQ.out]; exact hc1), (by rw [← HQ.out]; exact Below.refl _ _)⟩ (fun hHeld => ?_)
  refine with_tabW stamp_.tab1 stamp_.bits1 (fun HT_ HW_ => ?_)
  rw [← HQ.out] at hHeld ⊢
  refine pu 0 4 (mb 17 1) HT_ ?_
  refine pu 1 5 (mb 17 3) HT_ ?_
  refine pu 9 13 (mb 17 515) HT_ ?_
  refine pu 12 16 (mb 17 4611) HT_ ?_
  refine tk 2 6 (mb 17 4615) HT_ HW_ hHeld ?_
  refine tk 10 14 (mb 17 5639) HT_ HW_ hHeld ?_
  refine pu 11 15 (mb 17 7687) HT_ ?_
  refine tk 13 17 (mb 17 15879) HT_ HW_ hHeld ?_
  refine pu 14 18 (mb 17 32263) HT_ ?_
  refine join_ (σ := Nat) 1 (mb 17 65535) (fun s => [(7, .bool true), (8, .bool true), (9, .pointer (some ⟨w.heap.size, 1, none⟩)), (10, .int .i64 n), (11, .bool (isByte n)), (12, .bool (isByte n)), (19, .slice (some ⟨s, 0, none⟩) 2 2)]) (fun s w' => w'.cell? ⟨w.heap.size, 0, none⟩ = some (.int .i64 a) ∧ w'.cell? ⟨w.heap.size, 1, none⟩ = some (.int .i64 n) ∧ Below wq.heap.size wq w' ∧ PartsAt w' s [(a, 6), (n, 1)]) ?_ ?_
  rotate_left
  · intro hCont
    refine two_ (i := 3) (j := 15) (Ni := some 7) (Nj := some 19) (mb 17 32271) (mb 17 65031) rfl rfl rfl rfl (two_of HT_.out (by kernel_rfl)) (by decide) (by decide) (fun K hK => ?_) (fun K hK => ?_)
    · skip
      refine gs Tryd.func71 #[.int .i64 a] ?_
      with_reducible refine (code_time.calls a true _ (by rw [time_f, ht])).mono ?_
      rintro e wc ⟨rfl, hd⟩
      refine ⟨_, rfl, ?_⟩
      have hd3 := Aside0.mk hd.below
      clear hd
      refine hK.out _ _ ⟨pw_cell_below hd3.out hHeld.1, pw_cell_below hd3.out hHeld.2.1, below_then hHeld.2.2 hHeld.2.2.size hd3.out⟩ (fun hHeld => ?_)
      clear hK K
      refine nm _ ?_
      refine pu 4 8 (mb 17 32287) HT_ ?_
      refine pu 5 9 (mb 17 32319) HT_ ?_
      refine tk 6 10 (mb 17 32383) HT_ HW_ hHeld ?_
      refine two_ (i := 7) (j := 15) (Ni := some 11) (Nj := some 19) (mb 17 32511) (mb 17 65151) rfl rfl rfl rfl (two_of HT_.out (by kernel_rfl)) (by decide) (by decide) (fun K hK => ?_) (fun K hK => ?_)
      · skip
        refine gs Tryd.func72 #[.int .i64 n] ?_
        with_reducible refine (code_one.calls n (isByte n) _ (one_f n)).mono ?_
        rintro e wc ⟨rfl, hd⟩
        refine ⟨_, rfl, ?_⟩
        have hd7 := Aside0.mk hd.below
        clear hd
        refine hK.out _ _ ⟨pw_cell_below hd7.out hHeld.1, pw_cell_below hd7.out hHeld.2.1, below_then hHeld.2.2 hHeld.2.2.size hd7.out⟩ (fun hHeld => ?_)
        clear hK K
        refine nm _ ?_
        refine pu 8 12 (mb 17 32767) HT_ ?_
        refine on 15 (some 19) (mb 17 65535) HT_ (fun K hK => ?_)
        refine value_ (w1 := ?_) (v := ?_) (by rfl) rfl ?_ ?_
        rotate_left 2
        · go_simp
          constructor
          · rfl
          · rfl
        have HS := Aside0.mk (PartsAt.new2h hHeld.2.2 a 6 n 1 6 1 rfl rfl)
        refine hK.out _ _ ⟨pw_cell_below (below_alloc (Below.refl _ _) _) hHeld.1, pw_cell_below (below_alloc (Below.refl _ _) _) hHeld.2.1, below_alloc hHeld.2.2 _⟩ (fun hHeld => ?_)
        clear hK K
        refine nm _ ?_
        exact norm_ (by simp only [putAll, Act.put, List.setIfInBounds_toArray, List.set_cons_zero, List.set_cons_succ]) (hCont _ _ ⟨hHeld.1, hHeld.2.1, hHeld.2.2, HS.out⟩)
      · skip
        refine value_ (w1 := ?_) (v := ?_) (by rfl) rfl ?_ ?_
        rotate_left 2
        · go_simp
          constructor
          · rfl
          · rfl
        have HS := Aside0.mk (PartsAt.new2h hHeld.2.2 a 6 n 1 6 1 rfl rfl)
        refine hK.out _ _ ⟨pw_cell_below (below_alloc (Below.refl _ _) _) hHeld.1, pw_cell_below (below_alloc (Below.refl _ _) _) hHeld.2.1, below_alloc hHeld.2.2 _⟩ (fun hHeld => ?_)
        clear hK K
        refine nm _ ?_
        refine on 7 (some 11) (mb 17 65279) HT_ (fun K hK => ?_)
        refine gs Tryd.func72 #[.int .i64 n] ?_
        with_reducible refine (code_one.calls n (isByte n) _ (one_f n)).mono ?_
        rintro e wc ⟨rfl, hd⟩
        refine ⟨_, rfl, ?_⟩
        have hd7 := Aside0.mk hd.below
        clear hd
        replace HS := Aside0.mk (HS.out.below hd7.out)
        refine hK.out _ _ ⟨pw_cell_below hd7.out hHeld.1, pw_cell_below hd7.out hHeld.2.1, below_then hHeld.2.2 hHeld.2.2.size hd7.out⟩ (fun hHeld => ?_)
        clear hK K
        refine nm _ ?_
        refine pu 8 12 (mb 17 65535) HT_ ?_
        exact norm_ (by simp only [putAll, Act.put, List.setIfInBounds_toArray, List.set_cons_zero, List.set_cons_succ]) (hCont _ _ ⟨hHeld.1, hHeld.2.1, hHeld.2.2, HS.out⟩)
    · skip
      refine value_ (w1 := ?_) (v := ?_) (by rfl) rfl ?_ ?_
      rotate_left 2
      · go_simp
        constructor
        · rfl
        · rfl
      have HS := Aside0.mk (PartsAt.new2h hHeld.2.2 a 6 n 1 6 1 rfl rfl)
      refine hK.out _ _ ⟨pw_cell_below (below_alloc (Below.refl _ _) _) hHeld.1, pw_cell_below (below_alloc (Below.refl _ _) _) hHeld.2.1, below_alloc hHeld.2.2 _⟩ (fun hHeld => ?_)
      clear hK K
      refine nm _ ?_
      refine on 3 (some 7) (mb 17 65039) HT_ (fun K hK => ?_)
      refine gs Tryd.func71 #[.int .i64 a] ?_
      with_reducible refine (code_time.calls a true _ (by rw [time_f, ht])).mono ?_
      rintro e wc ⟨rfl, hd⟩
      refine ⟨_, rfl, ?_⟩
      have hd3 := Aside0.mk hd.below
      clear hd
      replace HS := Aside0.mk (HS.out.below hd3.out)
      refine hK.out _ _ ⟨pw_cell_below hd3.out hHeld.1, pw_cell_below hd3.out hHeld.2.1, below_then hHeld.2.2 hHeld.2.2.size hd3.out⟩ (fun hHeld => ?_)
      clear hK K
      refine nm _ ?_
      refine pu 4 8 (mb 17 65055) HT_ ?_
      refine pu 5 9 (mb 17 65087) HT_ ?_
      refine tk 6 10 (mb 17 65151) HT_ HW_ hHeld ?_
      refine on 7 (some 11) (mb 17 65279) HT_ (fun K hK => ?_)
      refine gs Tryd.func72 #[.int .i64 n] ?_
      with_reducible refine (code_one.calls n (isByte n) _ (one_f n)).mono ?_
      rintro e wc ⟨rfl, hd⟩
      refine ⟨_, rfl, ?_⟩
      have hd7 := Aside0.mk hd.below
      clear hd
      replace HS := Aside0.mk (HS.out.below hd7.out)
      refine hK.out _ _ ⟨pw_cell_below hd7.out hHeld.1, pw_cell_below hd7.out hHeld.2.1, below_then hHeld.2.2 hHeld.2.2.size hd7.out⟩ (fun hHeld => ?_)
      clear hK K
      refine nm _ ?_
      refine pu 8 12 (mb 17 65535) HT_ ?_
      exact norm_ (by simp only [putAll, Act.put, List.setIfInBounds_toArray, List.set_cons_zero, List.set_cons_succ]) (hCont _ _ ⟨hHeld.1, hHeld.2.1, hHeld.2.2, HS.out⟩)
  rintro sb w' ⟨h1, h2, h3, HS0⟩
  have hHeld : w'.cell? ⟨w.heap.size, 0, none⟩ = some (.int .i64 a) ∧ w'.cell? ⟨w.heap.size, 1, none⟩ = some (.int .i64 n) ∧ Below wq.heap.size wq w' := ⟨h1, h2, h3⟩
  have HS := Aside0.mk HS0
  clear HS0
  refine norm_ (a' := ?_) ?_ ?_
  rotate_left
  · simp only [putAll, Act.put, List.setIfInBounds_toArray, List.set_cons_zero, List.set_cons_succ]
    rfl
  refine last_ (i := 16) (N := some 20) (mb 17 131071) rfl rfl (one_of HT_.out (by kernel_rfl)) (by decide) (fun K hK => ?_)
  have hc := puts_calls g sb 2 md x.1 (isByte n) x.2 ⟨#[]⟩ [(a, 6), (n, 1)] w0 _ (hOq.out.below hHeld.2.2) (below_then hBq.out hBq.out.size hHeld.2.2) HS.out (by decide) (by simp) (by simp) (by omega)
  have hc' : Calls Tryd.prog 70 #[.pointer (some ⟨g, 0, none⟩), .bool (isByte n), .string ⟨#[]⟩, .slice (some ⟨sb, 0, none⟩) 2 2] _ _ := hc
  refine gs Tryd.func70 #[.pointer (some ⟨g, 0, none⟩), .bool (isByte n), .string ⟨#[]⟩, .slice (some ⟨sb, 0, none⟩) 2 2] ?_
  with_reducible refine (hc').mono ?_
  rintro e w5 ⟨rfl, h1', h2', h3'⟩
  refine ⟨_, rfl, ?_⟩
  have HK5 := Aside0.mk ((OutKept.of_below (g := g) hHeld.2.2).trans h2')
  refine hK.out _ _ ?_
  clear hK K
  refine nm _ ?_
  refine dn HT_ ?_
  go_wp2
  go_end0
  rw [ht]
  exact ⟨rfl, h1', hKq.out.trans HK5.out, h3'⟩
 | false =>
  refine start_ (n := 17) (S := fun w' => w'.cell? ⟨w.heap.size, 0, none⟩ = some (.int .i64 a) ∧ w'.cell? ⟨w.heap.size, 1, none⟩ = some (.int .i64 n) ∧ Below wq.heap.size wq w') (ds := [16]) (mb 17 0) (by kernel_rfl) rfl (by kernel_rfl) ⟨(by rw [← HQ.out]; exact hc0), (by rw [← HQ.out]; exact hc1), (by rw [← HQ.out]; exact Below.refl _ _)⟩ (fun hHeld => ?_)
  refine with_tabW stamp_.tab1 stamp_.bits1 (fun HT_ HW_ => ?_)
  rw [← HQ.out] at hHeld ⊢
  refine pu 0 4 (mb 17 1) HT_ ?_
  refine pu 1 5 (mb 17 3) HT_ ?_
  refine pu 9 13 (mb 17 515) HT_ ?_
  refine pu 12 16 (mb 17 4611) HT_ ?_
  refine tk 2 6 (mb 17 4615) HT_ HW_ hHeld ?_
  refine tk 10 14 (mb 17 5639) HT_ HW_ hHeld ?_
  refine pu 11 15 (mb 17 7687) HT_ ?_
  refine tk 13 17 (mb 17 15879) HT_ HW_ hHeld ?_
  refine pu 14 18 (mb 17 32263) HT_ ?_
  refine join_ (σ := Nat) 1 (mb 17 65535) (fun s => [(7, .bool false), (8, .bool false), (9, undef), (10, undef), (11, undef), (12, .bool false), (19, .slice (some ⟨s, 0, none⟩) 2 2)]) (fun s w' => w'.cell? ⟨w.heap.size, 0, none⟩ = some (.int .i64 a) ∧ w'.cell? ⟨w.heap.size, 1, none⟩ = some (.int .i64 n) ∧ Below wq.heap.size wq w' ∧ PartsAt w' s [(a, 6), (n, 1)]) ?_ ?_
  rotate_left
  · intro hCont
    refine two_ (i := 3) (j := 15) (Ni := some 7) (Nj := some 19) (mb 17 32271) (mb 17 65031) rfl rfl rfl rfl (two_of HT_.out (by kernel_rfl)) (by decide) (by decide) (fun K hK => ?_) (fun K hK => ?_)
    · skip
      refine gs Tryd.func71 #[.int .i64 a] ?_
      with_reducible refine (code_time.calls a false _ (by rw [time_f, ht])).mono ?_
      rintro e wc ⟨rfl, hd⟩
      refine ⟨_, rfl, ?_⟩
      have hd3 := Aside0.mk hd.below
      clear hd
      refine hK.out _ _ ⟨pw_cell_below hd3.out hHeld.1, pw_cell_below hd3.out hHeld.2.1, below_then hHeld.2.2 hHeld.2.2.size hd3.out⟩ (fun hHeld => ?_)
      clear hK K
      refine nm _ ?_
      refine pu 4 8 (mb 17 32287) HT_ ?_
      refine sk 5 9 3 (mb 17 32511) HT_ ?_
      refine pu 8 12 (mb 17 32767) HT_ ?_
      refine on 15 (some 19) (mb 17 65535) HT_ (fun K hK => ?_)
      refine value_ (w1 := ?_) (v := ?_) (by rfl) rfl ?_ ?_
      rotate_left 2
      · go_simp
        constructor
        · rfl
        · rfl
      have HS := Aside0.mk (PartsAt.new2h hHeld.2.2 a 6 n 1 6 1 rfl rfl)
      refine hK.out _ _ ⟨pw_cell_below (below_alloc (Below.refl _ _) _) hHeld.1, pw_cell_below (below_alloc (Below.refl _ _) _) hHeld.2.1, below_alloc hHeld.2.2 _⟩ (fun hHeld => ?_)
      clear hK K
      refine nm _ ?_
      exact norm_ (by simp only [putAll, Act.put, List.setIfInBounds_toArray, List.set_cons_zero, List.set_cons_succ]) (hCont _ _ ⟨hHeld.1, hHeld.2.1, hHeld.2.2, HS.out⟩)
    · skip
      refine value_ (w1 := ?_) (v := ?_) (by rfl) rfl ?_ ?_
      rotate_left 2
      · go_simp
        constructor
        · rfl
        · rfl
      have HS := Aside0.mk (PartsAt.new2h hHeld.2.2 a 6 n 1 6 1 rfl rfl)
      refine hK.out _ _ ⟨pw_cell_below (below_alloc (Below.refl _ _) _) hHeld.1, pw_cell_below (below_alloc (Below.refl _ _) _) hHeld.2.1, below_alloc hHeld.2.2 _⟩ (fun hHeld => ?_)
      clear hK K
      refine nm _ ?_
      refine on 3 (some 7) (mb 17 65039) HT_ (fun K hK => ?_)
      refine gs Tryd.func71 #[.int .i64 a] ?_
      with_reducible refine (code_time.calls a false _ (by rw [time_f, ht])).mono ?_
      rintro e wc ⟨rfl, hd⟩
      refine ⟨_, rfl, ?_⟩
      have hd3 := Aside0.mk hd.below
      clear hd
      replace HS := Aside0.mk (HS.out.below hd3.out)
      refine hK.out _ _ ⟨pw_cell_below hd3.out hHeld.1, pw_cell_below hd3.out hHeld.2.1, below_then hHeld.2.2 hHeld.2.2.size hd3.out⟩ (fun hHeld => ?_)
      clear hK K
      refine nm _ ?_
      refine pu 4 8 (mb 17 65055) HT_ ?_
      refine sk 5 9 3 (mb 17 65279) HT_ ?_
      refine pu 8 12 (mb 17 65535) HT_ ?_
      exact norm_ (by simp only [putAll, Act.put, List.setIfInBounds_toArray, List.set_cons_zero, List.set_cons_succ]) (hCont _ _ ⟨hHeld.1, hHeld.2.1, hHeld.2.2, HS.out⟩)
  rintro sb w' ⟨h1, h2, h3, HS0⟩
  have hHeld : w'.cell? ⟨w.heap.size, 0, none⟩ = some (.int .i64 a) ∧ w'.cell? ⟨w.heap.size, 1, none⟩ = some (.int .i64 n) ∧ Below wq.heap.size wq w' := ⟨h1, h2, h3⟩
  have HS := Aside0.mk HS0
  clear HS0
  refine norm_ (a' := ?_) ?_ ?_
  rotate_left
  · simp only [putAll, Act.put, List.setIfInBounds_toArray, List.set_cons_zero, List.set_cons_succ]
    rfl
  refine last_ (i := 16) (N := some 20) (mb 17 131071) rfl rfl (one_of HT_.out (by kernel_rfl)) (by decide) (fun K hK => ?_)
  have hc := puts_calls g sb 2 md x.1 false x.2 ⟨#[]⟩ [(a, 6), (n, 1)] w0 _ (hOq.out.below hHeld.2.2) (below_then hBq.out hBq.out.size hHeld.2.2) HS.out (by decide) (by simp) (by simp) (by omega)
  have hc' : Calls Tryd.prog 70 #[.pointer (some ⟨g, 0, none⟩), .bool false, .string ⟨#[]⟩, .slice (some ⟨sb, 0, none⟩) 2 2] _ _ := hc
  refine gs Tryd.func70 #[.pointer (some ⟨g, 0, none⟩), .bool false, .string ⟨#[]⟩, .slice (some ⟨sb, 0, none⟩) 2 2] ?_
  with_reducible refine (hc').mono ?_
  rintro e w5 ⟨rfl, h1', h2', h3'⟩
  refine ⟨_, rfl, ?_⟩
  have HK5 := Aside0.mk ((OutKept.of_below (g := g) hHeld.2.2).trans h2')
  refine hK.out _ _ ?_
  clear hK K
  refine nm _ ?_
  refine dn HT_ ?_
  go_wp2
  go_end0
  rw [ht]
  exact ⟨rfl, h1', hKq.out.trans HK5.out, h3'⟩
end Go.Proofs.YtlfgdaiegefjiaaDoor.S
/- What was written, and snap's writer of an operation, as the machine walks them. -/
namespace Go.Proofs.YtlfgdaiegefjiaaDoor.S
open Go.RowKit Go.Proofs.YtlfgdaiegefjiaaDoorW.PrintWords Go.Proofs.YtlfgdaiegefjiaaDoorW.PrintLast Go.Proofs.YtlfgdaiegefjiaaDoorW.PrintMore
set_option linter.unusedVariables false
set_option linter.unusedSimpArgs false
def St.done (x : St) : ByteArray × Int := if x.1 = true then (⟨#[]⟩, 1) else (strOfNums x.2, 0)
set_option maxHeartbeats 8000000 in
theorem Done_calls (g : Nat) (x : St) (w0 w : World) (hO : OutAt w0 w g true x.1 x.2) :
 Calls Tryd.prog 25 #[.pointer (some ⟨g, 0, none⟩)] w fun e w' => e = .returned (.tuple #[.string x.done.1, .int .i64 x.done.2]) ∧ Below w.heap.size w w' := by
 obtain ⟨bd, b⟩ := x
 obtain ⟨v, hblk, hg, hR⟩ := hO
 have k0 : w.cell? ⟨g, 0, none⟩ = some (.bool true) := (blk_cell hblk 0).trans rfl
 have k1 : w.cell? ⟨g, 1, none⟩ = some (.bool bd) := (blk_cell hblk 1).trans rfl
 have k2 : w.cell? ⟨g, 2, none⟩ = some v := (blk_cell hblk 2).trans rfl
 have HR := Aside0.mk hR
 clear hR hblk
 go_enter Tryd.func25, Tryd.ntmps25
 cases bd with
 | true =>
  go_wp2
  go_ret2
  exact ⟨rfl, Below.refl _ _⟩
 | false =>
  have hcv := own_string (P := Tryd.prog) Tryd.underlying51 Tryd.underlying5 Tryd.underlying9 (Kd.own_of_R HR.out)
  obtain ⟨A, c, rfl⟩ := Kd.R_slice HR.out
  go_wp2
  go_ret2
  exact ⟨rfl, Below.refl _ _⟩
def St.byte (x : St) (n : Int) : St := x.puts (isByte n) ⟨#[]⟩ [(n, 1)]
def St.stamp (x : St) (a n : Int) : St := x.puts (isTime a && isByte n) ⟨#[]⟩ [(a, 6), (n, 1)]
def St.text (x : St) (s : ByteArray) : St := x.puts (decide ((s.size : Int) ≤ 65535)) s [((s.size : Int), 2)]
def St.op (x : St) (k t1 w1 t2 w2 t3 w3 : Int) (nm v : ByteArray) : St := (((((x.byte k).stamp t1 w1).stamp t2 w2).stamp t3 w3).text nm).text v
theorem St.byte_le (x : St) (n : Int) (h : x.2.length ≤ 65536) : (x.byte n).2.length ≤ 65536 := putsTo_le _ _ _ _ _ (by simp) h
theorem St.stamp_le (x : St) (a n : Int) (h : x.2.length ≤ 65536) : (x.stamp a n).2.length ≤ 65536 := putsTo_le _ _ _ _ _ (by simp) h
theorem St.text_le (x : St) (s : ByteArray) (h : x.2.length ≤ 65536) : (x.text s).2.length ≤ 65536 := putsTo_le _ _ _ _ _ (by simp) h
def St.at (x : St) (t1 w1 t2 w2 t3 w3 : Int) : Nat → St
 | 0 => x
 | 1 => x.stamp t1 w1
 | 2 => (x.stamp t1 w1).stamp t2 w2
 | _ => ((x.stamp t1 w1).stamp t2 w2).stamp t3 w3
theorem St.at_le (x : St) (t1 w1 t2 w2 t3 w3 : Int) (h : x.2.length ≤ 65536) : ∀ j, (x.at t1 w1 t2 w2 t3 w3 j).2.length ≤ 65536
 | 0 => h
 | 1 => St.stamp_le _ _ _ h
 | 2 => St.stamp_le _ _ _ (St.stamp_le _ _ _ h)
 | _ + 3 => St.stamp_le _ _ _ (St.stamp_le _ _ _ (St.stamp_le _ _ _ h))
set_option maxHeartbeats 16000000 in
set_option maxRecDepth 100000 in
theorem putsOp_calls (g : Nat) (k t1 w1 t2 w2' t3 w3 : Int) (nm v : ByteArray) (hnm : nm.size ≤ 140737488355328) (hv : v.size ≤ 140737488355328) (x : St) :
 Writes 24 g [.agg #[.int .i64 k, .int .i64 t1, .int .i64 w1, .int .i64 t2, .int .i64 w2', .int .i64 t3, .int .i64 w3, .string nm, .string v]] x (x.op k t1 w1 t2 w2' t3 w3 nm v) := by
 intro md w0 w hO hB hbl
 show Calls Tryd.prog 24 #[.pointer (some ⟨g, 0, none⟩), .agg #[.int .i64 k, .int .i64 t1, .int .i64 w1, .int .i64 t2, .int .i64 w2', .int .i64 t3, .int .i64 w3, .string nm, .string v]] w _
 have hOb := hO.below (below_alloc (Below.refl _ _) (.cells #[.int .i64 k, .int .i64 t1, .int .i64 w1, .int .i64 t2, .int .i64 w2', .int .i64 t3, .int .i64 w3, .string nm, .string v] 25))
 have hBb := below_then hB hB.size (below_alloc (Below.refl w.heap.size w) (.cells #[.int .i64 k, .int .i64 t1, .int .i64 w1, .int .i64 t2, .int .i64 w2', .int .i64 t3, .int .i64 w3, .string nm, .string v] 25))
 have hKb := OutKept.of_below (g := g) (below_alloc (Below.refl w.heap.size w) (.cells #[.int .i64 k, .int .i64 t1, .int .i64 w1, .int .i64 t2, .int .i64 w2', .int .i64 t3, .int .i64 w3, .string nm, .string v] 25))
 have hne : g ≠ w.heap.size := by
  obtain ⟨v0, h1, _⟩ := hO
  have := (Array.getElem?_eq_some_iff.1 h1).1
  omega
 have hbx := heap_alloc_new w (.cells #[.int .i64 k, .int .i64 t1, .int .i64 w1, .int .i64 t2, .int .i64 w2', .int .i64 t3, .int .i64 w3, .string nm, .string v] 25)
 clear hO hB
 go_enter Tryd.func24, Tryd.ntmps24
 go_upto_region 1 with fail
 generalize hsz : w.heap.size = bx at hne hbx ⊢
 generalize hwb : w.alloc (.cells #[.int .i64 k, .int .i64 t1, .int .i64 w1, .int .i64 t2, .int .i64 w2', .int .i64 t3, .int .i64 w3, .string nm, .string v] 25) = wb at hOb hBb hKb hbx ⊢
 have HC := Aside0.mk ((Byte_calls g k x) md w0 _ hOb hBb hbl)
 have HBx := Aside0.mk hbx
 have HKb := Aside0.mk hKb
 have c0 : wb.cell? ⟨bx, 0, none⟩ = some (.int .i64 k) := (blk_cell hbx 0).trans rfl
 clear hbx hOb hBb hKb hwb hsz
 go_upto_region 2 with ((with_reducible refine gate_callee (f := 62) rfl ?_); refine gL 9 Tryd.func62 #[.pointer (some ⟨g, 0, none⟩), .int .i64 k] ?_; refine Calls.mono (HC.out) ?_; rintro e w2 ⟨rfl, h1, h2, h3⟩; refine ⟨_, rfl, ?_⟩)
 have HB2 := Aside0.mk (h2.2 _ _ HBx.out (Ne.symm hne) (fun cs e => by cases e))
 have c1 : w2.cell? ⟨bx, 1, none⟩ = some (.int .i64 t1) := (blk_cell HB2.out 1).trans rfl
 have c2 : w2.cell? ⟨bx, 2, none⟩ = some (.int .i64 w1) := (blk_cell HB2.out 2).trans rfl
 have c3 : w2.cell? ⟨bx, 3, none⟩ = some (.int .i64 t2) := (blk_cell HB2.out 3).trans rfl
 have c4 : w2.cell? ⟨bx, 4, none⟩ = some (.int .i64 w2') := (blk_cell HB2.out 4).trans rfl
 have c5 : w2.cell? ⟨bx, 5, none⟩ = some (.int .i64 t3) := (blk_cell HB2.out 5).trans rfl
 have c6 : w2.cell? ⟨bx, 6, none⟩ = some (.int .i64 w3) := (blk_cell HB2.out 6).trans rfl
 have H1 := Aside0.mk h1
 have H2 := Aside0.mk (HKb.out.trans h2)
 have H3 := Aside0.mk h3
 clear h1 h2 h3
 go_wp2
 have hsl := heap_alloc_new w2 (.cells #[.int .i64 t1, .int .i64 w1, .int .i64 t2, .int .i64 w2', .int .i64 t3, .int .i64 w3] 23)
 have hg2 : g ≠ w2.heap.size := by
  obtain ⟨v0, h1, _⟩ := H1.out
  have := (Array.getElem?_eq_some_iff.1 h1).1
  omega
 have HO3 := Aside0.mk (H1.out.below (below_alloc (Below.refl _ _) (.cells #[.int .i64 t1, .int .i64 w1, .int .i64 t2, .int .i64 w2', .int .i64 t3, .int .i64 w3] 23)))
 have HB3 := Aside0.mk (below_then H3.out H3.out.size (below_alloc (Below.refl _ _) (.cells #[.int .i64 t1, .int .i64 w1, .int .i64 t2, .int .i64 w2', .int .i64 t3, .int .i64 w3] 23)))
 have HK3 := Aside0.mk (H2.out.trans (OutKept.of_below (g := g) (below_alloc (Below.refl w2.heap.size w2) (.cells #[.int .i64 t1, .int .i64 w1, .int .i64 t2, .int .i64 w2', .int .i64 t3, .int .i64 w3] 23))))
 have HX3 := Aside0.mk (blk_below HB2.out (below_alloc (Below.refl w2.heap.size w2) (.cells #[.int .i64 t1, .int .i64 w1, .int .i64 t2, .int .i64 w2', .int .i64 t3, .int .i64 w3] 23)))
 generalize hsz : w2.heap.size = sl at hg2 hsl ⊢
 generalize hws : w2.alloc (.cells #[.int .i64 t1, .int .i64 w1, .int .i64 t2, .int .i64 w2', .int .i64 t3, .int .i64 w3] 23) = ws at HO3 HB3 HK3 HX3 hsl ⊢
 have HS := Aside0.mk hsl
 clear hsl hws hsz c0 c1 c2 c3 c4 c5 c6
 go_loopw [18, 5] (fun v18 v5 wr => ∃ (j : Nat), v18 = .int .i64 j ∧ j ≤ 3 ∧ Aside0 (OutAt w0 wr g md ((x.byte k).at t1 w1 t2 w2' t3 w3 j).1 ((x.byte k).at t1 w1 t2 w2' t3 w3 j).2) ∧ Aside0 (OutKept g ws wr) ∧ Aside0 (Below w0.heap.size w0 wr)) (fun v18 _ _ => 3 - (intOf v18).toNat)
 case atStart => exact ⟨0, rfl, by omega, HO3, ⟨OutKept.of_below (Below.refl _ _)⟩, HB3⟩
 case round =>
  obtain ⟨j, rfl, hj, HOr, HKr, HBr⟩ := hrel
  have HSr := Aside0.mk (HKr.out.2 _ _ HS.out (Ne.symm hg2) (fun cs e => by cases e))
  have HXr := Aside0.mk (HKr.out.2 _ _ HX3.out (Ne.symm hne) (fun cs e => by cases e))
  by_cases hj3 : j < 3
  · obtain rfl | rfl | rfl : j = 0 ∨ j = 1 ∨ j = 2 := by omega
    · have e0 : wr.cell? ⟨sl, 0, none⟩ = some (.int .i64 t1) := (blk_cell HSr.out 0).trans rfl
      have e1 : wr.cell? ⟨sl, 1, none⟩ = some (.int .i64 w1) := (blk_cell HSr.out 1).trans rfl
      go_wp2_with ((with_reducible refine gate_callee (f := 35) rfl ?_); refine gL 24 Tryd.func35 #[.pointer (some ⟨g, 0, none⟩), .agg #[.int .i64 t1, .int .i64 w1]] ?_; refine Calls.mono (Stamp_calls g t1 w1 ((x.byte k).at t1 w1 t2 w2' t3 w3 0) md w0 _ (HOr.out.below (below_alloc (Below.refl _ _) _)) (below_then HBr.out HBr.out.size (below_alloc (Below.refl _ _) _)) (St.at_le _ _ _ _ _ _ _ (St.byte_le _ _ hbl) 0)) ?_; rintro e w4 ⟨rfl, h1, h2, h3⟩; refine ⟨_, rfl, ?_⟩)
      go_roundw
      case rel => exact ⟨1, rfl, by omega, ⟨h1⟩, ⟨(HKr.out.trans (OutKept.of_below (below_alloc (Below.refl _ _) _))).trans h2⟩, ⟨h3⟩⟩
      case measure => simp [intOf]
    · have e0 : wr.cell? ⟨sl, 2, none⟩ = some (.int .i64 t2) := (blk_cell HSr.out 2).trans rfl
      have e1 : wr.cell? ⟨sl, 3, none⟩ = some (.int .i64 w2') := (blk_cell HSr.out 3).trans rfl
      go_wp2_with ((with_reducible refine gate_callee (f := 35) rfl ?_); refine gL 24 Tryd.func35 #[.pointer (some ⟨g, 0, none⟩), .agg #[.int .i64 t2, .int .i64 w2']] ?_; refine Calls.mono (Stamp_calls g t2 w2' ((x.byte k).at t1 w1 t2 w2' t3 w3 1) md w0 _ (HOr.out.below (below_alloc (Below.refl _ _) _)) (below_then HBr.out HBr.out.size (below_alloc (Below.refl _ _) _)) (St.at_le _ _ _ _ _ _ _ (St.byte_le _ _ hbl) 1)) ?_; rintro e w4 ⟨rfl, h1, h2, h3⟩; refine ⟨_, rfl, ?_⟩)
      go_roundw
      case rel => exact ⟨2, rfl, by omega, ⟨h1⟩, ⟨(HKr.out.trans (OutKept.of_below (below_alloc (Below.refl _ _) _))).trans h2⟩, ⟨h3⟩⟩
      case measure => simp [intOf]
    · have e0 : wr.cell? ⟨sl, 4, none⟩ = some (.int .i64 t3) := (blk_cell HSr.out 4).trans rfl
      have e1 : wr.cell? ⟨sl, 5, none⟩ = some (.int .i64 w3) := (blk_cell HSr.out 5).trans rfl
      go_wp2_with ((with_reducible refine gate_callee (f := 35) rfl ?_); refine gL 24 Tryd.func35 #[.pointer (some ⟨g, 0, none⟩), .agg #[.int .i64 t3, .int .i64 w3]] ?_; refine Calls.mono (Stamp_calls g t3 w3 ((x.byte k).at t1 w1 t2 w2' t3 w3 2) md w0 _ (HOr.out.below (below_alloc (Below.refl _ _) _)) (below_then HBr.out HBr.out.size (below_alloc (Below.refl _ _) _)) (St.at_le _ _ _ _ _ _ _ (St.byte_le _ _ hbl) 2)) ?_; rintro e w4 ⟨rfl, h1, h2, h3⟩; refine ⟨_, rfl, ?_⟩)
      go_roundw
      case rel => exact ⟨3, rfl, by omega, ⟨h1⟩, ⟨(HKr.out.trans (OutKept.of_below (below_alloc (Below.refl _ _) _))).trans h2⟩, ⟨h3⟩⟩
      case measure => simp [intOf]
  · obtain rfl : j = 3 := by omega
    have f4 : wr.cell? ⟨bx, 7, none⟩ = some (.string nm) := (blk_cell HXr.out 7).trans rfl
    have HT := Aside0.mk ((Text_calls g nm hnm ((x.byte k).at t1 w1 t2 w2' t3 w3 3)) md w0 wr HOr.out HBr.out (St.at_le _ _ _ _ _ _ _ (St.byte_le _ _ hbl) 3))
    go_upto_region 8 with ((with_reducible refine gate_callee (f := 38) rfl ?_); refine gL 29 Tryd.func38 #[.pointer (some ⟨g, 0, none⟩), .string nm] ?_; refine Calls.mono (HT.out) ?_; rintro e w4 ⟨rfl, h1, h2, h3⟩; refine ⟨_, rfl, ?_⟩)
    have HX4 := Aside0.mk (h2.2 _ _ HXr.out (Ne.symm hne) (fun cs e => by cases e))
    have f5 : w4.cell? ⟨bx, 8, none⟩ = some (.string v) := (blk_cell HX4.out 8).trans rfl
    have HT2 := Aside0.mk ((Text_calls g v hv (((x.byte k).at t1 w1 t2 w2' t3 w3 3).text nm)) md w0 w4 h1 h3 (St.text_le _ _ (St.at_le _ _ _ _ _ _ _ (St.byte_le _ _ hbl) 3)))
    have H2' := Aside0.mk ((HK3.out.trans HKr.out).trans h2)
    clear h1 h2 h3
    go_wp2_with ((with_reducible refine gate_callee (f := 38) rfl ?_); refine gL 33 Tryd.func38 #[.pointer (some ⟨g, 0, none⟩), .string v] ?_; refine Calls.mono (HT2.out) ?_; rintro e w5 ⟨rfl, h1, h2, h3⟩; refine ⟨_, rfl, ?_⟩)
    go_end0
    exact ⟨rfl, h1, H2'.out.trans h2, h3⟩
end Go.Proofs.YtlfgdaiegefjiaaDoor.S
/- snap.PutOp, as the machine walks it. -/
namespace Go.Proofs.YtlfgdaiegefjiaaDoor.S
open Go.RowKit Go.Proofs.YtlfgdaiegefjiaaDoorW.PrintWords Go.Proofs.YtlfgdaiegefjiaaDoorW.PrintLast Go.Proofs.YtlfgdaiegefjiaaDoorW.PrintMore
set_option linter.unusedVariables false
set_option linter.unusedSimpArgs false
def putOp (c : Int) (a0 a1 a2 a3 a4 a5 a6 : Int) (a7 a8 : ByteArray) : Option (ByteArray × Int) :=
 if c = 0 then (if a7.size ≤ 140737488355328 ∧ a8.size ≤ 140737488355328 then some (St.done (St.op (false, []) a0 a1 a2 a3 a4 a5 a6 a7 a8)) else none) else some (⟨#[]⟩, c)
def snap_PutOp.f (k : Nat) (a0_0 : Int) (a0_1 : Int) (a0_2 : Int) (a0_3 : Int) (a0_4 : Int) (a0_5 : Int) (a0_6 : Int) (a0_7 : ByteArray) (a0_8 : ByteArray) : Option (ByteArray × Int) :=
 (tree_Check.f k a0_0 a0_1 a0_2 a0_3 a0_4 a0_5 a0_6 a0_7 a0_8).bind fun c => putOp c a0_0 a0_1 a0_2 a0_3 a0_4 a0_5 a0_6 a0_7 a0_8
set_option maxHeartbeats 8000000 in
set_option maxRecDepth 100000 in
theorem snap_PutOp.calls (k : Nat) (a0_0 : Int) (a0_1 : Int) (a0_2 : Int) (a0_3 : Int) (a0_4 : Int) (a0_5 : Int) (a0_6 : Int) (a0_7 : ByteArray) (a0_8 : ByteArray) (r1 : ByteArray) (r2 : Int) (w : World) (h : snap_PutOp.f k a0_0 a0_1 a0_2 a0_3 a0_4 a0_5 a0_6 a0_7 a0_8 = some (r1, r2)) (hL : Laid w) :
 Calls Tryd.prog 10 #[.agg #[.int .i64 a0_0, .int .i64 a0_1, .int .i64 a0_2, .int .i64 a0_3, .int .i64 a0_4, .int .i64 a0_5, .int .i64 a0_6, .string a0_7, .string a0_8]] w fun e w' => e = .returned (.tuple #[.string r1, .int .i64 r2]) ∧ Below w.heap.size w w' := by
 obtain ⟨c, hc, h⟩ := Option.bind_eq_some_iff.1 h
 have hnew := heap_alloc_new w (.cells #[.int .i64 a0_0, .int .i64 a0_1, .int .i64 a0_2, .int .i64 a0_3, .int .i64 a0_4, .int .i64 a0_5, .int .i64 a0_6, .string a0_7, .string a0_8] 25)
 have hB1 := below_alloc (Below.refl w.heap.size w) (.cells #[.int .i64 a0_0, .int .i64 a0_1, .int .i64 a0_2, .int .i64 a0_3, .int .i64 a0_4, .int .i64 a0_5, .int .i64 a0_6, .string a0_7, .string a0_8] 25)
 have hck := fun hL1 => tree_Check.calls k a0_0 a0_1 a0_2 a0_3 a0_4 a0_5 a0_6 a0_7 a0_8 c (w.alloc (.cells #[.int .i64 a0_0, .int .i64 a0_1, .int .i64 a0_2, .int .i64 a0_3, .int .i64 a0_4, .int .i64 a0_5, .int .i64 a0_6, .string a0_7, .string a0_8] 25)) hc hL1
 replace hck := Aside0.mk (hck (hL.below hB1))
 clear hc hL
 have HH := Aside0.mk h
 clear h
 go_enter Tryd.func10, Tryd.ntmps10
 go_upto_region 1 with fail
 generalize hr : w.heap.size = r at hnew ⊢
 generalize hw1 : w.alloc (.cells #[.int .i64 a0_0, .int .i64 a0_1, .int .i64 a0_2, .int .i64 a0_3, .int .i64 a0_4, .int .i64 a0_5, .int .i64 a0_6, .string a0_7, .string a0_8] 25) = w1 at hnew hB1 hck ⊢
 have Hr1 := Aside0.mk hnew
 have HB1 := Aside0.mk hB1
 have e0 : w1.cell? ⟨r, 0, none⟩ = some (.int .i64 a0_0) := (blk_cell hnew 0).trans rfl
 have e1 : w1.cell? ⟨r, 1, none⟩ = some (.int .i64 a0_1) := (blk_cell hnew 1).trans rfl
 have e2 : w1.cell? ⟨r, 2, none⟩ = some (.int .i64 a0_2) := (blk_cell hnew 2).trans rfl
 have e3 : w1.cell? ⟨r, 3, none⟩ = some (.int .i64 a0_3) := (blk_cell hnew 3).trans rfl
 have e4 : w1.cell? ⟨r, 4, none⟩ = some (.int .i64 a0_4) := (blk_cell hnew 4).trans rfl
 have e5 : w1.cell? ⟨r, 5, none⟩ = some (.int .i64 a0_5) := (blk_cell hnew 5).trans rfl
 have e6 : w1.cell? ⟨r, 6, none⟩ = some (.int .i64 a0_6) := (blk_cell hnew 6).trans rfl
 have e7 : w1.cell? ⟨r, 7, none⟩ = some (.string a0_7) := (blk_cell hnew 7).trans rfl
 have e8 : w1.cell? ⟨r, 8, none⟩ = some (.string a0_8) := (blk_cell hnew 8).trans rfl
 clear hnew hB1 hw1
 go_upto_region 2 with ((with_reducible refine gate_callee (f := 22) rfl ?_); refine gL 7 Tryd.func22 #[.agg #[.int .i64 a0_0, .int .i64 a0_1, .int .i64 a0_2, .int .i64 a0_3, .int .i64 a0_4, .int .i64 a0_5, .int .i64 a0_6, .string a0_7, .string a0_8]] ?_; refine Calls.mono (hck.out) ?_; rintro e w2 ⟨rfl, hb⟩; refine ⟨_, rfl, ?_⟩)
 have HB2 := Aside0.mk (below_then HB1.out HB1.out.size hb)
 have Hr2 := Aside0.mk (blk_below Hr1.out hb)
 clear hb e0 e1 e2 e3 e4 e5 e6 e7 e8
 by_cases hc : c = 0
 · subst hc
   have hh := HH.out
   unfold putOp at hh
   rw [if_pos rfl] at hh
   by_cases hsz : a0_7.size ≤ 140737488355328 ∧ a0_8.size ≤ 140737488355328
   · rw [if_pos hsz] at hh
     obtain ⟨h7, h8⟩ := hsz
     have HD := Aside0.mk (Option.some.inj hh)
     clear hh
     go_upto_region 5 with ((with_reducible refine gate_callee (f := 23) rfl ?_); refine gL 11 Tryd.func23 #[] ?_; refine Calls.mono (NewOut_calls w _ HB2.out) ?_; rintro e w3 ⟨g, rfl, hO, hge, hb⟩; refine ⟨_, rfl, ?_⟩)
     have Hr3 := Aside0.mk (blk_below Hr2.out hb)
     have e0 : w3.cell? ⟨r, 0, none⟩ = some (.int .i64 a0_0) := (blk_cell Hr3.out 0).trans rfl
     have e1 : w3.cell? ⟨r, 1, none⟩ = some (.int .i64 a0_1) := (blk_cell Hr3.out 1).trans rfl
     have e2 : w3.cell? ⟨r, 2, none⟩ = some (.int .i64 a0_2) := (blk_cell Hr3.out 2).trans rfl
     have e3 : w3.cell? ⟨r, 3, none⟩ = some (.int .i64 a0_3) := (blk_cell Hr3.out 3).trans rfl
     have e4 : w3.cell? ⟨r, 4, none⟩ = some (.int .i64 a0_4) := (blk_cell Hr3.out 4).trans rfl
     have e5 : w3.cell? ⟨r, 5, none⟩ = some (.int .i64 a0_5) := (blk_cell Hr3.out 5).trans rfl
     have e6 : w3.cell? ⟨r, 6, none⟩ = some (.int .i64 a0_6) := (blk_cell Hr3.out 6).trans rfl
     have e7 : w3.cell? ⟨r, 7, none⟩ = some (.string a0_7) := (blk_cell Hr3.out 7).trans rfl
     have e8 : w3.cell? ⟨r, 8, none⟩ = some (.string a0_8) := (blk_cell Hr3.out 8).trans rfl
     have hw := Aside0.mk ((putsOp_calls g a0_0 a0_1 a0_2 a0_3 a0_4 a0_5 a0_6 a0_7 a0_8 h7 h8 (false, [])) true w w3 hO (below_then HB2.out HB2.out.size hb) (by simp))
     clear hO hb
     go_upto_region 6 with ((with_reducible refine gate_callee (f := 24) rfl ?_); refine gL 14 Tryd.func24 #[.pointer (some ⟨g, 0, none⟩), .agg #[.int .i64 a0_0, .int .i64 a0_1, .int .i64 a0_2, .int .i64 a0_3, .int .i64 a0_4, .int .i64 a0_5, .int .i64 a0_6, .string a0_7, .string a0_8]] ?_; refine Calls.mono (hw.out) ?_; rintro e w4 ⟨rfl, h1, h2, h3⟩; refine ⟨_, rfl, ?_⟩)
     have hd := Aside0.mk (Done_calls g (St.op (false, []) a0_0 a0_1 a0_2 a0_3 a0_4 a0_5 a0_6 a0_7 a0_8) w w4 h1)
     have HB4 := Aside0.mk h3
     clear h1 h2 h3 e0 e1 e2 e3 e4 e5 e6 e7 e8
     go_wp2_with ((with_reducible refine gate_callee (f := 25) rfl ?_); refine gL 16 Tryd.func25 #[.pointer (some ⟨g, 0, none⟩)] ?_; refine Calls.mono (hd.out) ?_; rintro e w5 ⟨rfl, hb⟩; refine ⟨_, rfl, ?_⟩)
     go_ret2
     rw [HD.out]
     exact ⟨rfl, below_then HB4.out HB4.out.size hb⟩
   · rw [if_neg hsz] at hh
     exact absurd hh (by simp)
 · have hh := HH.out
   unfold putOp at hh
   rw [if_neg hc] at hh
   have c0 : (c == 0) = false := by simpa using hc
   have c1 : (c != 0) = true := by simpa using hc
   go_wp2
   go_ret2
   obtain ⟨rfl, rfl⟩ := Prod.mk.inj (Option.some.inj hh)
   exact ⟨rfl, HB2.out⟩
end Go.Proofs.YtlfgdaiegefjiaaDoor.S
