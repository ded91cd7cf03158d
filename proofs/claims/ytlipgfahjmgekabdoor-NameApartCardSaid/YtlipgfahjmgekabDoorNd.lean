/- name.Distinct, as the machine walks it: texts, each by a name of its own; a map of the names that are taken. -/
import Derived.Test.YtlipgfahjmgekabDoorSL1
import Derived.Test.YtlipgfahjmgekabDoorNa
import Derived.Test.YtlipgfahjmgekabDoorNi
import Derived.Test.YtlipgfahjmgekabDoorNm
import Derived.LoopTactic
namespace Go.Proofs.YtlipgfahjmgekabDoor.S
open Go.RowKit Go.Maps Go.Proofs.YtlipgfahjmgekabDoorW.PrintWords Go.Proofs.YtlipgfahjmgekabDoorW.PrintLast Go.Proofs.YtlipgfahjmgekabDoorW.PrintMore
set_option linter.unusedVariables false
set_option linter.unusedSimpArgs false
theorem Taken.below {w w' : World} {B n : Nat} {L : List ByteArray} (h : Taken w B n L) (hb : Below w.heap.size w w') : Taken w' B n L := by
  have hl := h.lt
  obtain ⟨D, ⟨es, clock, h1, h1'⟩, h2⟩ := h
  exact ⟨D, ⟨es, clock, (hb.block B hl).trans h1, h1'⟩, h2⟩
def tailOf (d : ByteArray) : ByteArray := (⟨#[126]⟩ : ByteArray) ++ d
def name_Distinct.one : Nat → List ByteArray → ByteArray → ByteArray → Int → Option ByteArray
  | 0, _, _, _, _ => none
  | q + 1, L, s, t, k => if inB L t = true then ((strconv_Itoa_27.f k).bind fun d => if 1 + d.size ≤ 9223372036854775807 then ((name_Cut.f s (32 - (1 + (d.size : Int)))).bind fun c => if c.size + (1 + d.size) ≤ 1048576 then name_Distinct.one q L s (c ++ tailOf d) (wrap64 (k + 1)) else none) else none) else some t
def name_Distinct.all : List ByteArray → List ByteArray → Option (List ByteArray)
  | [], acc => some acc
  | s :: l, acc => if s.size ≤ 1048576 then (name_Distinct.one 99 acc s s 2).bind fun t => name_Distinct.all l (acc ++ [t]) else none
def name_Distinct.f (l0 : List ByteArray) : Option (List ByteArray) := if l0.length ≤ 1048576 then name_Distinct.all l0 [] else none
set_option maxHeartbeats 8000000 in
set_option maxRecDepth 100000 in
theorem name_Distinct.calls (A0 : Option Addr) (c0 : Nat) (l0 : List ByteArray) (r : List ByteArray) (w : World) (hr0 : Kd.C Kd.string w A0 l0.length l0) (hc0 : l0.length ≤ c0) (h : name_Distinct.f l0 = some r) :
    Calls Tryd.prog 20 #[.slice A0 l0.length c0] w fun e w' => ∃ v0_ : Value, e = .returned (v0_) ∧ Kd.R Kd.string 9 w' w.heap.size (fun _ => True) v0_ r ∧ Below w.heap.size w w' := by
  have HR0 := Aside0.mk hr0
  have HC0 := Aside0.mk hc0
  clear hr0 hc0
  unfold name_Distinct.f at h
  split at h
  case isFalse => cases h
  rename_i hlen
  have H := Aside0.mk h
  clear h
  have hmm := @run_makeMap Tryd.prog
  go_enter Tryd.func20, Tryd.ntmps20
  go_wp2
  go_loopw [4, 13] (fun v4 v13 w' => ∃ (k : Nat) (acc : List ByteArray), v13 = .int .i64 k ∧ k ≤ l0.length ∧ Aside0 (name_Distinct.all (l0.drop k) acc = some r) ∧ Aside0 (acc.length = k) ∧ Aside0 (Kd.R Kd.string 9 w' w.heap.size (fun j => j ≠ w.heap.size) v4 acc) ∧ Aside0 (Taken w' w.heap.size k acc) ∧ Aside0 (Below w.heap.size w w')) (fun _ v13 _ => l0.length - (intOf v13).toNat)
  case atStart => exact ⟨0, [], rfl, Nat.zero_le _, ⟨by rw [List.drop_zero]; exact H.out⟩, ⟨rfl⟩, ⟨Kd.R_nil _ _ _ _ _⟩, ⟨Taken.made w⟩, ⟨below_alloc (Below.refl _ _) _⟩⟩
  case round =>
    clear H hmm
    obtain ⟨k, acc, rfl, hk, hall, hal, hR, hT, hB⟩ := hrel
    by_cases hlt : k < l0.length
    · obtain ⟨s, hs⟩ : ∃ s, s = rdOf ByteArray.empty l0 (k : Int) := ⟨_, rfl⟩
      obtain ⟨ad, ead, hx0⟩ := Kd.at_string HR0.out (k : Int) (by omega) (by omega)
      cases ead
      replace hx0 := (hB.out.cell (World.block_lt_of_cell? w _ hx0)).trans hx0
      rw [← hs, Int.toNat_natCast] at hx0
      have hall2 : name_Distinct.all (s :: l0.drop (k + 1)) acc = some r := by
        have h := hall.out
        rw [List.drop_eq_getElem_cons hlt] at h
        rw [hs]
        simpa [rdOf, hlt] using h
      unfold name_Distinct.all at hall2
      split at hall2
      case isFalse => cases hall2
      rename_i hss
      obtain ⟨t1, hone, hrest⟩ := Option.bind_eq_some_iff.mp hall2
      replace hone := Aside0.mk hone
      replace hrest := Aside0.mk hrest
      clear hall2 hall hs
      go_wp2
      go_loopg [7, 8] 99 (fun q v7 v8 w' => ∃ (t : ByteArray) (x : Int), v7 = .string t ∧ v8 = .int .i64 x ∧ Aside0 (name_Distinct.one q acc s t x = some t1) ∧ t.size ≤ 1048576 ∧ Aside0 (Kd.R Kd.string 9 w' w.heap.size (fun j => j ≠ w.heap.size) u4 acc) ∧ Aside0 (Taken w' w.heap.size k acc) ∧ Aside0 (Below w.heap.size w w'))
      case atStart => exact ⟨s, 2, rfl, rfl, hone, hss, hR, hT, hB⟩
      case round =>
        clear hx0 hone hR hT hB
        obtain ⟨t, x, rfl, rfl, hone, hts, hR, hT, hB⟩ := hrel
        cases gk with
        | zero => exact absurd hone.out (by simp [name_Distinct.one])
        | succ q =>
          have h1 := hone.out
          clear hone
          simp only [name_Distinct.one] at h1
          have hlk := hT.out.look t (by unfold maxLen; omega)
          by_cases hin : inB acc t = true
          · rw [if_pos hin] at h1
            rw [hin] at hlk
            obtain ⟨d, hd, h1⟩ := Option.bind_eq_some_iff.mp h1
            split at h1
            case isFalse => cases h1
            rename_i hd1
            obtain ⟨c, hc, h1⟩ := Option.bind_eq_some_iff.mp h1
            split at h1
            case isFalse => cases h1
            rename_i hcs
            have g1 : (9223372036854775807 < 1 + d.size) = False := eq_false (by omega)
            have g2 : (9223372036854775807 < c.size + (1 + d.size)) = False := eq_false (by omega)
            unfold tailOf at h1
            replace hd := Aside0.mk hd
            replace hc := Aside0.mk hc
            replace h1 := Aside0.mk h1
            go_wp2_with (first | (go_at_call 27; (with_reducible refine (strconv_Itoa_27.calls x d _ hd.out).mono ?_); rintro e w1 ⟨rfl, ⟨nd, rfl⟩⟩) | (go_at_call 14; (with_reducible refine (name_Cut.calls s (32 - (1 + (d.size : Int))) c _ hc.out).mono ?_); rintro e w2 ⟨rfl, hb2⟩))
            go_roundg q
            case measure => omega
            case rel => exact ⟨_, _, rfl, rfl, h1, by rw [ByteArray.size_append, ByteArray.size_append]; have e1 : (⟨#[126]⟩ : ByteArray).size = 1 := rfl; omega, ⟨Kd.R_below (Kd.R_drewN hR.out nd) hb2⟩, ⟨Taken.below (hT.out.below (pw_below_drewN (Below.refl _ _) nd)) hb2⟩, ⟨below_then (pw_below_drewN hB.out nd) (pw_below_drewN hB.out nd).size hb2⟩⟩
          · rw [if_neg hin] at h1
            obtain rfl := Option.some.inj h1
            replace hin := Bool.eq_false_iff.mpr hin
            rw [hin] at hlk
            obtain ⟨w2, hst, hT2, hg2⟩ := hT.out.store t (by unfold maxLen; omega) (by unfold maxLen; omega)
            have hB2 : Aside0 (Below w.heap.size w w2) := ⟨hB.out.grown hg2 hB.out.size (fun j hj => by cases hj; exact Nat.le_refl _)⟩
            have hR2 : Aside0 (Kd.R Kd.string 9 w2 w.heap.size (fun j => j ≠ w.heap.size) u4 acc) := ⟨Kd.R_grown hR.out hg2 (fun j hj he => hj (by injection he))⟩
            replace hT2 := Aside0.mk hT2
            have hlt2 := hT2.out.lt
            have hL := Aside0.mk (show acc.length ≤ 1048576 by have := hal.out; omega)
            go_wp2_with (first | ((with_reducible refine gate_builtin (b := .append) (xs := #[.tmp 35, .tmp 37]) rfl ?_); at_builtin; refine Kd.R_append Kd.string (w0 := w) w.heap.size rfl (.tmp 35) (.tmp 37) 30 9 (.string ⟨#[]⟩) 16 rfl Tryd.underlying30 info9 rfl (by decide) (by omega) u4 acc t [.string t] (fun j => j ≠ w.heap.size) (fun _ => False) rfl rfl ?aP (fun _ hk => hk.elim) ?aF ?aO ?aB ?aS ?aL ?_; (case aP => exact rfl); (case aB => exact hB2.out); (case aF => exact fun j hj => by omega); (case aO => exact hR2.out); (case aS => exact hB2.out.size); (case aL => have := hL.out; omega); intro v1 w3 ho hb hg hat; have ho := Aside0.mk ho; have hb := Aside0.mk hb; have hT3 := Aside0.mk (hT2.out.kept hg (fun he => hR2.out.1 _ he.symm rfl))))
            exact ⟨⟨k + 1, acc ++ [t], by simp, by omega, hrest, ⟨by rw [List.length_append, hal.out]; rfl⟩, ho, hT3, hb⟩, by simp [intOf]; omega⟩
    · obtain rfl : k = l0.length := by omega
      have hr : acc = r := by
        have h := hall.out
        rw [List.drop_length] at h
        simpa [name_Distinct.all] using h
      go_wp2
      go_ret
      exact ⟨_, rfl, by rw [← hr]; exact Kd.R_mono hR.out (fun _ _ => trivial), hB.out⟩
end Go.Proofs.YtlipgfahjmgekabDoor.S
