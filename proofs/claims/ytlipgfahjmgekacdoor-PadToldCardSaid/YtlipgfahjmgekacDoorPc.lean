/- pad.Sizes, as the machine walks it. -/
import Derived.Test.YtlipgfahjmgekacDoorPb
import Derived.Test.YtlipgfahjmgekacDoorShp
namespace Go.Proofs.YtlipgfahjmgekacDoor.S
open Go.RowKit Go.Maps Go.Sort Go.Shelf Go.Proofs.YtlipgfahjmgekacDoorW.PrintWords Go.Proofs.YtlipgfahjmgekacDoorW.PrintLast Go.Proofs.YtlipgfahjmgekacDoorW.PrintMore
attribute [local go_sem] Oper.semAt_some
set_option linter.unusedVariables false
set_option linter.unusedSimpArgs false
theorem map_encZ (l : List Int) : l.map encZ = nums .i64 l := rfl
set_option maxRecDepth 100000 in
set_option maxHeartbeats 4000000 in
theorem pad_Sizes_own (w : World) :
    Calls Tryd.prog 12 #[] w fun e w' => ∃ v : Value, e = .returned v ∧ w'.ownsRow w.heap.size 3 1 v (upto 9).length ((upto 9).map encZ) ∧ Below w.heap.size w w' := by
  refine (callsIn_wide (n := 6)).1 ?_
  have hseq : ∀ W, SeqGives Fence.wide 3 Tryd.prog 24 #[] encZ (fun xs => xs = upto 9) 9 W := fun W => (sizes_stops Fence.wide 3 trivial rfl (by omega) W).gives
  have cS := fun W => AnyZI.collect_in Tryd.collectA Fence.wide 5 trivial trivial rfl (by omega) 24 #[] trivial (enters_of Tryd.func24 (by kernel_rfl) rfl) (fun xs => xs = upto 9) 9 (by decide) (by omega) W (hseq W)
  change ∀ W, CallsIn _ _ Tryd.prog 20 _ _ _ at cS
  have hf19 : Fence.wide.fn 19 := trivial
  have hf20 : Fence.wide.fn 20 := trivial
  refine callsIn_of_wp Tryd.func12 rfl trivial ?_ rfl
  simp only [Tryd.ntmps12, List.size_toArray, List.length_cons, List.length_nil, Nat.reduceAdd, Nat.reduceSub, Array.replicate_succ, Array.replicate_zero, List.push_toArray, List.append_toArray, List.nil_append, List.cons_append]
  gi_wp2_with (first
    | (gi_at_call 19; refine (sizes_in Fence.wide 5 trivial rfl _).mono ?_; rintro e w' ⟨rfl, rfl⟩)
    | (gi_at_call 20; refine (cS _).mono ?_; rintro e w' ⟨v, ss, rfl, rfl, hown, hnil, hb⟩; replace hown := Aside0.mk hown; clear hnil))
  refine bodyPost_ret (results_tmp rfl _ _ _) rfl ?_
  exact ⟨_, rfl, hown.out, hb⟩
def pad_Sizes.f : Option (List Int) := some (upto 9)
theorem pad_Sizes.calls (r : List Int) (w : World) (h : pad_Sizes.f = some r) :
    Calls Tryd.prog 12 #[] w fun e w' => ∃ v0_ : Value, e = .returned (v0_) ∧ Kd.R (Kd.int .i64) 3 w' w.heap.size (fun _ => True) v0_ r ∧ Below w.heap.size w w' := by
  obtain rfl := Option.some.inj h
  refine (pad_Sizes_own w).mono ?_
  rintro e w' ⟨v, rfl, ho, hb⟩
  exact ⟨v, rfl, Kd.R_of_own ho (fun _ _ => trivial), hb⟩
/-- strings.Repeat of few bytes. -/
def strings_Repeat.f (s : ByteArray) (n : Int) : Option ByteArray := if 0 ≤ n ∧ n ≤ 1048576 ∧ s.size ≤ 1048576 then some ⟨(Lib.repeatL s.data.toList n.toNat).toArray⟩ else none
theorem extra : Builder.Extra Tryd.prog Tryd.laysRepeat_ren where
  sizeBuilder := by kernel_rfl
  liesBuilder := by kernel_rfl
  t5 := Tryd.laysRepeat.t5
  a5 := Tryd.laysRepeat.a5
  z5 := Tryd.laysRepeat.z5
  v5 := Tryd.laysRepeat.v5
  infoByte := by kernel_rfl
  cellsByte := by kernel_rfl
  sizeByte := by kernel_rfl
  neB5 := by decide
theorem fRepeat : Tryd.laysRepeat_ren.f 105 = 21 := by kernel_rfl
theorem strings_Repeat.calls (s : ByteArray) (n : Int) (r : ByteArray) (w : World) (h : strings_Repeat.f s n = some r) :
    Calls Tryd.prog 21 #[.string s, .int .i64 n] w fun e w' => e = .returned (.string r) ∧ Below w.heap.size w w' := by
  unfold strings_Repeat.f at h
  split at h
  case isFalse => cases h
  rename_i hn
  obtain rfl := Option.some.inj h
  obtain ⟨c, rfl⟩ : ∃ c : Nat, n = (c : Int) := ⟨n.toNat, by omega⟩
  have hm : s.size * c ≤ 1048576 * 1048576 := Nat.mul_le_mul (by omega) (by omega)
  have h2 := Any.strings_Repeat Tryd.laysRepeat extra s c w (by omega) (by omega)
  rw [fRepeat] at h2
  exact h2
end Go.Proofs.YtlipgfahjmgekacDoor.S
