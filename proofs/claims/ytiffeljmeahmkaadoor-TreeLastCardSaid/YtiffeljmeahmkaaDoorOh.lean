/- Of names and values the last stamp wins: plain laws. -/
import Derived.Test.YtiffeljmeahmkaaDoorOf
namespace Go.Proofs.YtiffeljmeahmkaaDoor.S
open Go.RowKit Go.Proofs.YtiffeljmeahmkaaDoorW.PrintWords Go.Proofs.YtiffeljmeahmkaaDoorW.PrintLast Go.Proofs.YtiffeljmeahmkaaDoorW.PrintMore
set_option linter.unusedVariables false
set_option linter.unusedSimpArgs false
/-- The last operation of a kind, and what it says. -/
def lastBy (f : Opn → Bool) (g : Opn → ByteArray) (d : Stp × ByteArray) (l : List Opn) : Stp × ByteArray := l.foldl (fun a o => if f o = true then (o.f1, g o) else a) d
theorem lastBy_app (f : Opn → Bool) (g : Opn → ByteArray) (d : Stp × ByteArray) (a b : List Opn) : lastBy f g d (a ++ b) = lastBy f g (lastBy f g d a) b := by unfold lastBy; rw [List.foldl_append]
theorem lastBy_cases (f : Opn → Bool) (g : Opn → ByteArray) : ∀ (l : List Opn), (∀ d, lastBy f g d l = d) ∨ (∃ y ∈ l, f y = true ∧ ∀ d, lastBy f g d l = (y.f1, g y))
  | [] => .inl (fun d => rfl)
  | o :: l => by
    rcases lastBy_cases f g l with h | ⟨y, hy, hf, h⟩
    · by_cases ho : f o = true
      · refine .inr ⟨o, List.mem_cons_self .., ho, fun d => ?_⟩
        show lastBy f g (if f o = true then (o.f1, g o) else d) l = _
        rw [if_pos ho, h]
      · refine .inl (fun d => ?_)
        show lastBy f g (if f o = true then (o.f1, g o) else d) l = _
        rw [if_neg ho, h]
    · exact .inr ⟨y, List.mem_cons_of_mem _ hy, hf, fun d => h _⟩
theorem last_ins {f : Opn → Bool} {g : Opn → ByteArray} {d : Stp × ByteArray} {l : List Opn} {o : Opn} (hs : Sorted l) (hd : lessB d.1 o.f1 = true) (hn : isIn l o.f1 = false) :
    lastBy f g d (insO l o) = if (f o && lessB (lastBy f g d l).1 o.f1) = true then (o.f1, g o) else lastBy f g d l := by
  have e : l = l.take (rank l o.f1) ++ l.drop (rank l o.f1) := (List.take_append_drop _ _).symm
  have htk : ∀ x ∈ l.take (rank l o.f1), lessB x.f1 o.f1 = true := fun x hx => by
    rw [take_rank] at hx
    exact take_all _ l x hx
  have hdr : ∀ y ∈ l.drop (rank l o.f1), lessB o.f1 y.f1 = true := fun y hy => by
    obtain ⟨k, hk, rfl⟩ := List.getElem_of_mem hy
    rw [List.length_drop] at hk
    rw [List.getElem_drop]
    have h1 := ranked l o.f1 hs (rank l o.f1 + k) (by omega)
    rw [decide_eq_false (by omega)] at h1
    rcases less_or _ _ h1 with h2 | h2
    · exfalso
      have := isIn_of hs (List.getElem_mem (show rank l o.f1 + k < l.length by omega)) (eqS_iff.1 h2)
      rw [this] at hn
      cases hn
    · exact h2
  have el : lastBy f g d l = lastBy f g (lastBy f g d (l.take (rank l o.f1))) (l.drop (rank l o.f1)) := by rw [← lastBy_app, ← e]
  have ei : lastBy f g d (insO l o) = lastBy f g (if f o = true then (o.f1, g o) else lastBy f g d (l.take (rank l o.f1))) (l.drop (rank l o.f1)) := by
    unfold insO
    rw [lastBy_app]
    rfl
  rw [ei, el]
  cases hf : f o with
  | false => rw [if_neg (by simp), if_neg (by simp)]
  | true =>
    rw [if_pos rfl]
    rcases lastBy_cases f g (l.drop (rank l o.f1)) with h | ⟨y, hy, _, h⟩
    · rw [h, h]
      have ha : lessB (lastBy f g d (l.take (rank l o.f1))).1 o.f1 = true := by
        rcases lastBy_cases f g (l.take (rank l o.f1)) with h2 | ⟨x, hx, _, h2⟩
        · rw [h2]; exact hd
        · rw [h2]; exact htk x hx
      rw [ha, Bool.and_self, if_pos rfl]
    · rw [h, h]
      have : lessB y.f1 o.f1 = false := by
        cases h3 : lessB y.f1 o.f1 with
        | false => rfl
        | true => exact (less_asym _ _ h3 (hdr y hy)).elim
      rw [show lessB ((y.f1, g y) : Stp × ByteArray).1 o.f1 = false from this, if_neg (by simp)]
def isR (o : Opn) : Bool := o.f0 == 3
def isV (o : Opn) : Bool := o.f0 == 4
def first5 : ByteArray := ⟨#[102, 105, 114, 115, 116]⟩
def nameL (l : List Opn) : Stp × ByteArray := lastBy isR (fun o => o.f4) (⟨1, 1⟩, first5) l
def valL (l : List Opn) : Stp × ByteArray := lastBy isV (fun o => o.f5) (⟨1, 1⟩, ⟨#[]⟩) l
def crO : Opn := ⟨1, ⟨1, 1⟩, ⟨1, 1⟩, ⟨0, 0⟩, first5, ⟨#[]⟩⟩
/-- A name or a value for the law's node. -/
def NV (o : Opn) : Prop := o.f2 = ⟨1, 1⟩ ∧ (o.f0 = 3 ∨ o.f0 = 4) ∧ 2 ≤ o.f1.f0
theorem nv_do {o : Opn} (h : NV o) (nm vl : ByteArray) : doN [⟨⟨1, 1⟩, ⟨0, 0⟩, nm, vl⟩] o = [⟨⟨1, 1⟩, ⟨0, 0⟩, if isR o = true then o.f4 else nm, if isV o = true then o.f5 else vl⟩] := by
  obtain ⟨h1, h2, _⟩ := h
  have hl : look [⟨⟨1, 1⟩, ⟨0, 0⟩, nm, vl⟩] ⟨1, 1⟩ = ⟨⟨1, 1⟩, ⟨0, 0⟩, nm, vl⟩ := rfl
  have hh : has [⟨⟨1, 1⟩, ⟨0, 0⟩, nm, vl⟩] ⟨1, 1⟩ = true := rfl
  unfold doN isR isV
  rcases h2 with e | e
  · rw [e, h1, hl, hh]
    rfl
  · rw [e, h1, hl, hh]
    rfl
theorem nv_fold : ∀ (l : List Opn) (a b : Stp × ByteArray), (∀ o ∈ l, NV o) → l.foldl doN [⟨⟨1, 1⟩, ⟨0, 0⟩, a.2, b.2⟩] = [⟨⟨1, 1⟩, ⟨0, 0⟩, (lastBy isR (fun o => o.f4) a l).2, (lastBy isV (fun o => o.f5) b l).2⟩]
  | [], a, b, _ => rfl
  | o :: l, a, b, h => by
    rw [List.foldl_cons, nv_do (h o (List.mem_cons_self ..))]
    have := nv_fold l (if isR o = true then (o.f1, o.f4) else a) (if isV o = true then (o.f1, o.f5) else b) (fun x hx => h x (List.mem_cons_of_mem _ hx))
    have e1 : (if isR o = true then (o.f1, o.f4) else a).2 = if isR o = true then o.f4 else a.2 := by split <;> rfl
    have e2 : (if isV o = true then (o.f1, o.f5) else b).2 = if isV o = true then o.f5 else b.2 := by split <;> rfl
    rw [e1, e2] at this
    exact this
/-- The law's tree: its node, and names and values for it. -/
structure LastT (n : Nat) (L : List Opn) (T : Tr) : Prop where
  good : Good T
  fixed : T.fixed = []
  base : T.base = St0
  ops : T.ops = crO :: L
  nv : ∀ o ∈ L, NV o
  len : L.length ≤ n
section
variable {n : Nat} {L : List Opn} {T : Tr}
theorem LastT.more (h : LastT n L T) : LastT (n + 1) L T := ⟨h.good, h.fixed, h.base, h.ops, h.nv, Nat.le_succ_of_le h.len⟩
theorem LastT.now (h : LastT n L T) : T.now = [⟨⟨1, 1⟩, ⟨0, 0⟩, (nameL L).2, (valL L).2⟩] := by
  obtain ⟨l0, hp, he⟩ := h.good.now
  rw [h.fixed] at hp
  obtain rfl := List.Perm.eq_nil hp
  rw [he, h.ops, List.foldl_cons]
  have e : doN [] crO = [⟨⟨1, 1⟩, ⟨0, 0⟩, ((⟨1, 1⟩, first5) : Stp × ByteArray).2, ((⟨1, 1⟩, ⟨#[]⟩) : Stp × ByteArray).2⟩] := by
    have : doK 9 [] crO = some [⟨⟨1, 1⟩, ⟨0, 0⟩, first5, ⟨#[]⟩⟩] := by kernel_rfl
    exact doK_of this
  rw [e, nv_fold L _ _ h.nv]
  rfl
theorem LastT.sorted (h : LastT n L T) : Sorted L := by
  have := h.good.srt
  rw [h.ops] at this
  exact (List.pairwise_cons.1 this).2
theorem LastT.front {o : Opn} (ho : NV o) : ∀ x ∈ [crO], lessB x.f1 o.f1 = true := fun x hx => by
  obtain rfl := List.mem_singleton.1 hx
  rw [lessB_iff]
  left
  show (1 : Int) < o.f1.f0
  have := ho.2.2
  omega
theorem LastT.isIn (h : LastT n L T) {o : Opn} (ho : NV o) : S.isIn T.ops o.f1 = S.isIn L o.f1 := by
  have hs := h.good.srt
  rw [h.ops] at hs ⊢
  exact isIn_app (p := [crO]) hs (LastT.front ho)
/-- What comes is put, or is there. -/
theorem LastT.put (h : LastT n L T) (hn : n ≤ 400) {o : Opn} (ho : NV o) : putO T o 0 = (if S.isIn L o.f1 = true then crO :: L else crO :: insO L o, 0) := by
  have hb : lessB T.base o.f1 = true := by
    rw [h.base, lessB_iff]
    left
    show (0 : Int) < o.f1.f0
    have := ho.2.2
    omega
  have hf : fullB T o = false := by
    have h1 := creates_le T.ops
    have h2 := h.len
    have h3 : T.ops.length = L.length + 1 := by rw [h.ops]; rfl
    unfold fullB
    rw [h.fixed, decide_eq_false (show ¬ 512 ≤ T.ops.length by omega), decide_eq_false (show ¬ 512 ≤ ([] : List Nod).length + creates T.ops by simp; omega)]
    simp
  unfold putO
  rw [hb, hf, h.isIn ho, if_neg (by simp)]
  cases hi : S.isIn L o.f1 with
  | true => rw [if_pos rfl, if_pos rfl, h.ops]
  | false =>
    rw [if_neg (by simp), if_neg (by simp), if_neg (by simp)]
    have : insO T.ops o = crO :: insO L o := by
      rw [h.ops]
      exact insO_app (p := [crO]) (LastT.front ho)
    rw [this]
theorem LastT.step {T' : Tr} (h : LastT n L T) (hn : n ≤ 400) {o : Opn} (ho : NV o) (hg : Good T') (e1 : T'.fixed = T.fixed) (e2 : T'.base = T.base) (e3 : T'.ops = (putO T o 0).1) : LastT (n + 1) (if S.isIn L o.f1 = true then L else insO L o) T' := by
  rw [h.put hn ho] at e3
  have hl := h.len
  refine ⟨hg, e1.trans h.fixed, e2.trans h.base, ?_, ?_, ?_⟩
  · rw [e3]; split <;> rfl
  · split
    · exact h.nv
    · intro x hx
      rcases (insO_mem L o x).1 hx with rfl | hx
      · exact ho
      · exact h.nv x hx
  · split
    · omega
    · rw [insO_length]; omega
end
theorem name_ins {n : Nat} {L : List Opn} {T : Tr} (h : LastT n L T) {o : Opn} (ho : NV o) (hi : isIn L o.f1 = false) : nameL (insO L o) = if (isR o && lessB (nameL L).1 o.f1) = true then (o.f1, o.f4) else nameL L :=
  last_ins h.sorted (LastT.front ho crO (List.mem_singleton.2 rfl)) hi
theorem val_ins {n : Nat} {L : List Opn} {T : Tr} (h : LastT n L T) {o : Opn} (ho : NV o) (hi : isIn L o.f1 = false) : valL (insO L o) = if (isV o && lessB (valL L).1 o.f1) = true then (o.f1, o.f5) else valL L :=
  last_ins h.sorted (LastT.front ho crO (List.mem_singleton.2 rfl)) hi
/-- The law's operations are let by. -/
theorem last_check : ((List.range 24).all fun c => (name_Check.f ⟨#[UInt8.ofNat (97 + c)]⟩ == some 0)) = true := by kernel_rfl
theorem last_name (c : Nat) (h : c < 24) (a : Stp) (ha : fineB a.f0 a.f1 = true) : tree_Check.f 40 3 a.f0 a.f1 1 1 0 0 ⟨#[UInt8.ofNat (97 + c)]⟩ ⟨#[]⟩ = some 0 := by
  have hn : name_Check.f ⟨#[UInt8.ofNat (97 + c)]⟩ = some (if true = true then 0 else 80) := eq_of_beq (List.all_eq_true.1 last_check c (List.mem_range.2 h))
  rw [check11_is 37 true _ _ _ _ _ _ _ _ _ hn, if_pos]
  unfold goodB
  rw [ha, emp_nil]
  rfl
theorem last_val (c : Nat) (h : c < 24) (a : Stp) (ha : fineB a.f0 a.f1 = true) : tree_Check.f 40 4 a.f0 a.f1 1 1 0 0 ⟨#[]⟩ ⟨#[UInt8.ofNat (97 + c)]⟩ = some 0 := by
  obtain ⟨nb, hn⟩ := name_total ⟨#[]⟩ (by decide)
  rw [check11_is 37 nb _ _ _ _ _ _ _ _ _ hn, if_pos]
  unfold goodB
  rw [ha, emp_nil, show ((⟨#[UInt8.ofNat (97 + c)]⟩ : ByteArray).size : Int) = 1 from rfl]
  rfl
end Go.Proofs.YtiffeljmeahmkaaDoor.S
