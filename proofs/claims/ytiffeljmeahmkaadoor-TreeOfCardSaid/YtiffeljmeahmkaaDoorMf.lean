/- What operations make of nodes, in plain words: chains of parents that end; an operation upon nodes that lead to the root leads to such; do at every operation that may be. -/
import Derived.Test.YtiffeljmeahmkaaDoorMc
namespace Go.Proofs.YtiffeljmeahmkaaDoor.S
open Go.RowKit Go.Proofs.YtiffeljmeahmkaaDoorW.PrintWords Go.Proofs.YtiffeljmeahmkaaDoorW.PrintLast Go.Proofs.YtiffeljmeahmkaaDoorW.PrintMore
set_option linter.unusedVariables false
set_option linter.unusedSimpArgs false
theorem bel_mono {l : List Nod} {id : Stp} : ∀ {k : Nat} {s : Stp} {r : Bool}, bel l id k s = some r → bel l id (k + 1) s = some r
  | 0, _, _, h => by simp [bel] at h
  | k + 1, s, r, h => by
    unfold bel at h ⊢
    split
    · rename_i h1; rw [if_pos h1] at h; exact h
    · rename_i h1
      rw [if_neg h1] at h
      split
      · rename_i h2; rw [if_pos h2] at h; exact h
      · rename_i h2; rw [if_neg h2] at h; exact bel_mono h
theorem bel_more {l : List Nod} {id : Stp} {k : Nat} {s : Stp} {r : Bool} (j : Nat) (h : bel l id k s = some r) : bel l id (k + j) s = some r := by
  induction j with
  | zero => exact h
  | succ j ih => exact bel_mono ih
theorem bel_det {l : List Nod} {id : Stp} {k k' : Nat} {s : Stp} {r r' : Bool} (h : bel l id k s = some r) (h' : bel l id k' s = some r') : r = r' := by
  have h1 := bel_more k' h
  have h2 := bel_more k h'
  rw [Nat.add_comm, h2] at h1
  exact (Option.some.inj h1).symm
/-- Whether a stamp is a node's, or below it. -/
noncomputable def under (l : List Nod) (id s : Stp) : Bool := @decide (∃ k, bel l id k s = some true) (Classical.propDecidable _)
theorem under_of {l : List Nod} {id s : Stp} {k : Nat} {r : Bool} (h : bel l id k s = some r) : under l id s = r := by
  unfold under
  cases r with
  | true => exact @decide_eq_true _ (Classical.propDecidable _) ⟨k, h⟩
  | false => exact @decide_eq_false _ (Classical.propDecidable _) (fun ⟨j, hj⟩ => by have := bel_det h hj; cases this)
def root (l : List Nod) : Nat → Stp → Bool
  | 0, s => outerB s
  | k + 1, s => outerB s || root l k (look l s).f1
theorem root_mono {l : List Nod} : ∀ {k : Nat} {s : Stp}, root l k s = true → root l (k + 1) s = true
  | 0, s, h => by simp only [root] at h ⊢; simp [h]
  | k + 1, s, h => by
    simp only [root, Bool.or_eq_true] at h ⊢
    rcases h with h | h
    · exact .inl h
    · have := root_mono h
      simp only [root, Bool.or_eq_true] at this
      exact .inr this
theorem root_more {l : List Nod} {k : Nat} {s : Stp} (j : Nat) (h : root l k s = true) : root l (k + j) s = true := by
  induction j with
  | zero => exact h
  | succ j ih => exact root_mono ih
theorem bel_root {l : List Nod} (id : Stp) : ∀ {k : Nat} {s : Stp}, root l k s = true → ∃ r, bel l id (k + 1) s = some r
  | 0, s, h => ⟨false, by unfold bel; rw [if_pos (show outerB s = true from h)]⟩
  | k + 1, s, h => by
    unfold bel
    by_cases h1 : outerB s = true
    · exact ⟨false, by rw [if_pos h1]⟩
    · rw [if_neg h1]
      by_cases h2 : (s.f0 == id.f0 && s.f1 == id.f1) = true
      · exact ⟨true, by rw [if_pos h2]⟩
      · rw [if_neg h2]
        simp only [root, Bool.or_eq_true] at h
        exact bel_root id (h.resolve_left h1)
/-- Nodes that lead to the root, or the trash: each parent is there. -/
structure Rooted (l : List Nod) : Prop where
  rt : ∀ s, ∃ k, root l k s = true
  par : ∀ n ∈ l, (has l n.f1 || outerB n.f1) = true
  own : ∀ n ∈ l, outerB n.f0 = false
theorem has_iff {l : List Nod} {s : Stp} : has l s = true ↔ ∃ n ∈ l, n.f0 = s := by
  unfold has
  constructor
  · intro h
    cases hk : lk l s with
    | none => rw [hk] at h; simp at h
    | some y =>
      obtain ⟨j, n⟩ := y
      obtain ⟨h1, h2⟩ := lk_some hk
      exact ⟨n, List.mem_of_getElem? h1, h2⟩
  · rintro ⟨n, hn, rfl⟩
    cases hk : lk l n.f0 with
    | none => exact absurd rfl (lk_none hk n hn)
    | some y => rfl
theorem look_not {l : List Nod} {s : Stp} (h : has l s = false) : look l s = zNod := by
  unfold has at h
  unfold look
  cases hk : lk l s with
  | none => rfl
  | some y => rw [hk] at h; simp at h
theorem look_mem {l : List Nod} {s : Stp} (h : has l s = true) : look l s ∈ l ∧ (look l s).f0 = s := by
  unfold has at h
  unfold look
  cases hk : lk l s with
  | none => rw [hk] at h; simp at h
  | some y =>
    obtain ⟨j, n⟩ := y
    obtain ⟨h1, h2⟩ := lk_some hk
    exact ⟨List.mem_of_getElem? h1, h2⟩
theorem orT {a b : Bool} (h : (a || b) = true) : a = true ∨ b = true := by simpa using h
theorem has_cons (x : Nod) (l : List Nod) (s : Stp) : has (x :: l) s = (eqS s x.f0 || has l s) := by
  unfold has
  rw [lk]
  by_cases h : eqS s x.f0 = true
  · rw [if_pos h, h]; rfl
  · rw [if_neg h]
    have h' : eqS s x.f0 = false := by simpa using h
    rw [h']
    cases lk l s <;> rfl
theorem look_cons (x : Nod) (l : List Nod) (s : Stp) : look (x :: l) s = if eqS s x.f0 = true then x else look l s := by
  unfold look
  rw [lk]
  by_cases h : eqS s x.f0 = true
  · rw [if_pos h, if_pos h]
  · rw [if_neg h, if_neg h]
    cases lk l s <;> rfl
theorem lk_put (l : List Nod) (n : Nod) (s : Stp) : (has (put l n) s = (has l s || eqS s n.f0)) ∧ (look (put l n) s = if eqS s n.f0 = true then n else look l s) := by
  induction l with
  | nil =>
    rw [put, has_cons, look_cons]
    exact ⟨by rw [Bool.or_comm], rfl⟩
  | cons x l ih =>
    unfold put
    by_cases hx : eqS n.f0 x.f0 = true
    · rw [if_pos hx, has_cons, has_cons, look_cons, look_cons, ← eqS_iff.1 hx]
      constructor
      · cases eqS s n.f0 <;> cases has l s <;> rfl
      · split <;> rfl
    · rw [if_neg hx, has_cons, has_cons, look_cons, look_cons, ih.1, ih.2]
      constructor
      · rw [Bool.or_assoc]
      · by_cases h : eqS s x.f0 = true
        · have e := eqS_iff.1 h
          have : eqS s n.f0 = false := by rw [e, eqS_comm]; simpa using hx
          rw [if_pos h, if_neg (by rw [this]; simp), if_pos h]
        · rw [if_neg h, if_neg h]
theorem has_put (l : List Nod) (n : Nod) (s : Stp) : has (put l n) s = (has l s || eqS s n.f0) := (lk_put l n s).1
theorem look_put (l : List Nod) (n : Nod) (s : Stp) : look (put l n) s = if eqS s n.f0 = true then n else look l s := (lk_put l n s).2
theorem mem_put {l : List Nod} {n m : Nod} (h : m ∈ put l n) : m = n ∨ m ∈ l := by
  induction l with
  | nil => simp [put] at h; exact .inl h
  | cons x l ih =>
    unfold put at h
    split at h
    · rcases List.mem_cons.1 h with h | h
      · exact .inl h
      · exact .inr (List.mem_cons_of_mem _ h)
    · rcases List.mem_cons.1 h with h | h
      · exact .inr (by rw [h]; simp)
      · exact (ih h).imp id (fun h => List.mem_cons_of_mem _ h)
/-- Beside one number the parents are the same: what does not come by it leads where it led. -/
theorem root_apart {l l' : List Nod} {id : Stp} (he : ∀ s, s ≠ id → (look l' s).f1 = (look l s).f1) : ∀ {k : Nat} {s : Stp}, bel l id k s = some false → root l' k s = true
  | 0, _, h => by simp [bel] at h
  | k + 1, s, h => by
    unfold bel at h
    by_cases h1 : outerB s = true
    · simp [root, h1]
    · rw [if_neg h1] at h
      by_cases h2 : (s.f0 == id.f0 && s.f1 == id.f1) = true
      · rw [if_pos h2] at h; cases h
      · rw [if_neg h2] at h
        have hs : s ≠ id := fun e => h2 (by rw [e]; simp)
        have := root_apart he h
        rw [← he s hs] at this
        simp [root, this]
theorem root_over {l l' : List Nod} {id p : Stp} {k0 : Nat} (he : ∀ s, s ≠ id → (look l' s).f1 = (look l s).f1) (hp : (look l' id).f1 = p) (h0 : root l' k0 p = true) : ∀ {k : Nat} {s : Stp}, root l k s = true → root l' (k + (k0 + 1)) s = true
  | 0, s, h => by rw [Nat.zero_add]; simp only [root] at h ⊢; simp [h]
  | k + 1, s, h => by
    by_cases hs : s = id
    · subst hs
      have : root l' (k0 + 1) s = true := by simp only [root]; rw [hp, h0]; simp
      have := root_more (k + 1) this
      rw [Nat.add_comm] at this
      exact this
    · simp only [root, Bool.or_eq_true] at h
      rw [show k + 1 + (k0 + 1) = (k + (k0 + 1)) + 1 by omega]
      show (outerB s || root l' (k + (k0 + 1)) (look l' s).f1) = true
      rcases h with h | h
      · rw [h]; rfl
      · rw [he s hs, root_over he hp h0 h, Bool.or_true]
theorem Rooted.put {l : List Nod} (h : Rooted l) (n : Nod) (hid : outerB n.f0 = false) (hpar : (has l n.f1 || outerB n.f1) = true) (hb : ∃ k, bel l n.f0 k n.f1 = some false) : Rooted (put l n) := by
  have he : ∀ s, s ≠ n.f0 → (look (S.put l n) s).f1 = (look l s).f1 := fun s hs => by rw [look_put, if_neg (by rw [eqS_false hs]; simp)]
  have hp : (look (S.put l n) n.f0).f1 = n.f1 := by rw [look_put, if_pos (eqS_self _)]
  refine ⟨fun s => ?_, fun m hm => ?_, fun m hm => ?_⟩
  · obtain ⟨k0, hk0⟩ := hb
    obtain ⟨k, hk⟩ := h.rt s
    exact ⟨_, root_over he hp (root_apart he hk0) hk⟩
  · rw [has_put]
    rcases mem_put hm with rfl | hm
    · rcases orT hpar with h1 | h1 <;> simp [h1]
    · rcases orT (h.par m hm) with h1 | h1 <;> simp [h1]
  · rcases mem_put hm with rfl | hm
    · exact hid
    · exact h.own m hm
/-- What an operation makes of nodes. -/
noncomputable def moveN (l : List Nod) (nd par : Stp) : List Nod :=
  if has l nd = false then l else if (has l par || outerB par) = false then l else if under l nd par = true then l else put l ⟨(look l nd).f0, par, (look l nd).f2, (look l nd).f3⟩
noncomputable def doN (l : List Nod) (o : Opn) : List Nod :=
  if o.f0 = 1 then (if has l o.f2 = true then l else if (has l o.f3 || outerB o.f3) = true then put l ⟨o.f2, o.f3, o.f4, ⟨#[]⟩⟩ else l)
  else if o.f0 = 2 then moveN l o.f2 o.f3
  else if o.f0 = 5 then moveN l o.f2 (stp 0 1)
  else if o.f0 = 3 then (if has l o.f2 = true then put l ⟨(look l o.f2).f0, (look l o.f2).f1, o.f4, (look l o.f2).f3⟩ else l)
  else (if has l o.f2 = true then put l ⟨(look l o.f2).f0, (look l o.f2).f1, (look l o.f2).f2, o.f5⟩ else l)
def OpOk (o : Opn) : Prop := (o.f0 = 1 ∨ o.f0 = 2 ∨ o.f0 = 3 ∨ o.f0 = 4 ∨ o.f0 = 5) ∧ outerB o.f2 = false
theorem Rooted.ends {l : List Nod} (h : Rooted l) (id s : Stp) : ∃ k r, bel l id k s = some r := by
  obtain ⟨k, hk⟩ := h.rt s
  obtain ⟨r, hr⟩ := bel_root id hk
  exact ⟨_, r, hr⟩
theorem moved_is {l : List Nod} (h : Rooted l) (nd par : Stp) : ∃ k, moved k l nd par = some (moveN l nd par) := by
  obtain ⟨k, r, hr⟩ := h.ends nd par
  refine ⟨k, ?_⟩
  unfold moved moveN
  split
  · rfl
  · split
    · rfl
    · rw [hr, under_of hr, Option.map_some]
theorem moveN_rooted {l : List Nod} (h : Rooted l) (nd par : Stp) (ho : outerB nd = false) : Rooted (moveN l nd par) := by
  unfold moveN
  split
  · exact h
  · rename_i h1
    split
    · exact h
    · rename_i h2
      split
      · exact h
      · rename_i h3
        obtain ⟨k, r, hr⟩ := h.ends nd par
        rw [under_of hr] at h3
        have hid : (look l nd).f0 = nd := look_id (by simpa using h1)
        refine h.put _ (by rw [hid]; exact ho) (by cases hx : (has l par || outerB par) with | true => rfl | false => exact absurd hx h2) ⟨k, ?_⟩
        show bel l (look l nd).f0 k par = _
        rw [hid, hr]
        simpa using h3
/-- A parent that is there, of a number that is not: it is not below it. -/
theorem bel_none {l : List Nod} (h : Rooted l) {id : Stp} (hid : has l id = false) (ho : outerB id = false) : ∀ {k : Nat} {s : Stp}, root l k s = true → (has l s || outerB s) = true → bel l id (k + 1) s = some false
  | 0, s, hk, hs => by unfold bel; rw [if_pos (show outerB s = true from hk)]
  | k + 1, s, hk, hs => by
    unfold bel
    by_cases h1 : outerB s = true
    · rw [if_pos h1]
    · rw [if_neg h1]
      have hh : has l s = true := by simpa [h1] using hs
      have h2 : ¬ (s.f0 == id.f0 && s.f1 == id.f1) = true := fun e => by
        have : s = id := eqS_iff.1 e
        rw [this, hid] at hh
        cases hh
      rw [if_neg h2]
      simp only [root, Bool.or_eq_true] at hk
      exact bel_none h hid ho (hk.resolve_left h1) (h.par _ (look_mem hh).1)
theorem Rooted.same {l : List Nod} (h : Rooted l) {nd : Stp} (hh : has l nd = true) (nm vl : ByteArray) : Rooted (S.put l ⟨(look l nd).f0, (look l nd).f1, nm, vl⟩) := by
  obtain ⟨hm, hid⟩ := look_mem hh
  have he : ∀ s, (look (S.put l ⟨(look l nd).f0, (look l nd).f1, nm, vl⟩) s).f1 = (look l s).f1 := fun s => by
    rw [look_put]
    by_cases e : eqS s (look l nd).f0 = true
    · rw [if_pos e]
      have := eqS_iff.1 e
      rw [this, hid]
    · rw [if_neg e]
  have hr : ∀ k s, root l k s = true → root (S.put l ⟨(look l nd).f0, (look l nd).f1, nm, vl⟩) k s = true := by
    intro k
    induction k with
    | zero => intro s h; exact h
    | succ k ih =>
      intro s h
      simp only [root, Bool.or_eq_true] at h ⊢
      rw [he]
      exact h.imp id (ih _)
  refine ⟨fun s => ?_, fun m hm' => ?_, fun m hm' => ?_⟩
  · obtain ⟨k, hk⟩ := h.rt s
    exact ⟨k, hr k s hk⟩
  · rw [has_put]
    rcases mem_put hm' with rfl | hm'
    · rcases orT (h.par _ hm) with h1 | h1 <;> simp [h1]
    · rcases orT (h.par m hm') with h1 | h1 <;> simp [h1]
  · rcases mem_put hm' with rfl | hm'
    · exact h.own (look l nd) hm
    · exact h.own m hm'
theorem doN_rooted {l : List Nod} (h : Rooted l) {o : Opn} (ho : OpOk o) : Rooted (doN l o) := by
  obtain ⟨hk, hn⟩ := ho
  unfold doN
  split
  · split
    · exact h
    · rename_i h1
      split
      · rename_i h2
        obtain ⟨k, hk⟩ := h.rt o.f3
        exact h.put _ hn h2 ⟨_, bel_none h (by simpa using h1) hn hk h2⟩
      · exact h
  · split
    · exact moveN_rooted h _ _ hn
    · split
      · exact moveN_rooted h _ _ hn
      · split
        · split
          · rename_i hh; exact h.same hh _ _
          · exact h
        · split
          · rename_i hh; exact h.same hh _ _
          · exact h
theorem do_calls {l : List Nod} (h : Rooted l) {o : Opn} (ho : OpOk o) (b : Nat) : Does b l (doN l o) [.int .i64 o.f0, .int .i64 o.f1.f0, .int .i64 o.f1.f1, .int .i64 o.f2.f0, .int .i64 o.f2.f1, .int .i64 o.f3.f0, .int .i64 o.f3.f1, .string o.f4, .string o.f5] := by
  obtain ⟨kd, a, nd, par, nm, vl⟩ := o
  obtain ⟨hk, hn⟩ := ho
  simp only at hk hn
  unfold doN
  rcases hk with rfl | rfl | rfl | rfl | rfl
  · exact do_create b l a.f0 a.f1 nd par nm vl
  · obtain ⟨k, hk⟩ := moved_is h nd par
    exact do_move k _ b l a.f0 a.f1 nd par nm vl hk
  · exact do_rename b l a.f0 a.f1 nd par nm vl
  · exact do_set b l a.f0 a.f1 nd par nm vl
  · obtain ⟨k, hk⟩ := moved_is h nd (stp 0 1)
    exact do_trash k _ b l a.f0 a.f1 nd par nm vl hk
theorem mem_uniq {l : List Nod} (hd : (l.map fun n => n.f0).Nodup) {a b : Nod} (ha : a ∈ l) (hb : b ∈ l) (h : a.f0 = b.f0) : a = b := by
  induction l with
  | nil => cases ha
  | cons x l ih =>
    rw [List.map_cons, List.nodup_cons] at hd
    rcases List.mem_cons.1 ha with h1 | h1
    · rcases List.mem_cons.1 hb with h2 | h2
      · rw [h1, h2]
      · exact absurd (show x.f0 ∈ l.map fun n => n.f0 by rw [← h1, h]; exact List.mem_map_of_mem (f := fun n : Nod => n.f0) h2) hd.1
    · rcases List.mem_cons.1 hb with h2 | h2
      · exact absurd (show x.f0 ∈ l.map fun n => n.f0 by rw [← h2, ← h]; exact List.mem_map_of_mem (f := fun n : Nod => n.f0) h1) hd.1
      · exact ih hd.2 h1 h2
theorem has_perm {l l' : List Nod} (hp : l'.Perm l) (s : Stp) : has l' s = has l s := by
  have h1 : has l' s = true ↔ has l s = true := by rw [has_iff, has_iff]; exact ⟨fun ⟨n, hn, e⟩ => ⟨n, hp.mem_iff.1 hn, e⟩, fun ⟨n, hn, e⟩ => ⟨n, hp.mem_iff.2 hn, e⟩⟩
  cases ha : has l' s with
  | true => rw [h1.1 ha]
  | false =>
    cases hb : has l s with
    | false => rfl
    | true => rw [h1.2 hb] at ha; cases ha
theorem look_perm {l l' : List Nod} (hp : l'.Perm l) (hd : (l.map fun n => n.f0).Nodup) (s : Stp) : look l' s = look l s := by
  cases h : has l s with
  | false => rw [look_not h, look_not (by rw [has_perm hp]; exact h)]
  | true =>
    obtain ⟨h1, h2⟩ := look_mem h
    obtain ⟨h3, h4⟩ := look_mem (show has l' s = true by rw [has_perm hp]; exact h)
    exact mem_uniq hd (hp.mem_iff.1 h3) h1 (h4.trans h2.symm)
theorem root_eq {l l' : List Nod} (he : ∀ s, look l' s = look l s) : ∀ (k : Nat) (s : Stp), root l' k s = root l k s
  | 0, _ => rfl
  | k + 1, s => by simp only [root]; rw [he, root_eq he]
theorem Rooted.perm {l l' : List Nod} (h : Rooted l) (hp : l'.Perm l) (hd : (l.map fun n => n.f0).Nodup) : Rooted l' :=
  ⟨fun s => by obtain ⟨k, hk⟩ := h.rt s; exact ⟨k, by rw [root_eq (look_perm hp hd)]; exact hk⟩, fun n hn => by rw [has_perm hp]; exact h.par n (hp.mem_iff.1 hn), fun n hn => h.own n (hp.mem_iff.1 hn)⟩
theorem Rooted.nil : Rooted [] := ⟨fun s => ⟨1, by simp only [root]; rw [show (look [] s).f1 = St0 from rfl]; simp [outerB, show St0 = (⟨0, 0⟩ : Stp) from rfl]⟩, by simp, by simp⟩
theorem fold_rooted : ∀ (os : List Opn) {l : List Nod}, Rooted l → (∀ o ∈ os, OpOk o) → Rooted (os.foldl doN l)
  | [], _, h, _ => h
  | o :: os, _, h, ho => fold_rooted os (doN_rooted h (ho o (by simp))) (fun o' h' => ho o' (by simp [h']))
end Go.Proofs.YtiffeljmeahmkaaDoor.S
