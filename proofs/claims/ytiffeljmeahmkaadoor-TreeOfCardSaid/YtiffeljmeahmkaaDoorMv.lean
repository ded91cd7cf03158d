/- list, Fixed, Nodes: the nodes of a map, in the order of their stamps. -/
import Derived.Test.YtiffeljmeahmkaaDoorMu
namespace Go.Proofs.YtiffeljmeahmkaaDoor.S
open Go.RowKit Go.Shelf Go.Proofs.YtiffeljmeahmkaaDoorW.PrintWords Go.Proofs.YtiffeljmeahmkaaDoorW.PrintLast Go.Proofs.YtiffeljmeahmkaaDoorW.PrintMore
set_option linter.unusedVariables false
set_option linter.unusedSimpArgs false
theorem ownsRow_le {W : World} {base base' : Nat} {e : TypeId} {size : Nat} {v : Value} {k : Nat} {xs : List Value} (h : W.ownsRow base e size v k xs) (hb : base' ≤ base) : W.ownsRow base' e size v k xs := by
  refine ⟨h.1, ?_⟩
  rcases h.2 with hn | ⟨g, cap, cur, hv, hbg, rest⟩
  · exact .inl hn
  · exact .inr ⟨g, cap, cur, hv, Nat.le_trans hb hbg, rest⟩
def OrdN (l : List Nod) : Prop := ∀ i j, i < j → j < l.length → lessB (l[j]!).f0 (l[i]!).f0 = false
theorem NodesAt.below {w w1 : World} {B : Nat} {v : Value} {l : List Nod} (h : NodesAt w B v l) (hb : Below w.heap.size w w1) : NodesAt w1 B v l :=
  World.ownsRow.kept h (below_grown hb none) (by cases v.ownBlock <;> simp)
set_option maxRecDepth 100000 in
set_option maxHeartbeats 4000000 in
theorem list_calls (w : World) (b : Nat) (l : List Nod) (hl : Lies w b l) (hlen : l.length ≤ 1000000) :
    Calls Tryd.prog 54 #[.map (some b)] w fun e w' => ∃ (v : Value) (l' : List Nod), e = .returned v ∧ l'.Perm l ∧ OrdN l' ∧ NodesAt w' w.heap.size v l' ∧ Below w.heap.size w w' := by
  have cV := fun W => (callsIn_wide (n := 6)).1 (values_in Fence.wide 6 trivial rfl b W)
  have hw1 := below_alloc (Below.refl w.heap.size w) (.cells #[.map (some b)] 64)
  have cell1 := blk_cell (heap_alloc_new w (.cells #[.map (some b)] 64)) 0
  have hseq := values_stops Fence.wide 4 trivial rfl (by omega) w.heap.size b l (w.alloc (.cells #[.map (some b)] 64)) (by simp) cell1 (hl.below hw1)
  have cC := (callsIn_wide (n := 6)).1 (collect_in Fence.wide 6 trivial trivial rfl (by omega) 81 _ trivial (enters_of Tryd.func81 (by kernel_rfl) rfl) _ _ l.length (by unfold maxLen; omega) (by omega) _ hseq (fun xs hx => by rw [hx.length_eq]; exact Nat.le_refl _))
  have CC := Aside0.mk cC
  have CV := Aside0.mk cV
  have W1 := Aside0.mk hw1
  clear cC cV hw1 hseq cell1 hl
  go_enter Tryd.func54, Tryd.ntmps54
  go_wp2_with (first
    | (go_at_call 71; refine (CV.out w).mono ?_; rintro e w1 ⟨rfl, rfl⟩)
    | (go_at_call 70; refine CC.out.mono ?_; rintro e w2 ⟨v, xs, rfl, hS, hrow, hb⟩; have HS := Aside0.mk hS; have HR := Aside0.mk hrow; have HB := Aside0.mk hb; clear hS hrow hb)
    | (go_at_call 72; refine (sortN_calls w2 _ v xs HR.out (by rw [HS.out.length_eq]; exact hlen)).mono ?_; rintro e w3 ⟨rfl, l', hp, ho, hn, hst⟩; have HP := Aside0.mk hp; have HO := Aside0.mk ho; have HN := Aside0.mk hn; have HT := Aside0.mk hst; clear hp ho hn hst))
  go_ret
  have hb2 : Below w.heap.size w w2 := below_then W1.out W1.out.size HB.out
  refine ⟨v, l', rfl, HP.out.trans HS.out, HO.out, ?_, HT.out.back hb2 hb2.size (fun k hk => ?_)⟩
  · exact ownsRow_le HN.out (by simp)
  · have := HR.out
    rcases this.2 with ⟨rfl, _⟩ | ⟨g, c, cur, rfl, hBg, _⟩
    · simp [Value.ownBlock] at hk
    · simp [Value.ownBlock] at hk
      simp at hBg
      omega
set_option maxRecDepth 100000 in
set_option maxHeartbeats 4000000 in
theorem Fixed_calls (w : World) (B g f n : Nat) (v : Value) (T : Tr) (h : TreeAt w B g f n v T) (hl : T.fixed.length ≤ 1000000) : Calls Tryd.prog 30 #[.pointer (some ⟨g, 0, none⟩)] w fun e w' => ∃ (v' : Value) (l' : List Nod), e = .returned v' ∧ l'.Perm T.fixed ∧ OrdN l' ∧ NodesAt w' w.heap.size v' l' ∧ Below w.heap.size w w' := by
  obtain ⟨z0, z1, z2, z3, z4⟩ := Y5 h.blk
  have hLs := Aside0.mk h.fix
  have HT := Aside0.mk h
  clear h
  go_enter Tryd.func30, Tryd.ntmps30
  go_wp2_with (first
    | (go_at_call 34; refine (given_calls _ B g f n v T HT.out).mono ?_; rintro e w1 ⟨rfl, rfl⟩)
    | (go_at_call 54; refine (list_calls w _ _ hLs.out hl).mono ?_; rintro e w2 ⟨v2, l2, rfl, hp, ho, hn, hb⟩; have HP := Aside0.mk hp; have HO := Aside0.mk ho; have HN := Aside0.mk hn; have HB := Aside0.mk hb; clear hp ho hn hb))
  go_ret
  exact ⟨v2, l2, rfl, HP.out, HO.out, HN.out, HB.out⟩
set_option maxRecDepth 100000 in
set_option maxHeartbeats 4000000 in
theorem Nodes_calls (w : World) (B g f n : Nat) (v : Value) (T : Tr) (h : TreeAt w B g f n v T) (hl : T.now.length ≤ 1000000) : Calls Tryd.prog 28 #[.pointer (some ⟨g, 0, none⟩)] w fun e w' => ∃ (v' : Value) (l' : List Nod), e = .returned v' ∧ l'.Perm T.now ∧ OrdN l' ∧ NodesAt w' w.heap.size v' l' ∧ Below w.heap.size w w' := by
  obtain ⟨z0, z1, z2, z3, z4⟩ := Y5 h.blk
  have hLs := Aside0.mk h.now
  have HT := Aside0.mk h
  clear h
  go_enter Tryd.func28, Tryd.ntmps28
  go_wp2_with (first
    | (go_at_call 34; refine (given_calls _ B g f n v T HT.out).mono ?_; rintro e w1 ⟨rfl, rfl⟩)
    | (go_at_call 54; refine (list_calls w _ _ hLs.out hl).mono ?_; rintro e w2 ⟨v2, l2, rfl, hp, ho, hn, hb⟩; have HP := Aside0.mk hp; have HO := Aside0.mk ho; have HN := Aside0.mk hn; have HB := Aside0.mk hb; clear hp ho hn hb))
  go_ret
  exact ⟨v2, l2, rfl, HP.out, HO.out, HN.out, HB.out⟩
end Go.Proofs.YtiffeljmeahmkaaDoor.S
