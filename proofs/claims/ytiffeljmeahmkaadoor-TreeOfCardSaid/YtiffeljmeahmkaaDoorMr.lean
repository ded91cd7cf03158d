/- A row of nodes, and its sort. -/
import Derived.Test.YtiffeljmeahmkaaDoorMq
namespace Go.Proofs.YtiffeljmeahmkaaDoor.S
open Go.RowKit Go.Proofs.YtiffeljmeahmkaaDoorW.PrintWords Go.Proofs.YtiffeljmeahmkaaDoorW.PrintLast Go.Proofs.YtiffeljmeahmkaaDoorW.PrintMore
open Go.Sort (flatK get_flatK size_flatK HoldsK putRowK putRow mapBlock onCells putCells)
set_option linter.unusedVariables false
set_option linter.unusedSimpArgs false
instance : Inhabited Nod := ⟨zNod⟩
def nodC (x : Nod) : List Value := [.int .i64 x.f0.f0, .int .i64 x.f0.f1, .int .i64 x.f1.f0, .int .i64 x.f1.f1, .string x.f2, .string x.f3]
def flatN (l : List Nod) : List Value := l.flatMap nodC
theorem nodC_length (x : Nod) : (nodC x).length = 6 := rfl
theorem nodC_one (x : Nod) : ∀ v ∈ nodC x, v.oneCell' = true := by
  intro v hv
  simp only [nodC, List.mem_cons, List.not_mem_nil, or_false] at hv
  rcases hv with rfl | rfl | rfl | rfl | rfl | rfl <;> rfl
theorem flatN_length (l : List Nod) : (flatN l).length = l.length * 6 := by
  induction l with
  | nil => rfl
  | cons x l ih => unfold flatN at ih ⊢; rw [List.flatMap_cons, List.length_append, ih, List.length_cons, nodC_length]; omega
theorem flatN_append (a b : List Nod) : flatN (a ++ b) = flatN a ++ flatN b := by unfold flatN; rw [List.flatMap_append]
theorem flatN_get : ∀ (l : List Nod) (t : Nat), t < l.length * 6 → (flatN l)[t]? = some ((nodC (l[t / 6]!))[t % 6]!)
  | [], t, h => by simp at h
  | x :: l, t, h => by
    have e : flatN (x :: l) = nodC x ++ flatN l := by unfold flatN; rw [List.flatMap_cons]
    rw [e]
    rcases Nat.lt_or_ge t 6 with h6 | h6
    · rw [List.getElem?_append_left (by rw [nodC_length]; exact h6), Nat.div_eq_of_lt h6, Nat.mod_eq_of_lt h6]
      simp only [List.getElem!_cons_zero]
      rw [List.getElem?_eq_getElem (by rw [nodC_length]; exact h6), getElem!_pos _ t (by rw [nodC_length]; exact h6)]
    · rw [List.getElem?_append_right (by rw [nodC_length]; exact h6), nodC_length, flatN_get l (t - 6) (by simp at h; omega)]
      obtain ⟨q, rfl⟩ : ∃ q, t = q + 6 := ⟨t - 6, by omega⟩
      rw [Nat.add_sub_cancel, Nat.add_div_right q (by decide), Nat.add_mod_right]
      simp
theorem flatN_K (l : List Nod) : flatK nodC 6 l.toArray = (flatN l).toArray := by
  apply Array.ext
  · simp [flatN_length]
  · intro t h1 h2
    have ht : t < l.length * 6 := by simpa using h1
    have h3 := get_flatK nodC 6 l.toArray t (by simpa using ht)
    rw [getElem!_pos _ t h1] at h3
    rw [h3]
    have h4 := flatN_get l t ht
    rw [List.getElem?_eq_getElem (by rw [flatN_length]; exact ht)] at h4
    simp only [List.getElem_toArray]
    rw [Option.some.inj h4]
    simp
abbrev NodesAt (w : World) (B : Nat) (v : Value) (l : List Nod) : Prop := w.ownsRow B 36 6 v l.length (flatN l)
theorem mapN_get (w : World) (g : Nat) (F : Array Value) {cur : Array Value} (h : w.heap[g]? = some (.cells cur 36 (0, 0))) : (putRow id w g 0 F).heap[g]? = some (.cells (putCells id 0 F cur) 36 (0, 0)) := by
  unfold putRow mapBlock
  simp [Array.getElem?_modify, h, onCells]
theorem put_take (F cur : Array Value) (h : F.size ≤ cur.size) : (putCells id 0 F cur).size = cur.size ∧ (putCells id 0 F cur).toList.take F.size = F.toList := by
  refine ⟨by simp [putCells], ?_⟩
  apply List.ext_getElem
  · simp [putCells]; omega
  · intro i h1 h2
    have h3 : i < F.size := by simpa using h2
    simp [putCells, h3]
theorem holdsN {w : World} {g c : Nat} {cur : Array Value} {l : List Nod} (h : w.heap[g]? = some (.cells cur 36 (0, 0))) (hc : cur.size = c * 6) (hl : l.length ≤ c) (ht : cur.toList.take (l.length * 6) = flatN l) : HoldsK nodC 6 w g 0 l.toArray := by
  unfold HoldsK
  rw [flatN_K]
  intro j hj
  have hj' : j < l.length * 6 := by simpa [flatN_length] using hj
  refine ⟨?_, by simp [World.frozen?, h]⟩
  have e : (flatN l)[j]? = cur.toList[j]? := by rw [← ht, List.getElem?_take, if_pos hj']
  rw [Nat.zero_add, cell_of_row w g j cur _ _ h]
  have h2 : (flatN l).toArray[j]! = (flatN l)[j]'(by simpa using hj) := by rw [getElem!_pos _ j hj]; simp
  rw [id, h2, ← List.getElem?_eq_getElem (by simpa using hj), e]
  simp
def cfN (x y : Nod) : Int := ordI x.f0 y.f0
theorem ltN (x y : Nod) : ltOf cfN x y = lessB x.f0 y.f0 := by
  unfold ltOf cfN ordI
  cases h : lessB x.f0 y.f0 with
  | true => simp
  | false => by_cases he : eqS x.f0 y.f0 = true <;> simp [he]
theorem swoN : Go.Sort.SWO (ltOf cfN) := by
  refine ⟨fun x => by rw [ltN]; exact less_irr _, fun x y z h1 h2 => by rw [ltN] at *; exact less_trans h1 h2, fun x y z h1 h2 => ?_⟩
  rw [ltN, lessB_not] at *
  omega
set_option maxHeartbeats 2000000 in
theorem sortN_calls (w : World) (B : Nat) (v : Value) (l : List Nod) (h : NodesAt w B v l) (hl : l.length ≤ 1000000) :
    Calls Tryd.prog 72 #[v, .func (.func 73) #[] #[]] w fun e w' => e = .returned (.tuple #[]) ∧ ∃ l' : List Nod, l'.Perm l ∧ (∀ i j, i < j → j < l'.length → lessB (l'[j]!).f0 (l'[i]!).f0 = false) ∧ NodesAt w' B v l' ∧ Stay w w' (fun k => v.ownBlock = some k) := by
  rcases Nat.eq_zero_or_pos l.length with h0 | hp
  · have hnone : ∃ p cap, v = .slice p 0 cap := by
      rcases h.2 with ⟨rfl, _⟩ | ⟨g, c, cur, rfl, _⟩
      · exact ⟨none, 0, rfl⟩
      · exact ⟨_, c, by rw [h0]⟩
    obtain ⟨p, cap, rfl⟩ := hnone
    refine (AnyF.slices_SortFunc_none Tryd.laysSort p cap _ w).mono ?_
    rintro e w' ⟨rfl, rfl⟩
    exact ⟨rfl, l, List.Perm.refl _, fun i j _ hj => by omega, h, Stay.refl _ _⟩
  · rcases h.2 with ⟨rfl, h1⟩ | ⟨g, c, cur, rfl, hB, hcur, hlc, hcm, hcs, htk⟩
    · omega
    have hlt := blk_here hcur
    have hH := holdsN hcur hcs hlc htk
    have hcmp : CmpLays Tryd.prog 73 #[] nodC 6 cfN g 0 l.toArray.size w := fun m os dk hs x y => by
      refine (cmpN_grow x y _).mono ?_
      rintro e w' ⟨rfl, q, os', hw⟩
      exact ⟨rfl, q, os', hw⟩
    have hs := AnyQ.slices_SortFunc Tryd.laysSort 6 (fun w => by kernel_rfl) (fun w => Tryd.sizeOf36 w) nodC nodC_length nodC_one cfN swoN 73 #[] g 0 c l.toArray w (enters_of Tryd.func73 (by kernel_rfl) rfl) hcmp hH hlt (by simp; omega)
    refine hs.mono ?_
    rintro e w' ⟨rfl, d', n, os, ⟨hsz, _, hpm⟩, hso, hw⟩
    have hsz' : d'.size = l.length := by simpa using hsz
    refine ⟨rfl, d'.toList, ?_, fun i j hij hj => ?_, ?_, ?_⟩
    · have e1 : d'.extract 0 l.toArray.size = d' := by rw [← hsz]; exact Array.extract_size
      have e2 : l.toArray.extract 0 l.toArray.size = l.toArray := Array.extract_size
      rw [e1, e2] at hpm
      exact hpm
    · have := hso i j (Nat.zero_le _) hij (by simpa [hsz'] using hj)
      rw [ltN] at this
      have q : ∀ k, d'.toList[k]! = d'[k]! := fun k => by
        by_cases hk : k < d'.size
        · rw [getElem!_pos d'.toList k (by simpa using hk), getElem!_pos d' k hk]; simp
        · rw [getElem!_neg d'.toList k (by simpa using hk), getElem!_neg d' k hk]
      rw [q, q]
      exact this
    · have hF : flatK nodC 6 d' = (flatN d'.toList).toArray := by have := flatN_K d'.toList; rwa [Array.toArray_toList] at this
      have hFs : (flatK nodC 6 d').size = d'.toList.length * 6 := by rw [size_flatK, Array.length_toList]
      obtain ⟨p1, p2⟩ := put_take (flatK nodC 6 d') cur (by rw [hFs, Array.length_toList, hsz', hcs]; omega)
      have hm := mapN_get (Go.Sort.ahead w n) g (flatK nodC 6 d') hcur
      have hg2 : w'.heap[g]? = some (.cells (putCells id 0 (flatK nodC 6 d') cur) 36 (0, 0)) := by
        rw [hw]
        have hlt2 : g < (putRow id (Go.Sort.ahead w n) g 0 (flatK nodC 6 d')).heap.size := blk_here hm
        show ((putRow id (Go.Sort.ahead w n) g 0 (flatK nodC 6 d')).heap ++ os)[g]? = _
        rw [Array.getElem?_append, if_pos hlt2]
        exact hm
      refine ⟨flatN_length _, .inr ⟨g, c, _, by simp [hsz'], hB, hg2, by rw [Array.length_toList, hsz']; exact hlc, hcm, p1.trans hcs, ?_⟩⟩
      rw [← hFs, p2, hF]
    · rw [hw]
      refine ⟨rfl, rfl, rfl, ?_, fun k hk hn => ?_⟩
      · show w.heap.size ≤ ((putRow id (Go.Sort.ahead w n) g 0 (flatK nodC 6 d')).heap ++ os).size
        rw [Array.size_append]
        have := Go.Sort.size_putRow id (Go.Sort.ahead w n) g 0 (flatK nodC 6 d')
        have h2 : (Go.Sort.ahead w n).heap.size = w.heap.size := rfl
        omega
      · have hkg : k ≠ g := fun e => hn (by rw [e]; rfl)
        show ((putRow id (Go.Sort.ahead w n) g 0 (flatK nodC 6 d')).heap ++ os)[k]? = _
        have := Go.Sort.size_putRow id (Go.Sort.ahead w n) g 0 (flatK nodC 6 d')
        have h2 : (Go.Sort.ahead w n).heap.size = w.heap.size := rfl
        rw [Array.getElem?_append, if_pos (by omega)]
        unfold putRow mapBlock
        rw [Array.getElem?_modify, if_neg (fun e => hkg e.symm)]
        rfl
end Go.Proofs.YtiffeljmeahmkaaDoor.S
