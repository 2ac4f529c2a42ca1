/-
  The texts of this proof, joined (wip/merge.py): the calculus of slots, plain mathematics, walks.
-/
import Derived.Test.YtnckpafknojdhaaDoorGa1
set_option linter.unusedSimpArgs false
set_option linter.unusedVariables false
namespace Go.Proofs.YtnckpafknojdhaaDoor
def rowQ (a : A) (cs : List Int) (q : Nat) : List Int := (a.next.getD q []).map fun t => cs.getD t.toNat 0
def quo (a : A) (cs : List Int) : A := ⟨a.al, (dd cs).map fun c => rowQ a cs (cs.idxOf c), (dd cs).map fun c => a.acc.getD (cs.idxOf c) false⟩
section
variable {a b : A}
def nCls (a : A) : Nat := (dd (classes a)).length
def rep (a : A) (c : Nat) : Nat := (classes a).idxOf (c : Int)
theorem rep_spec (hv : validA a = true) {c : Nat} (h : c < nCls a) : rep a c < a.next.length ∧ (classes a).getD (rep a c) 0 = (c : Int) := by
  have hm : (c : Int) ∈ classes a := by
    rw [← mem_dd, dd_classes hv, List.mem_map]
    exact ⟨c, List.mem_range.2 h, rfl⟩
  have h1 := List.idxOf_lt_length_iff.2 hm
  refine ⟨by rw [← classes_length hv]; exact h1, ?_⟩
  rw [List.getD_eq_getElem?_getD]
  unfold rep
  rw [getElem_idx hm]; rfl
theorem quo_len (cs : List Int) : (quo a cs).next.length = (dd cs).length := List.length_map _
theorem quo_accs (cs : List Int) : (quo a cs).acc.length = (dd cs).length := List.length_map _
theorem dd_at (hv : validA a = true) {c : Nat} (h : c < nCls a) : (dd (classes a))[c]? = some (c : Int) := by
  have h' : c < (dd (classes a)).length := h
  rw [dd_classes hv, List.getElem?_map, List.getElem?_range h']; rfl
theorem quo_row (hv : validA a = true) {c : Nat} (h : c < nCls a) : (quo a (classes a)).next.getD c [] = rowQ a (classes a) (rep a c) := by
  show ((dd (classes a)).map _).getD c [] = _
  rw [List.getD_eq_getElem?_getD, List.getElem?_map, dd_at hv h]; rfl
theorem quo_acc (hv : validA a = true) {c : Nat} (h : c < nCls a) : (quo a (classes a)).acc.getD c false = a.acc.getD (rep a c) false := by
  show ((dd (classes a)).map _).getD c false = _
  rw [List.getD_eq_getElem?_getD, List.getElem?_map, dd_at hv h]; rfl
theorem nCls_le (hv : validA a = true) : 1 ≤ nCls a ∧ nCls a ≤ a.next.length := by
  have h0 := classes_length hv
  have h1 := dd_le (classes a)
  have h2 := (validA_spec.1 hv).2.1
  refine ⟨?_, by unfold nCls; omega⟩
  unfold nCls
  have := (classes_range hv (zero_in hv))
  omega
theorem quo_valid (hv : validA a = true) : validA (quo a (classes a)) = true := by
  have hs := validA_spec.1 hv
  have hn := nCls_le hv
  have hq : (quo a (classes a)).next.length = nCls a := quo_len _
  refine validA_spec.2 ⟨hs.1, by rw [hq]; omega, by rw [quo_accs, quo_len], fun row hr => ?_⟩
  obtain ⟨i, hi, rfl⟩ := List.mem_iff_getElem.1 hr
  have hi' : i < nCls a := by rw [← hq]; exact hi
  have e := quo_row hv hi'
  rw [List.getD_eq_getElem?_getD, List.getElem?_eq_getElem hi] at e
  have e2 : (quo a (classes a)).next[i] = rowQ a (classes a) (rep a i) := e
  have hrow := rowOk_at (validA_rows hv) (k := rep a i) (rep_spec hv hi').1
  rw [e2, hq]
  unfold rowQ
  refine ⟨by rw [List.length_map]; exact_mod_cast hrow.1, fun y hy => ?_⟩
  obtain ⟨t, ht, rfl⟩ := List.mem_map.1 hy
  have := hrow.2 t ht
  exact classes_range hv ⟨by omega, by omega⟩
def clsI (a : A) (q : Int) : Int := (classes a).getD q.toNat 0
theorem clsI_range (hv : validA a = true) {q : Int} (h : 0 ≤ q ∧ q < a.next.length) : 0 ≤ clsI a q ∧ clsI a q < ((quo a (classes a)).next.length : Int) := by
  rw [quo_len]; exact classes_range hv h
theorem rep_alike (hv : validA a = true) {q : Int} (h : 0 ≤ q ∧ q < a.next.length) : rep a (clsI a q).toNat < a.next.length ∧ (classes a).getD (rep a (clsI a q).toNat) 0 = clsI a q := by
  have h1 := clsI_range hv h
  rw [quo_len] at h1
  have h2 := rep_spec hv (c := (clsI a q).toNat) (by unfold nCls; omega)
  exact ⟨h2.1, by rw [h2.2, Int.toNat_of_nonneg h1.1]⟩
theorem quo_go (hv : validA a = true) {q l : Int} (h : 0 ≤ q ∧ q < a.next.length) (hl : l ∈ letters a.al) : goA (quo a (classes a)) (clsI a q) l = clsI a (goA a q l) := by
  obtain ⟨h0, h6, hh⟩ := mem_letters hl
  have hr := rep_alike hv h
  have hc := clsI_range hv h
  rw [quo_len] at hc
  have hp := place_lt (validA_spec.1 hv).1 ⟨h0, h6⟩ hh
  rw [goA_yes (show hs (quo a (classes a)).al l = true from hh), quo_row hv (by unfold nCls; omega)]
  have e1 : rowQ a (classes a) (rep a (clsI a q).toNat) = (letters a.al).map fun l => clsI a (goA a (rep a (clsI a q).toNat : Nat) l) := by
    unfold rowQ
    have := row_map hv (q := ((rep a (clsI a q).toNat : Nat) : Int)) ⟨by omega, by omega⟩
    rw [Int.toNat_natCast] at this
    rw [this, List.map_map]; rfl
  rw [e1]
  show (List.map _ _).getD (place a.al l) 0 = _
  rw [List.getD_eq_getElem?_getD, List.getElem?_map, at_getD (d := 0) hp.1, hp.2]
  show clsI a (goA a (rep a (clsI a q).toNat : Nat) l) = clsI a (goA a q l)
  refine classes_next hv ⟨by omega, by omega⟩ h hl ?_
  rw [Int.toNat_natCast]
  exact hr.2
theorem quo_accA (hv : validA a = true) {q : Int} (h : 0 ≤ q ∧ q < a.next.length) : accA (quo a (classes a)) (clsI a q) = accA a q := by
  have hr := rep_alike hv h
  have hc := clsI_range hv h
  rw [quo_len] at hc
  unfold accA
  rw [quo_acc hv (by unfold nCls; omega)]
  have := classes_acc hv (i := ((rep a (clsI a q).toNat : Nat) : Int)) ⟨by omega, by omega⟩ h (by rw [Int.toNat_natCast]; exact hr.2)
  unfold accA at this
  rwa [Int.toNat_natCast] at this
theorem quo_run (hv : validA a = true) : ∀ (w : List Int) {q : Int}, (0 ≤ q ∧ q < a.next.length) → (∀ x ∈ w, x ∈ letters a.al) → run (quo a (classes a)) (clsI a q) w = clsI a (run a q w)
  | [], _, _, _ => rfl
  | x :: w, q, h, hx => by
    have hl := hx x (List.mem_cons_self ..)
    have e : run (quo a (classes a)) (clsI a q) (x :: w) = run (quo a (classes a)) (goA (quo a (classes a)) (clsI a q) x) w := rfl
    rw [e, quo_go hv h hl, quo_run hv w (goA_in hv h ⟨(mem_letters hl).1, (mem_letters hl).2.1⟩) fun y hy => hx y (List.mem_cons_of_mem _ hy)]
    rfl
theorem cls_zero (hv : validA a = true) : clsI a 0 = 0 := by
  have h := (classes_order hv (k := 0) (by have := (validA_spec.1 hv).2.1; omega)).1
  have h2 := (classes_order hv (k := 0) (by have := (validA_spec.1 hv).2.1; omega)).2.1
  rw [newTo_zero] at h2
  unfold clsI
  rw [Int.toNat_zero]
  omega
theorem quo_word (hv : validA a = true) {w : List Int} (hx : ∀ x ∈ w, x ∈ letters a.al) : accW (quo a (classes a)) w = accW a w := by
  have e := quo_run hv w (zero_in hv) hx
  rw [cls_zero hv] at e
  unfold accW
  rw [e, quo_accA hv (run_in2 hv (over_six hx))]
def Reduced (a : A) : Prop := ∀ i j : Int, (0 ≤ i ∧ i < a.next.length) → (0 ≤ j ∧ j < a.next.length) → (∀ w : List Int, (∀ x ∈ w, x ∈ letters a.al) → accA a (run a i w) = accA a (run a j w)) → i = j
theorem quo_reduced (hv : validA a = true) : Reduced (quo a (classes a)) := by
  intro i j hi hj h
  rw [quo_len] at hi hj
  have one : ∀ c : Int, (0 ≤ c ∧ c < ((dd (classes a)).length : Int)) → ∃ q : Int, (0 ≤ q ∧ q < a.next.length) ∧ clsI a q = c := fun c hc => by
    have := rep_spec hv (c := c.toNat) (by unfold nCls; omega)
    exact ⟨(rep a c.toNat : Nat), ⟨by omega, by omega⟩, by unfold clsI; rw [Int.toNat_natCast, this.2]; omega⟩
  obtain ⟨p, hp, rfl⟩ := one i hi
  obtain ⟨q, hq, rfl⟩ := one j hj
  refine (classes_iff hv hp hq).2 fun w hx => ?_
  have h6 := over_six hx
  have := h w hx
  rwa [quo_run hv w hp hx, quo_run hv w hq hx, quo_accA hv (run_stay hv h6 hp), quo_accA hv (run_stay hv h6 hq)] at this
theorem min_unique (hv : validA a = true) (hv' : validA b = true) (hal : a.al = b.al) (ha : Reduced a) (hb : Reduced b) (h : ∀ w : List Int, (∀ x ∈ w, x ∈ letters a.al) → accW a w = accW b w) : trim a = trim b := by
  have hL : letters b.al = letters a.al := by rw [hal]
  -- the states that words lead to, and the states of the other automaton to which these words lead
  let acc : Int → Option (List Int) := fun q => fAt a q
  let g : Int → Int := fun q => run b 0 ((fAt a q).getD [])
  have hacc : ∀ {u : List Int}, (∀ x ∈ u, x ∈ letters a.al) → ∃ w, fAt a (run a 0 u) = some w ∧ (∀ x ∈ w, x ∈ letters a.al) ∧ run a 0 w = run a 0 u := fun {u} hu => by
    have hf := at_first hv (run a 0 u)
    have hs := hf.isSome.2 ⟨u, hu, decide_eq_true rfl⟩
    cases hd : fAt a (run a 0 u) with
    | none => rw [hd] at hs; cases hs
    | some w => have := at_word hv hd; exact ⟨w, rfl, this.1, this.2.1⟩
  -- words that lead to one state of a lead to one state of b
  have same : ∀ {u v : List Int}, (∀ x ∈ u, x ∈ letters a.al) → (∀ x ∈ v, x ∈ letters a.al) → run a 0 u = run a 0 v → run b 0 u = run b 0 v := fun {u v} hu hv2 e => by
    refine hb _ _ (run_in2 hv' (over_six hu)) (run_in2 hv' (over_six hv2)) fun w hx => ?_
    rw [hL] at hx
    have h1 := h (u ++ w) (fun x hx' => (List.mem_append.1 hx').elim (hu x) (hx x))
    have h2 := h (v ++ w) (fun x hx' => (List.mem_append.1 hx').elim (hv2 x) (hx x))
    unfold accW at h1 h2
    rw [run_cat, run_cat] at h1 h2
    rw [← h1, ← h2, e]
  have back : ∀ {u v : List Int}, (∀ x ∈ u, x ∈ letters a.al) → (∀ x ∈ v, x ∈ letters a.al) → run b 0 u = run b 0 v → run a 0 u = run a 0 v := fun {u v} hu hv2 e => by
    refine ha _ _ (run_in2 hv (over_six hu)) (run_in2 hv (over_six hv2)) fun w hx => ?_
    have h1 := h (u ++ w) (fun x hx' => (List.mem_append.1 hx').elim (hu x) (hx x))
    have h2 := h (v ++ w) (fun x hx' => (List.mem_append.1 hx').elim (hv2 x) (hx x))
    unfold accW at h1 h2
    rw [run_cat, run_cat] at h1 h2
    rw [h1, h2, e]
  have hg : ∀ {u : List Int}, (∀ x ∈ u, x ∈ letters a.al) → g (run a 0 u) = run b 0 u := fun {u} hu => by
    obtain ⟨w, h1, h2, h3⟩ := hacc hu
    show run b 0 ((fAt a (run a 0 u)).getD []) = _
    rw [h1]
    exact same h2 hu h3
  have e0 : g 0 = 0 := hg (u := []) (by simp)
  have key := num_map (al := a.al) (f := goA a) (s := 0) (acc := accA a) (f' := goA b) (acc' := accA b) (g := g) (P := fun q => ∃ u, (∀ x ∈ u, x ∈ letters a.al) ∧ run a 0 u = q)
    (fun p q hp hq e => by
      obtain ⟨u, hu, rfl⟩ := hp
      obtain ⟨v, hv2, rfl⟩ := hq
      rw [hg hu, hg hv2] at e
      exact back hu hv2 e)
    ⟨[], by simp, rfl⟩
    (fun q hq l hl => by
      obtain ⟨u, hu, rfl⟩ := hq
      exact ⟨u ++ [l], fun x hx => (List.mem_append.1 hx).elim (hu x) fun hx => by rw [List.mem_singleton.1 hx]; exact hl, by rw [run_cat]; rfl⟩)
    (fun q hq l hl => by
      obtain ⟨u, hu, rfl⟩ := hq
      have hul : ∀ x ∈ u ++ [l], x ∈ letters a.al := fun x hx => (List.mem_append.1 hx).elim (hu x) fun hx => by rw [List.mem_singleton.1 hx]; exact hl
      have e1 : goA a (run a 0 u) l = run a 0 (u ++ [l]) := by rw [run_cat]; rfl
      have e2 : goA b (run b 0 u) l = run b 0 (u ++ [l]) := by rw [run_cat]; rfl
      rw [hg hu, e1, hg hul, e2])
    (fun q hq => by
      obtain ⟨u, hu, rfl⟩ := hq
      rw [hg hu]
      exact (h u hu).symm)
  rw [e0] at key
  unfold trim
  rw [← hal]
  exact key.symm
theorem sorted_same : ∀ {xs ys : List (List Int)}, xs.Pairwise sl → ys.Pairwise sl → (∀ w, w ∈ xs ↔ w ∈ ys) → xs = ys
  | [], ys, _, _, h => by
    cases ys with
    | nil => rfl
    | cons y ys => exact absurd ((h y).2 (List.mem_cons_self ..)) (by simp)
  | x :: xs, [], _, _, h => absurd ((h x).1 (List.mem_cons_self ..)) (by simp)
  | x :: xs, y :: ys, hx, hy, h => by
    obtain ⟨hx1, hx2⟩ := List.pairwise_cons.1 hx
    obtain ⟨hy1, hy2⟩ := List.pairwise_cons.1 hy
    have e : x = y := by
      rcases List.mem_cons.1 ((h x).1 (List.mem_cons_self ..)) with e | h1
      · exact e
      · rcases List.mem_cons.1 ((h y).2 (List.mem_cons_self ..)) with e | h2
        · exact e.symm
        · exact absurd (sl_trans (hy1 x h1) (hx1 y h2)) (sl_irrefl _)
    subst e
    rw [sorted_same hx2 hy2 fun w => ?_]
    constructor
    · intro hw
      rcases List.mem_cons.1 ((h w).1 (List.mem_cons_of_mem _ hw)) with e | h1
      · subst e; exact absurd (hx1 w hw) (sl_irrefl _)
      · exact h1
    · intro hw
      rcases List.mem_cons.1 ((h w).2 (List.mem_cons_of_mem _ hw)) with e | h1
      · subst e; exact absurd (hy1 w hw) (sl_irrefl _)
      · exact h1
end
section
variable {α β : Type} [DecidableEq α] [DecidableEq β] {f : α → Int → α} {s : α} {L : List Int} {f' : β → Int → β} {g : α → β}
def pick (f' : β → Int → β) (s' : β) (us : List (List Int)) (ws : List (List Int)) : List (List Int) := ws.foldl (fun us w => wadd f' s' us w) us
theorem pick_cons (s' : β) (us : List (List Int)) (w : List Int) (ws : List (List Int)) : pick f' s' us (w :: ws) = pick f' s' (wadd f' s' us w) ws := rfl
theorem pick_map (s' : β) : ∀ (ws us : List (List Int)), (pick f' s' us ws).map (nodeOf f' s') = addAll (us.map (nodeOf f' s')) (ws.map (nodeOf f' s'))
  | [], us => rfl
  | w :: ws, us => by rw [pick_cons, pick_map s' ws, wadd_map, List.map_cons, addAll_cons]
theorem pick_mem (s' : β) : ∀ (ws us : List (List Int)), ∀ w ∈ pick f' s' us ws, w ∈ us ∨ w ∈ ws
  | [], us, w, h => .inl h
  | v :: ws, us, w, h => by
    rw [pick_cons] at h
    rcases pick_mem s' ws _ w h with h | h
    · rcases wadd_mem h with h | h
      · exact .inl h
      · exact .inr (h ▸ List.mem_cons_self ..)
    · exact .inr (List.mem_cons_of_mem _ h)
theorem pick_sorted (s' : β) : ∀ (ws us : List (List Int)), us.Pairwise sl → ws.Pairwise sl → (∀ u ∈ us, ∀ w ∈ ws, sl u w) → (pick f' s' us ws).Pairwise sl
  | [], us, hu, _, _ => hu
  | w :: ws, us, hu, hw, h => by
    obtain ⟨h1, h2⟩ := List.pairwise_cons.1 hw
    rw [pick_cons]
    refine pick_sorted s' ws _ (wadd_sorted hu fun u hu' => h u hu' w (List.mem_cons_self ..)) h2 fun u hu' v hv => ?_
    rcases wadd_mem hu' with h' | h'
    · exact h u h' v (List.mem_cons_of_mem _ hv)
    · exact h' ▸ h1 v hv
theorem pick_least (s' : β) : ∀ (ws us : List (List Int)), us.Pairwise sl → ws.Pairwise sl → (∀ u ∈ us, ∀ w ∈ ws, sl u w) → (∀ u ∈ us, ∀ v ∈ us, nodeOf f' s' u = nodeOf f' s' v → u = v) → ∀ p ∈ pick f' s' us ws, ∀ v, v ∈ us ∨ v ∈ ws → nodeOf f' s' v = nodeOf f' s' p → sle p v
  | [], us, _, _, _, hn, p, hp, v, hv, e => .inl (hn p hp v (hv.elim id fun h => by cases h) e.symm)
  | w :: ws, us, hu, hw, h, hn, p, hp, v, hv, e => by
    obtain ⟨h1, h2⟩ := List.pairwise_cons.1 hw
    rw [pick_cons] at hp
    have hb : ∀ u ∈ us, sl u w := fun u hu' => h u hu' w (List.mem_cons_self ..)
    have hstep : ∀ u ∈ wadd f' s' us w, ∀ x ∈ ws, sl u x := fun u hu' x hx => by
      rcases wadd_mem hu' with h' | h'
      · exact h u h' x (List.mem_cons_of_mem _ hx)
      · exact h' ▸ h1 x hx
    have hn' : ∀ u ∈ wadd f' s' us w, ∀ v ∈ wadd f' s' us w, nodeOf f' s' u = nodeOf f' s' v → u = v := fun u hu' v hv' e => by
      unfold wadd at hu' hv'
      by_cases hc : nodeOf f' s' w ∈ us.map (nodeOf f' s')
      · rw [if_pos hc] at hu' hv'; exact hn u hu' v hv' e
      · rw [if_neg hc] at hu' hv'
        rcases List.mem_append.1 hu' with h1 | h1 <;> rcases List.mem_append.1 hv' with h2 | h2
        · exact hn u h1 v h2 e
        · rw [List.mem_singleton.1 h2] at e; exact absurd (List.mem_map.2 ⟨u, h1, e⟩) hc
        · rw [List.mem_singleton.1 h1] at e; exact absurd (List.mem_map.2 ⟨v, h2, e.symm⟩) hc
        · rw [List.mem_singleton.1 h1, List.mem_singleton.1 h2]
    have ih := pick_least s' ws _ (wadd_sorted hu hb) h2 hstep hn' p hp
    rcases hv with hv | hv
    · exact ih v (.inl ((wadd_prefix us w).subset hv)) e
    · rcases List.mem_cons.1 hv with rfl | hv
      · by_cases hc : nodeOf f' s' v ∈ us.map (nodeOf f' s')
        · obtain ⟨u, hu', e'⟩ := List.mem_map.1 hc
          exact sle_trans (ih u (.inl ((wadd_prefix us v).subset hu')) (e'.trans e)) (.inr (hb u hu'))
        · exact ih v (.inl (wadd_self hc)) e
      · exact ih v (.inr hv) e
theorem ord_quo (hL : L.Pairwise (· < ·)) (hlen : (ord f s L).length ≤ 200) (hlen' : (ord f' (g s) L).length ≤ 200) (hn : ∀ w : List Int, (∀ x ∈ w, x ∈ L) → nodeOf f' (g s) w = g (nodeOf f s w)) : ord f' (g s) L = dd ((ord f s L).map g) := by
  have hsort := ordw_sorted (f := f) (s := s) hL
  have hsort' := ordw_sorted (f := f') (s := g s) hL
  -- a word found in the quotient is found before, too
  have hsub : ∀ u ∈ ordw f' (g s) L, u ∈ ordw f s L := fun u hu => by
    have ho := ordw_over hL hu
    obtain ⟨t, ht, e, hle⟩ := ordw_cover (f := f) (s := s) hL hlen u.length u rfl ho
    have hot := ordw_over hL ht
    obtain ⟨u', hu', e', hle'⟩ := ordw_cover (f := f') (s := g s) hL hlen' t.length t rfl hot
    have e2 : nodeOf f' (g s) t = nodeOf f' (g s) u := by rw [hn t hot, hn u ho, e]
    have := ordw_node hu' hu (e'.trans e2)
    subst this
    rw [sle_antisymm hle' hle]
    exact ht
  have hp : ordw f' (g s) L = pick f' (g s) [] (ordw f s L) := by
    refine sorted_same hsort' (pick_sorted _ _ _ List.Pairwise.nil hsort (by simp)) fun w => ?_
    have least := pick_least (f' := f') (g s) (ordw f s L) [] List.Pairwise.nil hsort (by simp) (by simp)
    have one : ∀ p ∈ pick f' (g s) [] (ordw f s L), p ∈ ordw f' (g s) L := fun p hp => by
      have hpo := (pick_mem _ _ _ p hp).elim (fun h => by cases h) id
      have ho := ordw_over hL hpo
      obtain ⟨u, hu, e, hle⟩ := ordw_cover (f := f') (s := g s) hL hlen' p.length p rfl ho
      have := least p hp u (.inr (hsub u hu)) e
      rw [sle_antisymm this hle]
      exact hu
    constructor
    · intro hw
      have h1 : nodeOf f' (g s) w ∈ (pick f' (g s) [] (ordw f s L)).map (nodeOf f' (g s)) := by
        rw [pick_map]
        exact mem_addAll.2 (.inr (List.mem_map.2 ⟨w, hsub w hw, rfl⟩))
      obtain ⟨p, hp, e⟩ := List.mem_map.1 h1
      rw [← ordw_node (one p hp) hw e]
      exact hp
    · exact one w
  rw [← ordw_map (f := f') (s := g s), hp, pick_map]
  unfold dd
  rw [← ordw_map (f := f) (s := s), List.map_map]
  congr 1
  exact List.map_congr_left fun w hw => hn w (ordw_over hL hw)
end
section
variable {a : A}
theorem trim_of_ord (hv : validA a = true) (h : ord (goA a) 0 (letters a.al) = (List.range a.next.length).map fun (i : Nat) => (i : Int)) : trim a = a := by
  have hs := validA_spec.1 hv
  have hnd : ((List.range a.next.length).map fun (i : Nat) => (i : Int)).Nodup := by rw [← h]; exact ord_nodup
  have hidx : ∀ q : Int, (0 ≤ q ∧ q < a.next.length) → (((List.range a.next.length).map fun (i : Nat) => (i : Int)).idxOf q : Int) = q := fun q hq => by
    have := idx_getElem hnd (i := q.toNat) (x := q) (by rw [List.getElem?_map, List.getElem?_range (by omega)]; exact congrArg some (Int.toNat_of_nonneg hq.1))
    omega
  unfold trim num
  rw [h]
  have e1 : ((List.range a.next.length).map fun (i : Nat) => (i : Int)).map (rowAt (goA a) (letters a.al) ((List.range a.next.length).map fun (i : Nat) => (i : Int))) = a.next := by
    rw [List.map_map]
    apply List.ext_getElem?
    intro i
    rw [List.getElem?_map]
    rcases Nat.lt_or_ge i a.next.length with hi | hi
    · rw [List.getElem?_range hi, at_getD (d := []) hi]
      show some (rowAt _ _ _ (i : Int)) = _
      have e := row_map hv (q := (i : Int)) ⟨by omega, by omega⟩
      rw [Int.toNat_natCast] at e
      rw [e]
      refine congrArg some (List.map_congr_left fun l hl => ?_)
      exact hidx _ (goA_in hv ⟨by omega, by omega⟩ ⟨(mem_letters hl).1, (mem_letters hl).2.1⟩)
    · rw [List.getElem?_eq_none (by simpa using hi), List.getElem?_eq_none hi]; rfl
  have e2 : ((List.range a.next.length).map fun (i : Nat) => (i : Int)).map (accA a) = a.acc := by
    rw [List.map_map]
    apply List.ext_getElem?
    intro i
    rw [List.getElem?_map]
    rcases Nat.lt_or_ge i a.next.length with hi | hi
    · rw [List.getElem?_range hi, at_getD (d := false) (by omega : i < a.acc.length)]
      rfl
    · rw [List.getElem?_eq_none (by simpa using hi), List.getElem?_eq_none (by omega)]; rfl
  rw [e1, e2]
theorem trim_ord (hv : validA a = true) : ord (goA (trim a)) 0 (letters (trim a).al) = (List.range (trim a).next.length).map fun (i : Nat) => (i : Int) := by
  have h := ord_map (f := goA a) (f' := goA (trim a)) (s := 0) (L := letters a.al) (g := fun q => ((ord (goA a) 0 (letters a.al)).idxOf q : Int)) (P := fun q => q ∈ ord (goA a) 0 (letters a.al))
    (fun x y hx hy e => idx_inj hx hy (by omega)) ord_mem0 (fun q hq l hl => ord_closed (ord200 hv) hq l hl) (fun q hq l hl => goA_num (validA_spec.1 hv).1 hq hl)
  rw [ord_zero' (ord200 hv)] at h
  show ord (goA (trim a)) 0 (letters a.al) = _
  rw [show ((0 : Nat) : Int) = 0 from rfl] at h
  rw [h, idx_all ord_nodup]
  unfold trim
  rw [num_len]
theorem quo_trim (hv : validA a = true) : trim (quo (trim a) (classes (trim a))) = quo (trim a) (classes (trim a)) := by
  have ht := trim_valid hv
  have hq := quo_valid ht
  refine trim_of_ord hq ?_
  have h := ord_quo (f := goA (trim a)) (s := 0) (L := letters (trim a).al) (f' := goA (quo (trim a) (classes (trim a)))) (g := clsI (trim a)) (letters_sorted _) (ord200 ht) (by rw [cls_zero ht]; exact ord200 hq) (fun w hx => quo_run ht w (zero_in ht) hx)
  rw [cls_zero ht] at h
  show ord _ 0 (letters (trim a).al) = _
  rw [h, trim_ord hv, quo_len, List.map_map]
  have e : (List.range (trim a).next.length).map (clsI (trim a) ∘ fun (i : Nat) => (i : Int)) = classes (trim a) := by
    apply List.ext_getElem?
    intro i
    rw [List.getElem?_map]
    rcases Nat.lt_or_ge i (trim a).next.length with hi | hi
    · rw [List.getElem?_range hi, at_getD (d := 0) (by rw [classes_length ht]; exact hi)]
      rfl
    · rw [List.getElem?_eq_none (by simpa using hi), List.getElem?_eq_none (by rw [classes_length ht]; exact hi)]; rfl
  rw [e]
  exact dd_classes ht
def minA (a : A) : A := trim (quo a (classes a))
def minS (a : A) : A := quo (trim a) (classes (trim a))
theorem min_same (hv : validA a = true) : minS a = minA a := by
  have ht := trim_valid hv
  unfold minS minA
  rw [← quo_trim hv]
  refine min_unique (quo_valid ht) (quo_valid hv) rfl (quo_reduced ht) (quo_reduced hv) fun w hx => ?_
  rw [quo_word ht hx, quo_word hv hx, accW_trim hv hx]
theorem min_valid (hv : validA a = true) : validA (minA a) = true := trim_valid (quo_valid hv)
end
end Go.Proofs.YtnckpafknojdhaaDoor
set_option linter.unusedSimpArgs false
set_option linter.unusedVariables false
namespace Go.Proofs.YtnckpafknojdhaaDoor
open Go.RowKit
section
variable {P : Program} {N : Nat} {ops : Array Oper} {Q : Exit → Act → World → Prop} {rest : List Oper} {l : Slots} {w : World}
variable {d : Nat} {ty : TypeId} {pos : String} {after : Array Edge} {g : Option (Nat × Bool)}
end
def encS (s : ByteArray) : Value := .string s
theorem keyS {P : Program} {t kt et : TypeId} (h1 : P.underlying t = some (.map kt et)) (h2 : P.underlying kt = some .string) (h3 : ∀ w, (zeroValue et).run P w = .ok (.int .i64 0) w) : KeyT P t encS :=
  ⟨kt, et, .string, h1, h2, fun x y => by
    simp only [Instr.sameNow, encS]
    congr 1
    rw [Bool.eq_iff_iff, MapKept.bytes_beq, decide_eq_true_iff], h3, fun x => trivial⟩
section
variable {a b : A}
end
end Go.Proofs.YtnckpafknojdhaaDoor
set_option linter.unusedSimpArgs false
set_option linter.unusedVariables false
namespace Go.Proofs.YtnckpafknojdhaaDoor
instance memKeys (x : ByteArray) (l : List ByteArray) : Decidable (x ∈ l) := @List.instDecidableMemOfLawfulBEq ByteArray (@instBEqOfDecidableEq ByteArray _) _ x l
def itoa (x : Int) : ByteArray := if x < 10 then ⟨#[UInt8.ofNat (48 + x.toNat)]⟩ else ⟨#[UInt8.ofNat (48 + x.toNat / 10), UInt8.ofNat (48 + x.toNat % 10)]⟩
def digS : ByteArray := ⟨#[48, 49, 50, 51, 52, 53, 54, 55, 56, 57, 97, 98, 99, 100, 101, 102, 103, 104, 105, 106, 107, 108, 109, 110, 111, 112, 113, 114, 115, 116, 117, 118, 119, 120, 121, 122]⟩
def smallS : ByteArray := ⟨#[48, 48, 48, 49, 48, 50, 48, 51, 48, 52, 48, 53, 48, 54, 48, 55, 48, 56, 48, 57, 49, 48, 49, 49, 49, 50, 49, 51, 49, 52, 49, 53, 49, 54, 49, 55, 49, 56, 49, 57, 50, 48, 50, 49, 50, 50, 50, 51, 50, 52, 50, 53, 50, 54, 50, 55, 50, 56, 50, 57, 51, 48, 51, 49, 51, 50, 51, 51, 51, 52, 51, 53, 51, 54, 51, 55, 51, 56, 51, 57, 52, 48, 52, 49, 52, 50, 52, 51, 52, 52, 52, 53, 52, 54, 52, 55, 52, 56, 52, 57, 53, 48, 53, 49, 53, 50, 53, 51, 53, 52, 53, 53, 53, 54, 53, 55, 53, 56, 53, 57, 54, 48, 54, 49, 54, 50, 54, 51, 54, 52, 54, 53, 54, 54, 54, 55, 54, 56, 54, 57, 55, 48, 55, 49, 55, 50, 55, 51, 55, 52, 55, 53, 55, 54, 55, 55, 55, 56, 55, 57, 56, 48, 56, 49, 56, 50, 56, 51, 56, 52, 56, 53, 56, 54, 56, 55, 56, 56, 56, 57, 57, 48, 57, 49, 57, 50, 57, 51, 57, 52, 57, 53, 57, 54, 57, 55, 57, 56, 57, 57]⟩
theorem dig_cut : ∀ x : Fin 10, (digS.extract x.val (x.val + 1)).data.toList = (itoa (x.val : Int)).data.toList := by decide +kernel
theorem small_cut : ∀ x : Fin 100, 10 ≤ x.val → (smallS.extract (x.val * 2) (x.val * 2 + 2)).data.toList = (itoa (x.val : Int)).data.toList := by decide +kernel
theorem bytes_ext {s t : ByteArray} (h : s.data.toList = t.data.toList) : s = t := ByteArray.ext (Array.toList_inj.1 h)
theorem dig_lt {x : Int} (h0 : 0 ≤ x) (h : x < 10) : digS.extract x.toNat (x + 1).toNat = itoa x := by
  have := dig_cut ⟨x.toNat, by omega⟩
  simp only at this
  rw [show (x + 1).toNat = x.toNat + 1 by omega]
  rw [Int.toNat_of_nonneg h0] at this
  exact bytes_ext this
theorem small_lt {x : Int} (h0 : ¬ x < 10) (h : x < 100) : smallS.extract (x * 2).toNat (x * 2 + 2).toNat = itoa x := by
  have := small_cut ⟨x.toNat, by omega⟩ (by show 10 ≤ x.toNat; omega)
  simp only at this
  rw [show (x * 2 + 2).toNat = x.toNat * 2 + 2 by omega, show (x * 2).toNat = x.toNat * 2 by omega]
  rw [Int.toNat_of_nonneg (by omega)] at this
  exact bytes_ext this
def itL (x : Int) : List UInt8 := (itoa x).data.toList
theorem itL_eq (x : Int) : itL x = if x < 10 then [UInt8.ofNat (48 + x.toNat)] else [UInt8.ofNat (48 + x.toNat / 10), UInt8.ofNat (48 + x.toNat % 10)] := by
  unfold itL itoa
  split <;> rfl
theorem u8_ofNat_inj {m n : Nat} (hm : m < 256) (hn : n < 256) (h : UInt8.ofNat m = UInt8.ofNat n) : m = n := by
  have := congrArg UInt8.toNat h
  simp only [UInt8.toNat_ofNat'] at this
  omega
theorem itL_inj {x y : Int} (hx : 0 ≤ x ∧ x < 100) (hy : 0 ≤ y ∧ y < 100) (h : itL x = itL y) : x = y := by
  rw [itL_eq, itL_eq] at h
  by_cases h1 : x < 10 <;> by_cases h2 : y < 10
  · rw [if_pos h1, if_pos h2] at h
    have := u8_ofNat_inj (by omega) (by omega) (List.cons.inj h).1
    omega
  · rw [if_pos h1, if_neg h2] at h; simp at h
  · rw [if_neg h1, if_pos h2] at h; simp at h
  · rw [if_neg h1, if_neg h2] at h
    have e1 := u8_ofNat_inj (by omega) (by omega) (List.cons.inj h).1
    have e2 := u8_ofNat_inj (by omega) (by omega) (List.cons.inj (List.cons.inj h).2).1
    omega
theorem itL_comma {x : Int} (hx : 0 ≤ x ∧ x < 100) : (44 : UInt8) ∉ itL x := by
  rw [itL_eq]
  intro hc
  have one : ∀ n : Nat, n < 10 → (44 : UInt8) ≠ UInt8.ofNat (48 + n) := fun n hn hc => by
    have := u8_ofNat_inj (m := 44) (n := 48 + n) (by omega) (by omega) hc
    omega
  split at hc
  · rw [List.mem_singleton] at hc; exact one _ (by omega) hc
  · rcases List.mem_cons.1 hc with hc | hc
    · exact one _ (by omega) hc
    · rw [List.mem_singleton] at hc; exact one _ (by omega) hc
theorem itoa_size (x : Int) : (itoa x).size ≤ 2 := by
  unfold itoa
  split
  · exact (show 1 ≤ 2 by decide)
  · exact (show 2 ≤ 2 by decide)
def keyTx : List Int → ByteArray
  | [] => ⟨#[]⟩
  | x :: l => l.foldl (fun s y => s ++ ((⟨#[44]⟩ : ByteArray) ++ itoa y)) (itoa x)
theorem keyTx_snoc (x : Int) (l : List Int) (y : Int) : keyTx ((x :: l) ++ [y]) = keyTx (x :: l) ++ ((⟨#[44]⟩ : ByteArray) ++ itoa y) := by
  show List.foldl _ _ (l ++ [y]) = _
  rw [List.foldl_append]; rfl
theorem keyTx_size : ∀ (n : Nat) (l : List Int), l.length = n → (keyTx l).size ≤ 3 * n
  | 0, l, h => by rw [List.eq_nil_of_length_eq_zero h]; exact Nat.le_refl _
  | n + 1, l, h => by
    rcases List.eq_nil_or_concat l with rfl | ⟨l', y, rfl⟩
    · simp at h
    · rw [List.concat_eq_append] at h ⊢
      cases l' with
      | nil => have := itoa_size y; show (itoa y).size ≤ _; omega
      | cons x l' =>
        rw [keyTx_snoc]
        have := keyTx_size n (x :: l') (by simpa using h)
        have := itoa_size y
        simp only [ByteArray.size_append]
        have : (⟨#[44]⟩ : ByteArray).size = 1 := rfl
        omega
theorem split_last {A B u v : List UInt8} (hu : (44 : UInt8) ∉ u) (hv : (44 : UInt8) ∉ v) (h : A ++ 44 :: u = B ++ 44 :: v) : A = B ∧ u = v := by
  rcases List.append_eq_append_iff.1 h with ⟨c, h1, h2⟩ | ⟨c, h1, h2⟩
  · cases c with
    | nil => simp at h1 h2; exact ⟨h1.symm, h2⟩
    | cons z c =>
      rw [List.cons_append, List.cons.injEq] at h2
      exact absurd (by rw [h2.2]; simp) hu
  · cases c with
    | nil => simp at h1 h2; exact ⟨h1, h2.symm⟩
    | cons z c =>
      rw [List.cons_append, List.cons.injEq] at h2
      exact absurd (by rw [h2.2]; simp) hv
theorem keyTx_inj : ∀ (n : Nat) (l m : List Int), l.length = n → m.length = n → (∀ x ∈ l, 0 ≤ x ∧ x < 100) → (∀ x ∈ m, 0 ≤ x ∧ x < 100) → keyTx l = keyTx m → l = m
  | 0, l, m, hl, hm, _, _, _ => by rw [List.eq_nil_of_length_eq_zero hl, List.eq_nil_of_length_eq_zero hm]
  | n + 1, l, m, hl, hm, bl, bm, h => by
    rcases List.eq_nil_or_concat l with rfl | ⟨l', y, rfl⟩
    · simp at hl
    · rcases List.eq_nil_or_concat m with rfl | ⟨m', z, rfl⟩
      · simp at hm
      · simp only [List.concat_eq_append] at hl hm bl bm h ⊢
        have hy := bl y (by simp)
        have hz := bm z (by simp)
        cases l' with
        | nil =>
          have : n = 0 := by simpa using hl.symm
          subst this
          have : m' = [] := by cases m' with | nil => rfl | cons a b => simp at hm
          subst this
          have : itL y = itL z := by show (keyTx [y]).data.toList = (keyTx [z]).data.toList; rw [show [y] = [] ++ [y] from rfl, h]; rfl
          rw [itL_inj hy hz this]
        | cons x l' =>
          cases m' with
          | nil => simp at hl hm; omega
          | cons x' m' =>
            rw [keyTx_snoc, keyTx_snoc] at h
            have h2 := congrArg (fun s : ByteArray => s.data.toList) h
            simp only [ByteArray.data_append, Array.toList_append] at h2
            have h3 := split_last (itL_comma hy) (itL_comma hz) (A := (keyTx (x :: l')).data.toList) (B := (keyTx (x' :: m')).data.toList) h2
            have ih := keyTx_inj n (x :: l') (x' :: m') (by simpa using hl) (by simpa using hm) (fun w hw => bl w (List.mem_append_left _ hw)) (fun w hw => bm w (List.mem_append_left _ hw)) (bytes_ext h3.1)
            rw [ih, itL_inj hy hz h3.2]
section
variable {a : A}
theorem clsN_bd (hv : validA a = true) : ∀ (r q : Nat), 0 ≤ (clsN a r).getD q 0 ∧ (clsN a r).getD q 0 ≤ 12
  | 0, q => by
    rw [clsN, cls0, List.getD_eq_getElem?_getD, List.getElem?_map]
    cases a.acc[q]? with
    | none => simp
    | some b => cases b <;> simp
  | r + 1, q => by
    rcases Nat.lt_or_ge q a.next.length with h | h
    · rw [clsN_at h]
      have h1 := idxG_lt (mem_dd.2 (keyQ_mem (a := a) (cs := clsN a r) h))
      have h2 := dd_le (keys a (clsN a r))
      rw [keys_length] at h2
      have h3 := (validA_spec.1 hv).2.1
      omega
    · rw [List.getD_eq_getElem?_getD, List.getElem?_eq_none (by rw [clsN_length hv]; exact h)]; simp
theorem keyQ_bd (hv : validA a = true) (r q : Nat) : ∀ x ∈ keyQ a (clsN a r) q, 0 ≤ x ∧ x < 100 := fun x hx => by
  rcases List.mem_cons.1 hx with rfl | hx
  · have := clsN_bd hv r q; omega
  · obtain ⟨t, _, rfl⟩ := List.mem_map.1 hx
    have := clsN_bd hv r t.toNat; omega
theorem keyQ_len (hv : validA a = true) (cs : List Int) {q : Nat} (h : q < a.next.length) : (keyQ a cs q).length = (letters a.al).length + 1 := by
  have := valid_row hv h
  unfold keyQ
  rw [List.length_cons, List.length_map, this]
theorem keyTx_keys (hv : validA a = true) (r : Nat) : ∀ x ∈ keys a (clsN a r), ∀ y ∈ keys a (clsN a r), keyTx x = keyTx y → x = y := fun x hx y hy e => by
  obtain ⟨i, hi, rfl⟩ := List.mem_map.1 hx
  obtain ⟨j, hj, rfl⟩ := List.mem_map.1 hy
  exact keyTx_inj _ _ _ (keyQ_len hv _ (List.mem_range.1 hi)) (keyQ_len hv _ (List.mem_range.1 hj)) (keyQ_bd hv r i) (keyQ_bd hv r j) e
def keyTo (a : A) (cs : List Int) (q j : Nat) : ByteArray := keyTx ((keyQ a cs q).take (j + 1))
theorem keyTo_succ {cs : List Int} {q j : Nat} (h : j < (a.next.getD q []).length) : keyTo a cs q (j + 1) = keyTo a cs q j ++ ((⟨#[44]⟩ : ByteArray) ++ itoa (cs.getD ((a.next.getD q []).getD j 0).toNat 0)) := by
  unfold keyTo keyQ
  rw [List.take_succ_cons, List.take_succ_cons, take_snoc (d := 0) (by rw [List.length_map]; exact h), ← List.cons_append, keyTx_snoc]
  congr 3
  rw [List.getD_eq_getElem?_getD, List.getElem?_map, at_getD (d := 0) h]; rfl
theorem keyTo_done {cs : List Int} {q j : Nat} (h : (a.next.getD q []).length ≤ j) : keyTo a cs q j = keyTx (keyQ a cs q) := by
  unfold keyTo
  rw [List.take_of_length_le (by unfold keyQ; rw [List.length_cons, List.length_map]; omega)]
theorem keyTo_size (hv : validA a = true) {cs : List Int} {q : Nat} (hq : q < a.next.length) (j : Nat) : (keyTo a cs q j).size ≤ 21 := by
  have h := keyTx_size _ ((keyQ a cs q).take (j + 1)) rfl
  have h2 := keyQ_len hv cs hq
  have h3 := letters_len6 a.al
  rw [List.length_take] at h
  unfold keyTo
  omega
def nextTo (a : A) (cs : List Int) (q : Nat) : List Int := (List.range a.next.length).map fun (i : Nat) => if i < q then (idxG (dd (keys a cs)) (keyQ a cs i) : Int) else 0
def keysTo (a : A) (cs : List Int) (q : Nat) : List ByteArray := (dd ((keys a cs).take q)).map keyTx
theorem nextTo_zero (cs : List Int) : nextTo a cs 0 = List.replicate a.next.length 0 := by
  unfold nextTo
  apply List.ext_getElem?
  intro i
  rw [List.getElem?_map, List.getElem?_replicate]
  by_cases h : i < a.next.length
  · rw [List.getElem?_range h]; simp [h]
  · rw [List.getElem?_eq_none (by simpa using h)]; simp [h]
theorem nextTo_length (cs : List Int) (q : Nat) : (nextTo a cs q).length = a.next.length := by simp [nextTo]
theorem nextTo_set {cs : List Int} {q : Nat} {x : Int} (h : q < a.next.length) (hx : x = (idxG (dd (keys a cs)) (keyQ a cs q) : Int)) : (nextTo a cs q).set q x = nextTo a cs (q + 1) := by
  apply List.ext_getElem?
  intro i
  unfold nextTo
  rw [List.getElem?_set]
  rcases Nat.lt_or_ge i a.next.length with hi | hi
  · by_cases e : q = i
    · subst e
      rw [if_pos rfl, if_pos (by simpa using h), List.getElem?_map, List.getElem?_range hi, hx]
      simp
    · rw [if_neg e, List.getElem?_map, List.getElem?_map, List.getElem?_range hi]
      simp only [Option.map_some]
      by_cases h1 : i < q
      · rw [if_pos h1, if_pos (by omega)]
      · rw [if_neg h1, if_neg (by omega)]
  · rw [if_neg (by omega), List.getElem?_eq_none (by simpa using hi), List.getElem?_eq_none (by simpa using hi)]
theorem nextTo_all {cs : List Int} {q : Nat} (h : a.next.length ≤ q) : nextTo a cs q = refine' a cs := by
  unfold nextTo refine' canon keys
  rw [List.map_map]
  refine List.map_congr_left fun i hi => ?_
  rw [if_pos (by have := List.mem_range.1 hi; omega)]; rfl
theorem keys_get {cs : List Int} {q : Nat} (h : q < a.next.length) : (keys a cs)[q]'(by rw [keys_length]; exact h) = keyQ a cs q := by
  have := keys_at (cs := cs) h
  rw [List.getElem?_eq_getElem (by rw [keys_length]; exact h)] at this
  exact Option.some.inj this
theorem keysTo_mem (hv : validA a = true) {r q : Nat} (h : q < a.next.length) : keyTx (keyQ a (clsN a r) q) ∈ keysTo a (clsN a r) q ↔ keyQ a (clsN a r) q ∈ dd ((keys a (clsN a r)).take q) := by
  unfold keysTo
  rw [List.mem_map]
  constructor
  · rintro ⟨x, hx, e⟩
    have hx' : x ∈ keys a (clsN a r) := List.mem_of_mem_take (mem_dd.1 hx)
    rw [← keyTx_keys hv r x hx' _ (keyQ_mem h) e]
    exact hx
  · exact fun hx => ⟨_, hx, rfl⟩
theorem next_in (hv : validA a = true) {r q : Nat} (h : q < a.next.length) (hin : keyTx (keyQ a (clsN a r) q) ∈ keysTo a (clsN a r) q) : ((idxG (keysTo a (clsN a r) q) (keyTx (keyQ a (clsN a r) q)) : Nat) : Int) = (idxG (dd (keys a (clsN a r))) (keyQ a (clsN a r) q) : Int) ∧ keysTo a (clsN a r) (q + 1) = keysTo a (clsN a r) q := by
  have hm := (keysTo_mem hv h).1 hin
  have hk : q < (keys a (clsN a r)).length := by rw [keys_length]; exact h
  refine ⟨?_, ?_⟩
  · rw [idx_old hm]
    unfold keysTo idxG
    rw [idx_map (P := (· ∈ keys a (clsN a r))) (fun x y hx hy => keyTx_keys hv r x hx y hy) (fun x hx => List.mem_of_mem_take (mem_dd.1 hx)) (keyQ_mem h)]
  · unfold keysTo
    rw [dd_step hk, keys_get h, addNode_T hm]
theorem next_out (hv : validA a = true) {r q : Nat} (h : q < a.next.length) (hin : keyTx (keyQ a (clsN a r) q) ∉ keysTo a (clsN a r) q) : (((keysTo a (clsN a r) q).length : Nat) : Int) = (idxG (dd (keys a (clsN a r))) (keyQ a (clsN a r) q) : Int) ∧ keysTo a (clsN a r) (q + 1) = keysTo a (clsN a r) q ++ [keyTx (keyQ a (clsN a r) q)] := by
  have hm : keyQ a (clsN a r) q ∉ dd ((keys a (clsN a r)).take q) := fun hc => hin ((keysTo_mem hv h).2 hc)
  have hk : q < (keys a (clsN a r)).length := by rw [keys_length]; exact h
  have hf := idx_fresh hk (by rw [keys_get h]; exact hm)
  rw [keys_get h] at hf
  refine ⟨?_, ?_⟩
  · rw [hf]; unfold keysTo; rw [List.length_map]
  · unfold keysTo
    rw [dd_step hk, keys_get h, addNode_F hm, List.map_append]; rfl
theorem keysTo_all {r q : Nat} (h : a.next.length ≤ q) : ((keysTo a (clsN a r) q).length : Nat) = mN a (r + 1) := by
  unfold keysTo
  rw [List.length_map, List.take_of_length_le (by rw [keys_length]; exact h)]; rfl
def initTo (a : A) (k : Nat) : List Int := (List.range a.next.length).map fun (i : Nat) => if i < k ∧ a.acc.getD i false = true then 1 else 0
theorem initTo_zero : initTo a 0 = List.replicate a.next.length 0 := by
  unfold initTo
  apply List.ext_getElem?
  intro i
  rw [List.getElem?_map, List.getElem?_replicate]
  by_cases h : i < a.next.length
  · rw [List.getElem?_range h]; simp [h]
  · rw [List.getElem?_eq_none (by simpa using h)]; simp [h]
theorem initTo_length (k : Nat) : (initTo a k).length = a.next.length := by simp [initTo]
theorem initTo_T {k : Nat} (h : k < a.next.length) (hac : a.acc.getD k false = true) : (initTo a k).set k 1 = initTo a (k + 1) := by
  apply List.ext_getElem?
  intro i
  unfold initTo
  rw [List.getElem?_set]
  rcases Nat.lt_or_ge i a.next.length with hi | hi
  · by_cases e : k = i
    · subst e
      rw [if_pos rfl, if_pos (by simpa using h), List.getElem?_map, List.getElem?_range hi]
      simp only [Option.map_some]
      rw [if_pos ⟨by omega, hac⟩]
    · rw [if_neg e, List.getElem?_map, List.getElem?_map, List.getElem?_range hi]
      simp only [Option.map_some]
      have : (i < k ∧ a.acc.getD i false = true) ↔ (i < k + 1 ∧ a.acc.getD i false = true) := ⟨fun h => ⟨by omega, h.2⟩, fun h => ⟨by omega, h.2⟩⟩
      simp only [this]
  · rw [if_neg (by omega), List.getElem?_eq_none (by simpa using hi), List.getElem?_eq_none (by simpa using hi)]
theorem initTo_F {k : Nat} (hac : a.acc.getD k false = false) : initTo a (k + 1) = initTo a k := by
  unfold initTo
  refine List.map_congr_left fun i _ => ?_
  have : (i < k + 1 ∧ a.acc.getD i false = true) ↔ (i < k ∧ a.acc.getD i false = true) := ⟨fun h => ⟨by
    rcases Nat.lt_or_ge i k with h1 | h1
    · exact h1
    · rw [show i = k by omega, hac] at h; exact absurd h.2 (by decide), h.2⟩, fun h => ⟨by omega, h.2⟩⟩
  simp only [this]
theorem initTo_all (hv : validA a = true) {k : Nat} (h : a.next.length ≤ k) : initTo a k = clsN a 0 := by
  have hl := (validA_spec.1 hv).2.2.1
  unfold initTo
  rw [clsN, cls0]
  apply List.ext_getElem?
  intro i
  rw [List.getElem?_map, List.getElem?_map]
  rcases Nat.lt_or_ge i a.next.length with hi | hi
  · rw [List.getElem?_range hi, at_getD (d := false) (by omega : i < a.acc.length)]
    simp only [Option.map_some]
    cases hb : a.acc.getD i false with
    | true => rw [if_pos ⟨by omega, rfl⟩]; rfl
    | false => rw [if_neg (by simp)]; rfl
  · rw [List.getElem?_eq_none (by simpa using hi), List.getElem?_eq_none (by omega)]; rfl
theorem getD_take {α : Type} {l : List α} {d : α} {k j : Nat} (h : j < k) : (l.take k).getD j d = l.getD j d := by
  rw [List.getD_eq_getElem?_getD, List.getD_eq_getElem?_getD, List.getElem?_take, if_pos h]
theorem keyQ_iff (hv : validA a = true) {cs : List Int} {i j : Nat} (hi : i < a.next.length) (hj : j < a.next.length) : keyQ a cs i = keyQ a cs j ↔ cs.getD i 0 = cs.getD j 0 ∧ ∀ m, m < (a.next.getD i []).length → cs.getD ((a.next.getD i []).getD m 0).toNat 0 = cs.getD ((a.next.getD j []).getD m 0).toNat 0 := by
  have h1 := valid_row hv hi
  have h2 := valid_row hv hj
  unfold keyQ
  rw [List.cons.injEq]
  refine and_congr_right fun _ => ⟨fun h m hm => ?_, fun h => ?_⟩
  · have := congrArg (fun l : List Int => l[m]?) h
    simp only [List.getElem?_map] at this
    rw [at_getD (d := 0) hm, at_getD (d := 0) (by omega)] at this
    exact Option.some.inj this
  · apply List.ext_getElem?
    intro m
    rw [List.getElem?_map, List.getElem?_map]
    rcases Nat.lt_or_ge m (a.next.getD i []).length with hm | hm
    · rw [at_getD (d := 0) hm, at_getD (d := 0) (by omega)]
      simp only [Option.map_some, h m hm]
    · rw [List.getElem?_eq_none hm, List.getElem?_eq_none (by omega)]
theorem ref_at {cs : List Int} {j : Nat} (h : j < a.next.length) : (refine' a cs).getD j 0 = (idxG (dd (keys a cs)) (keyQ a cs j) : Int) := by
  rw [refine', canon, List.getD_eq_getElem?_getD, List.getElem?_map, keys_at h]; rfl
theorem ref_length (cs : List Int) : (refine' a cs).length = a.next.length := by rw [refine', canon_length, keys_length]
def cntK (a : A) (cs : List Int) (i : Nat) : Nat := (dd ((keys a cs).take i)).length
theorem cntK_le (cs : List Int) (i : Nat) : cntK a cs i ≤ i := by
  have := dd_le ((keys a cs).take i)
  rw [List.length_take] at this
  unfold cntK
  omega
theorem cntK_all (cs : List Int) {i : Nat} (h : a.next.length ≤ i) : cntK a cs i = (dd (keys a cs)).length := by
  unfold cntK
  rw [List.take_of_length_le (by rw [keys_length]; exact h)]
theorem mem_before {cs : List Int} {i : Nat} (h : i < a.next.length) : keyQ a cs i ∈ dd ((keys a cs).take i) ↔ ∃ m, m < i ∧ keyQ a cs m = keyQ a cs i := by
  rw [mem_dd, List.mem_iff_getElem]
  constructor
  · rintro ⟨m, hm, e⟩
    rw [List.length_take] at hm
    refine ⟨m, by omega, ?_⟩
    rw [List.getElem_take, keys_get (by omega)] at e
    exact e
  · rintro ⟨m, hm, e⟩
    refine ⟨m, by rw [List.length_take, keys_length]; omega, ?_⟩
    rw [List.getElem_take, keys_get (by omega), e]
theorem ref_old {cs : List Int} {i m : Nat} (h : i < a.next.length) (hm : m < i) (e : keyQ a cs i = keyQ a cs m) : (refine' a cs).getD m 0 = (refine' a cs).getD i 0 ∧ cntK a cs (i + 1) = cntK a cs i := by
  refine ⟨by rw [ref_at h, ref_at (by omega), e], ?_⟩
  unfold cntK
  rw [dd_step (by rw [keys_length]; exact h), keys_get h, addNode_T ((mem_before h).2 ⟨m, hm, e.symm⟩)]
theorem ref_new {cs : List Int} {i : Nat} (h : i < a.next.length) (e : ∀ m, m < i → keyQ a cs i ≠ keyQ a cs m) : (refine' a cs).getD i 0 = (cntK a cs i : Int) ∧ cntK a cs (i + 1) = cntK a cs i + 1 := by
  have hn : keyQ a cs i ∉ dd ((keys a cs).take i) := fun hc => by
    obtain ⟨m, hm, hq⟩ := (mem_before h).1 hc
    exact e m hm hq.symm
  have hk : i < (keys a cs).length := by rw [keys_length]; exact h
  have hf := idx_fresh hk (by rw [keys_get h]; exact hn)
  rw [keys_get h] at hf
  refine ⟨by rw [ref_at h, hf]; rfl, ?_⟩
  unfold cntK
  rw [dd_step hk, keys_get h, addNode_F hn, List.length_append]; rfl
theorem cls0_at {k : Nat} (h : k < a.acc.length) : (cls0 a).getD k 0 = if a.acc.getD k false = true then 1 else 0 := by
  rw [cls0, List.getD_eq_getElem?_getD, List.getElem?_map, at_getD (d := false) h]
  cases a.acc.getD k false <;> rfl
theorem cls0_length : (cls0 a).length = a.acc.length := by rw [cls0, List.length_map]
def qRows (a : A) (c : Nat) : List (List Int) := (List.range c).map fun c => rowQ a (classes a) (rep a c)
def qAccs (a : A) (c : Nat) : List Bool := (List.range c).map fun c => a.acc.getD (rep a c) false
theorem qRows_length (c : Nat) : (qRows a c).length = c := by simp [qRows]
theorem qAccs_length (c : Nat) : (qAccs a c).length = c := by simp [qAccs]
theorem qRows_succ (c : Nat) : qRows a (c + 1) = qRows a c ++ [rowQ a (classes a) (rep a c)] := by simp [qRows, List.range_succ]
theorem qAccs_succ (c : Nat) : qAccs a (c + 1) = qAccs a c ++ [a.acc.getD (rep a c) false] := by simp [qAccs, List.range_succ]
theorem qRows_all (hv : validA a = true) : qRows a (nCls a) = (quo a (classes a)).next := by
  show _ = (dd (classes a)).map _
  rw [dd_classes hv, List.map_map]; rfl
theorem qAccs_all (hv : validA a = true) : qAccs a (nCls a) = (quo a (classes a)).acc := by
  show _ = (dd (classes a)).map _
  rw [dd_classes hv, List.map_map]; rfl
theorem newTo_all (hv : validA a = true) {k : Nat} (h : a.next.length ≤ k) : newTo a k = nCls a := by
  unfold newTo nCls
  rw [List.take_of_length_le (by rw [keys_length]; exact h), dd_cls hv]
theorem newTo_mono (hv : validA a = true) : ∀ (d k : Nat), k + d ≤ a.next.length → newTo a k ≤ newTo a (k + d)
  | 0, k, _ => Nat.le_refl _
  | d + 1, k, h => by
    have h1 := newTo_mono hv d k (by omega)
    have h2 := (classes_order hv (k := k + d) (by omega)).2.2
    have : newTo a (k + d) ≤ newTo a (k + d + 1) := by rw [h2]; split <;> omega
    exact Nat.le_trans h1 this
theorem rep_new (hv : validA a = true) {k : Nat} (h : k < a.next.length) (e : (classes a).getD k 0 = (newTo a k : Int)) : rep a (newTo a k) = k := by
  have hl := classes_length hv
  have hlt : k < (classes a).length := by omega
  unfold rep
  have e' : (classes a)[k] = (newTo a k : Int) := by
    rw [List.getD_eq_getElem?_getD, List.getElem?_eq_getElem hlt] at e
    exact e
  refine idx_here (xs := classes a) (n := (newTo a k : Int)) (k := k) ?_ hlt e
  intro hc
  obtain ⟨j, hj, he⟩ := List.mem_iff_getElem.1 hc
  have hjk : j < k := by rw [List.length_take] at hj; omega
  have ho := classes_order hv (k := j) (by omega)
  have hm := newTo_mono hv (k - (j + 1)) (j + 1) (by omega)
  rw [show j + 1 + (k - (j + 1)) = k by omega] at hm
  rw [List.getElem_take] at he
  have he2 : (classes a).getD j 0 = (newTo a k : Int) := by rw [List.getD_eq_getElem?_getD, List.getElem?_eq_getElem (by omega), he]; rfl
  have h3 := ho.2.2
  have h4 := ho.2.1
  split at h3 <;> omega
theorem rep_get (hv : validA a = true) {c : Int} (h : 0 ≤ c ∧ c < nCls a) : c ∈ classes a ∧ ∃ q : Int, ((List.idxOf c (classes a) : Nat) : Int) = q ∧ (0 ≤ q ∧ q < a.next.length) ∧ q.toNat = rep a c.toNat := by
  have h1 := rep_spec hv (c := c.toNat) (by omega)
  have e : rep a c.toNat = List.idxOf c (classes a) := by unfold rep; rw [Int.toNat_of_nonneg h.1]
  refine ⟨?_, _, rfl, ⟨by omega, by rw [← e]; omega⟩, by rw [← e]; omega⟩
  have hl := classes_length hv
  have h2 := h1.2
  rw [Int.toNat_of_nonneg h.1] at h2
  rw [← h2]
  exact getD_mem (by omega)
def rowQTo (a : A) (cs : List Int) (q j : Nat) : List Int := ((a.next.getD q []).take j).map fun t => cs.getD t.toNat 0
theorem rowQTo_succ {cs : List Int} {q j : Nat} (h : j < (a.next.getD q []).length) : rowQTo a cs q (j + 1) = rowQTo a cs q j ++ [cs.getD ((a.next.getD q []).getD j 0).toNat 0] := by
  unfold rowQTo
  rw [take_snoc 0 h, List.map_append]; rfl
theorem rowQTo_done {cs : List Int} {q j : Nat} (h : (a.next.getD q []).length ≤ j) : rowQTo a cs q j = rowQ a cs q := by
  unfold rowQTo rowQ
  rw [List.take_of_length_le h]
theorem rowQTo_len (hv : validA a = true) (cs : List Int) {q : Nat} (h : q < a.next.length) (j : Nat) : (rowQTo a cs q j).length ≤ 6 := by
  have := valid_row hv h
  have := letters_len6 a.al
  unfold rowQTo
  rw [List.length_map, List.length_take]
  omega
end
theorem Still.field {P : Program} {N : Nat} {l : Slots} {w : World} {d : Nat} {ty : TypeId} {pos : String} {after : Array Edge} {g : Option (Nat × Bool)} {s f : Nat} {x : Operand} {u v : Value}
    (hf : ∀ w, (Instr.field s u f).run P w = .ok v w) (hx : ev l x = some u) : Still P N l ⟨some d, .field s x f, ty, pos, after, g⟩ v w := fun a ha => by
  simp [execOp, ha.ev hx, hf]
end Go.Proofs.YtnckpafknojdhaaDoor
set_option linter.unusedSimpArgs false
set_option linter.unusedVariables false
namespace Go.Proofs.YtnckpafknojdhaaDoor
set_option maxRecDepth 100000
theorem mixed : Tryd.prog.follows .mixedOrders = true := Tryd.checked.mixed
theorem fn8 : Fn Tryd.prog 8 Tryd.f8 := ⟨Tryd.func8, rfl, by kernel_rfl⟩
theorem fn9 : Fn Tryd.prog 9 Tryd.f9 := ⟨Tryd.func9, rfl, by kernel_rfl⟩
theorem fn10 : Fn Tryd.prog 10 Tryd.f10 := ⟨Tryd.func10, rfl, by kernel_rfl⟩
theorem fn11 : Fn Tryd.prog 11 Tryd.f11 := ⟨Tryd.func11, rfl, by kernel_rfl⟩
theorem fn13 : Fn Tryd.prog 13 Tryd.f13 := ⟨Tryd.func13, rfl, by kernel_rfl⟩
theorem fn15 : Fn Tryd.prog 15 Tryd.f15 := ⟨Tryd.func15, rfl, by kernel_rfl⟩
theorem fn16 : Fn Tryd.prog 16 Tryd.f16 := ⟨Tryd.func16, rfl, by kernel_rfl⟩
theorem fn23 : Fn Tryd.prog 23 Tryd.f23 := ⟨Tryd.func23, rfl, by kernel_rfl⟩
theorem fn24 : Fn Tryd.prog 24 Tryd.f24 := ⟨Tryd.func24, rfl, by kernel_rfl⟩
theorem fn25 : Fn Tryd.prog 25 Tryd.f25 := ⟨Tryd.func25, rfl, by kernel_rfl⟩
theorem fn26 : Fn Tryd.prog 26 Tryd.f26 := ⟨Tryd.func26, rfl, by kernel_rfl⟩
theorem fn27 : Fn Tryd.prog 27 Tryd.f27 := ⟨Tryd.func27, rfl, by kernel_rfl⟩
theorem fn28 : Fn Tryd.prog 28 Tryd.f28 := ⟨Tryd.func28, rfl, by kernel_rfl⟩
theorem fn29 : Fn Tryd.prog 29 Tryd.f29 := ⟨Tryd.func29, rfl, by kernel_rfl⟩
theorem fn30 : Fn Tryd.prog 30 Tryd.f30 := ⟨Tryd.func30, rfl, by kernel_rfl⟩
theorem fn31 : Fn Tryd.prog 31 Tryd.f31 := ⟨Tryd.func31, rfl, by kernel_rfl⟩
theorem fn34 : Fn Tryd.prog 34 Tryd.f34 := ⟨Tryd.func34, rfl, by kernel_rfl⟩
theorem fn35 : Fn Tryd.prog 35 Tryd.f35 := ⟨Tryd.func35, rfl, by kernel_rfl⟩
theorem fn36 : Fn Tryd.prog 36 Tryd.f36 := ⟨Tryd.func36, rfl, by kernel_rfl⟩
theorem fn38 : Fn Tryd.prog 38 Tryd.f38 := ⟨Tryd.func38, rfl, by kernel_rfl⟩
theorem fn40 : Fn Tryd.prog 40 Tryd.f40 := ⟨Tryd.func40, rfl, by kernel_rfl⟩
theorem fn41 : Fn Tryd.prog 41 Tryd.f41 := ⟨Tryd.func41, rfl, by kernel_rfl⟩
theorem fn47 : Fn Tryd.prog 47 Tryd.f47 := ⟨Tryd.func47, rfl, by kernel_rfl⟩
theorem fn48 : Fn Tryd.prog 48 Tryd.f48 := ⟨Tryd.func48, rfl, by kernel_rfl⟩
theorem fn49 : Fn Tryd.prog 49 Tryd.f49 := ⟨Tryd.func49, rfl, by kernel_rfl⟩
theorem fn50 : Fn Tryd.prog 50 Tryd.f50 := ⟨Tryd.func50, rfl, by kernel_rfl⟩
theorem fn51 : Fn Tryd.prog 51 Tryd.f51 := ⟨Tryd.func51, rfl, by kernel_rfl⟩
theorem fn52 : Fn Tryd.prog 52 Tryd.f52 := ⟨Tryd.func52, rfl, by kernel_rfl⟩
theorem fn53 : Fn Tryd.prog 53 Tryd.f53 := ⟨Tryd.func53, rfl, by kernel_rfl⟩
theorem fn55 : Fn Tryd.prog 55 Tryd.f55 := ⟨Tryd.func55, rfl, by kernel_rfl⟩
theorem fn56 : Fn Tryd.prog 56 Tryd.f56 := ⟨Tryd.func56, rfl, by kernel_rfl⟩
theorem fn57 : Fn Tryd.prog 57 Tryd.f57 := ⟨Tryd.func57, rfl, by kernel_rfl⟩
theorem fn59 : Fn Tryd.prog 59 Tryd.f59 := ⟨Tryd.func59, rfl, by kernel_rfl⟩
theorem fn63 : Fn Tryd.prog 63 Tryd.f63 := ⟨Tryd.func63, rfl, by kernel_rfl⟩
theorem fn64 : Fn Tryd.prog 64 Tryd.f64 := ⟨Tryd.func64, rfl, by kernel_rfl⟩
theorem fn65 : Fn Tryd.prog 65 Tryd.f65 := ⟨Tryd.func65, rfl, by kernel_rfl⟩
theorem fn66 : Fn Tryd.prog 66 Tryd.f66 := ⟨Tryd.func66, rfl, by kernel_rfl⟩
theorem fn67 : Fn Tryd.prog 67 Tryd.f67 := ⟨Tryd.func67, rfl, by kernel_rfl⟩
theorem fn74 : Fn Tryd.prog 74 Tryd.f74 := ⟨Tryd.func74, rfl, by kernel_rfl⟩
theorem fn75 : Fn Tryd.prog 75 Tryd.f75 := ⟨Tryd.func75, rfl, by kernel_rfl⟩
theorem fn76 : Fn Tryd.prog 76 Tryd.f76 := ⟨Tryd.func76, rfl, by kernel_rfl⟩
theorem fn79 : Fn Tryd.prog 79 Tryd.f79 := ⟨Tryd.func79, rfl, by kernel_rfl⟩
theorem fn80 : Fn Tryd.prog 80 Tryd.f80 := ⟨Tryd.func80, rfl, by kernel_rfl⟩
theorem fn81 : Fn Tryd.prog 81 Tryd.f81 := ⟨Tryd.func81, rfl, by kernel_rfl⟩
theorem fn82 : Fn Tryd.prog 82 Tryd.f82 := ⟨Tryd.func82, rfl, by kernel_rfl⟩
theorem fn83 : Fn Tryd.prog 83 Tryd.f83 := ⟨Tryd.func83, rfl, by kernel_rfl⟩
theorem fn94 : Fn Tryd.prog 94 Tryd.f94 := ⟨Tryd.func94, rfl, by kernel_rfl⟩
theorem fn100 : Fn Tryd.prog 100 Tryd.f100 := ⟨Tryd.func100, rfl, by kernel_rfl⟩
theorem fn101 : Fn Tryd.prog 101 Tryd.f101 := ⟨Tryd.func101, rfl, by kernel_rfl⟩
theorem one3 : One Tryd.prog 3 := ⟨fun _ => by kernel_rfl, fun _ => by kernel_rfl⟩
theorem zero3 : ∀ w, (zeroValue 3).run Tryd.prog w = .ok (.int .i64 0) w := fun _ => by kernel_rfl
theorem one4 : One Tryd.prog 4 := ⟨fun _ => by kernel_rfl, fun _ => by kernel_rfl⟩
theorem one22 : One Tryd.prog 22 := ⟨fun _ => by kernel_rfl, fun _ => by kernel_rfl⟩
theorem one23 : One Tryd.prog 23 := ⟨fun _ => by kernel_rfl, fun _ => by kernel_rfl⟩
theorem one41 : One Tryd.prog 41 := ⟨fun _ => by kernel_rfl, fun _ => by kernel_rfl⟩
theorem one89 : One Tryd.prog 89 := ⟨fun _ => by kernel_rfl, fun _ => by kernel_rfl⟩
theorem zero89 : ∀ w, (zeroValue 89).run Tryd.prog w = .ok (.slice none 0 0) w := fun _ => by kernel_rfl
theorem und4 : Tryd.prog.underlying 4 = some .bool := by kernel_rfl
theorem und9 : Tryd.prog.underlying 9 = some .string := by kernel_rfl
theorem sl22 : SlT Tryd.prog 22 41 (.slice none 0 0) := ⟨by kernel_rfl, ⟨_, rfl, by kernel_rfl, by kernel_rfl, by decide⟩, rfl⟩
theorem und22 : Tryd.prog.underlying 22 = some (.slice (Tryd.prog.elem 22)) := by kernel_rfl
theorem sl23 : SlT Tryd.prog 23 4 (.bool false) := ⟨by kernel_rfl, ⟨_, rfl, by kernel_rfl, by kernel_rfl, by decide⟩, rfl⟩
theorem und23 : Tryd.prog.underlying 23 = some (.slice (Tryd.prog.elem 23)) := by kernel_rfl
theorem sl41 : SlT Tryd.prog 41 3 (.int .i64 0) := ⟨by kernel_rfl, ⟨_, rfl, by kernel_rfl, by kernel_rfl, by decide⟩, rfl⟩
theorem und41 : Tryd.prog.underlying 41 = some (.slice (Tryd.prog.elem 41)) := by kernel_rfl
theorem und89 : Tryd.prog.underlying 89 = some (.slice (Tryd.prog.elem 89)) := by kernel_rfl
theorem agg25 : Agg Tryd.prog 25 3 := ⟨fun _ => by kernel_rfl, fun _ => by kernel_rfl⟩
theorem zero25 : ∀ w, (zeroValue 25).run Tryd.prog w = .ok (.agg [.int .i64 0, .slice none 0 0, .slice none 0 0].toArray) w := fun _ => by kernel_rfl
theorem st25 : StT Tryd.prog 25 3 [.int .i64 0, .slice none 0 0, .slice none 0 0] := StT.of (by kernel_rfl) (fun _ => by kernel_rfl) zero25
theorem fld25_0 : Fld Tryd.prog 25 0 0 := fun _ _ _ => by kernel_rfl
theorem fld25_1 : Fld Tryd.prog 25 1 1 := fun _ _ _ => by kernel_rfl
theorem fld25_2 : Fld Tryd.prog 25 2 2 := fun _ _ _ => by kernel_rfl
theorem agg31 : Agg Tryd.prog 31 3 := ⟨fun _ => by kernel_rfl, fun _ => by kernel_rfl⟩
theorem fld31_0 : Fld Tryd.prog 31 0 0 := fun _ _ _ => by kernel_rfl
theorem fld31_1 : Fld Tryd.prog 31 1 1 := fun _ _ _ => by kernel_rfl
theorem fld31_2 : Fld Tryd.prog 31 2 2 := fun _ _ _ => by kernel_rfl
theorem conv3_105 : Cnv Tryd.prog 3 105 .u64 := Cnv.of (by kernel_rfl) (by kernel_rfl)
theorem mk89 : (∃ i, Tryd.prog.info? 93 = some i ∧ i.zero = some (.agg #[.int .i64 0, .int .i64 0, .int .i64 0, .int .i64 0, .int .i64 0, .int .i64 0]) ∧ i.size = 6 ∧ i.bytes ≤ 512) ∧ ((.agg #[.int .i64 0, .int .i64 0, .int .i64 0, .int .i64 0, .int .i64 0, .int .i64 0]) : Value).cells.toList = List.replicate 6 (.int .i64 0) := ⟨⟨_, rfl, by kernel_rfl, by kernel_rfl, by decide⟩, by kernel_rfl⟩
theorem slk89 : SlK Tryd.prog 89 93 6 := ⟨by kernel_rfl, fun _ => by kernel_rfl⟩
theorem ar93 : ArT Tryd.prog 93 3 6 := ⟨by kernel_rfl, fun _ => by kernel_rfl⟩
def OwnA (w : World) (B : Nat) (v : Value) (a : A) : Prop := ∃ nx ac, v = .agg #[.int .i64 a.al, nx, ac] ∧ OwnRows w B w.heap.size 41 3 nx a.next ∧ Own w B 4 ac (a.acc.map Value.bool)
end Go.Proofs.YtnckpafknojdhaaDoor
set_option linter.unusedSimpArgs false
set_option linter.unusedVariables false
namespace Go.Proofs.YtnckpafknojdhaaDoor
set_option maxRecDepth 100000
theorem key88 : KeyT Tryd.prog 88 encS := keyS (kt := 9) (et := 3) (by kernel_rfl) (by kernel_rfl) zero3
theorem undm88 : Tryd.prog.underlying 88 = some (.map 9 3) := by kernel_rfl
theorem key117 : KeyT Tryd.prog 117 encI := keyI (kt := 3) (et := 3) (by kernel_rfl) (by kernel_rfl) zero3
end Go.Proofs.YtnckpafknojdhaaDoor
set_option linter.unusedSimpArgs false
set_option linter.unusedVariables false
namespace Go.Proofs.YtnckpafknojdhaaDoor
open Go.RowKit
set_option maxRecDepth 100000 in
theorem has_c (s n : Int) (h : 0 ≤ s ∧ s ≤ 9223372036854775807) (w0 : World) : Ret Tryd.prog 75 #[Value.int .i64 s, Value.int .i64 n] w0 (fun v w => v = .bool (hs s n) ∧ w0 = w) := by
  refine Ret.of (args := [Value.int .i64 s, Value.int .i64 n]) Tryd.func75 rfl rfl rfl ?_
  rintro _ rfl
  show Cq _ _ _ _ [(0, Value.int .i64 s), (1, Value.int .i64 n)] _
  refine Cq.seq ?_
  refine Cq.region ?_
  refine Sq.assign .plain rfl rfl ?_
  refine Sq.nil ?_
  refine Eq.next ?_
  refine Cq.seq ?_
  refine Cq.region ?_
  refine Sq.move .plain rfl rfl ?_
  refine Sq.geq .plain rfl rfl rfl ?_
  refine Sq.part (fun h0 => ?_) (fun h0 => ?_)
  · refine Sq.move .plain rfl rfl ?_
    refine Sq.move (.met rfl rfl rfl) rfl rfl ?_
    refine Sq.move (.met rfl rfl rfl) rfl rfl ?_
    refine Sq.shr (.met rfl rfl rfl) rfl rfl rfl (by omega) ?_
    refine Sq.and1 (.met rfl rfl rfl) rfl rfl (by first | omega | exact shr_ok (by omega)) ?_
    refine Sq.eql (.met rfl rfl rfl) rfl rfl rfl ?_
    refine Sq.pickT .plain rfl rfl rfl ?_
    refine Sq.assign .plain rfl rfl ?_
    refine Sq.nil ?_
    refine Eq.next ?_
    refine Cq.ret ?_
    refine Eq.ret1 rfl rfl ?_
    exact ⟨by rw [hs_shift s n h.1 h.2 h0], rfl⟩
  refine Sq.move .plain rfl rfl ?_
  refine Sq.off rfl rfl rfl rfl rfl rfl ?_
  refine Sq.off rfl rfl rfl rfl rfl rfl ?_
  refine Sq.off rfl rfl rfl rfl rfl rfl ?_
  refine Sq.off rfl rfl rfl rfl rfl rfl ?_
  refine Sq.off rfl rfl rfl rfl rfl rfl ?_
  refine Sq.pickF .plain rfl rfl rfl ?_
  refine Sq.assign .plain rfl rfl ?_
  refine Sq.nil ?_
  refine Eq.next ?_
  refine Cq.ret ?_
  refine Eq.ret1 rfl rfl ?_
  exact ⟨by simp [hs, h0], rfl⟩
set_option maxRecDepth 100000 in
theorem l1Has_c (s n : Int) (h : 0 ≤ s ∧ s ≤ 9223372036854775807) (hn : 0 ≤ n ∧ n ≤ 9223372036854775807) (w0 : World) : Ret Tryd.prog 74 #[Value.int .i64 s, Value.int .i64 n] w0 (fun v w => v = .bool (hs s n) ∧ w0 = w) := by
  refine Ret.of (args := [Value.int .i64 s, Value.int .i64 n]) Tryd.func74 rfl rfl rfl ?_
  rintro _ rfl
  show Cq _ _ _ _ [(0, Value.int .i64 s), (1, Value.int .i64 n)] _
  refine Cq.seq ?_
  refine Cq.region ?_
  refine Sq.assign .plain rfl rfl ?_
  refine Sq.nil ?_
  refine Eq.next ?_
  refine Cq.seq ?_
  refine Cq.region ?_
  refine Sq.move .plain rfl rfl ?_
  refine Sq.move .plain rfl rfl ?_
  refine Sq.convU conv3_105 .plain rfl rfl (by omega) ?_
  refine Sq.shr .plain rfl rfl rfl (by omega) ?_
  refine Sq.and1 .plain rfl rfl (by first | omega | exact shr_ok (by omega)) ?_
  refine Sq.eql .plain rfl rfl rfl ?_
  refine Sq.assign .plain rfl rfl ?_
  refine Sq.nil ?_
  refine Eq.next ?_
  refine Cq.ret ?_
  refine Eq.ret1 rfl rfl ?_
  exact ⟨by rw [hs_shift s n h.1 h.2 hn.1], rfl⟩
set_option maxRecDepth 100000 in
theorem isAlphabet_c (n : Int) (w0 : World) : Ret Tryd.prog 56 #[Value.int .i64 n] w0 (fun v w => v = .bool (decide (0 ≤ n ∧ n ≤ 63)) ∧ w0 = w) := by
  refine Ret.of (args := [Value.int .i64 n]) Tryd.func56 rfl rfl rfl ?_
  rintro _ rfl
  show Cq _ _ _ _ [(0, Value.int .i64 n)] _
  refine Cq.seq ?_
  refine Cq.region ?_
  refine Sq.assign .plain rfl rfl ?_
  refine Sq.nil ?_
  refine Eq.next ?_
  refine Cq.seq ?_
  refine Cq.region ?_
  refine Sq.move .plain rfl rfl ?_
  refine Sq.geq .plain rfl rfl rfl ?_
  refine Sq.part (fun c1 => ?_) (fun c1 => ?_)
  · refine Sq.move .plain rfl rfl ?_
    refine Sq.move (.met rfl rfl rfl) rfl rfl ?_
    refine Sq.leq (.met rfl rfl rfl) rfl rfl rfl ?_
    refine Sq.pickT .plain rfl rfl rfl ?_
    refine Sq.assign .plain rfl rfl ?_
    refine Sq.nil ?_
    refine Eq.next ?_
    refine Cq.ret ?_
    refine Eq.ret1 rfl rfl ?_
    exact ⟨by simp; omega, rfl⟩
  refine Sq.move .plain rfl rfl ?_
  refine Sq.off rfl rfl rfl rfl rfl rfl ?_
  refine Sq.off rfl rfl rfl rfl rfl rfl ?_
  refine Sq.pickF .plain rfl rfl rfl ?_
  refine Sq.assign .plain rfl rfl ?_
  refine Sq.nil ?_
  refine Eq.next ?_
  refine Cq.ret ?_
  refine Eq.ret1 rfl rfl ?_
  exact ⟨by simp; omega, rfl⟩
set_option maxRecDepth 100000 in
theorem l1Alphabet_c (n : Int) (w0 : World) : Ret Tryd.prog 51 #[Value.int .i64 n] w0 (fun v w => v = .bool (decide (0 ≤ n ∧ n ≤ 63)) ∧ w0 = w) := by
  refine Ret.of (args := [Value.int .i64 n]) Tryd.func51 rfl rfl rfl ?_
  rintro _ rfl
  show Cq _ _ _ _ [(0, Value.int .i64 n)] _
  refine Cq.seq ?_
  refine Cq.region ?_
  refine Sq.assign .plain rfl rfl ?_
  refine Sq.nil ?_
  refine Eq.next ?_
  refine Cq.seq ?_
  refine Cq.region ?_
  refine Sq.move .plain rfl rfl ?_
  refine Sq.geq .plain rfl rfl rfl ?_
  refine Sq.part (fun c1 => ?_) (fun c1 => ?_)
  · refine Sq.move .plain rfl rfl ?_
    refine Sq.move (.met rfl rfl rfl) rfl rfl ?_
    refine Sq.leq (.met rfl rfl rfl) rfl rfl rfl ?_
    refine Sq.pickT .plain rfl rfl rfl ?_
    refine Sq.assign .plain rfl rfl ?_
    refine Sq.nil ?_
    refine Eq.next ?_
    refine Cq.ret ?_
    refine Eq.ret1 rfl rfl ?_
    exact ⟨by simp; omega, rfl⟩
  refine Sq.move .plain rfl rfl ?_
  refine Sq.off rfl rfl rfl rfl rfl rfl ?_
  refine Sq.off rfl rfl rfl rfl rfl rfl ?_
  refine Sq.pickF .plain rfl rfl rfl ?_
  refine Sq.assign .plain rfl rfl ?_
  refine Sq.nil ?_
  refine Eq.next ?_
  refine Cq.ret ?_
  refine Eq.ret1 rfl rfl ?_
  exact ⟨by simp; omega, rfl⟩
set_option maxRecDepth 100000 in
theorem lettersOf_c (al : Int) (h : 0 ≤ al ∧ al ≤ 63) (w0 : World) : Ret Tryd.prog 57 #[Value.int .i64 al] w0 (fun v w => Own w w0.heap.size 3 v ((letters al).map (Value.int .i64)) ∧ Ext w0 w) := by
  have E := Ext.refl w0
  refine Ret.of (args := [Value.int .i64 al]) Tryd.func57 rfl rfl rfl ?_
  rintro _ rfl
  show Cq _ _ _ _ [(0, Value.int .i64 al)] _
  refine Cq.seq ?_
  refine Cq.region ?_
  refine Sq.assign .plain rfl rfl ?_
  refine Sq.nil ?_
  refine Eq.next ?_
  refine Cq.seq ?_
  refine Cq.region ?_
  refine Sq.assign .plain rfl rfl ?_
  refine Sq.nil ?_
  refine Eq.next ?_
  refine Cq.seq ?_
  refine Cq.seq ?_
  refine Cq.region ?_
  refine Sq.move .plain rfl rfl ?_
  refine Sq.nil ?_
  refine Eq.next ?_
  refine Cq.block ?_
  refine Cq.loop (fun nn w ls => ∃ (k : Int), ∃ (v : Value), ls = [(0, Value.int .i64 al), (3, v), (5, Value.int .i64 k)] ∧ (0 ≤ k ∧ k ≤ 6) ∧ Own w w0.heap.size 3 v ((lettersTo al k.toNat).map (Value.int .i64)) ∧ Ext w0 w ∧ nn = (6 - k).toNat) _ _ ⟨0, _, rfl, by omega, Own.nil _ _ _, E, rfl⟩ (.cons rfl (.cons rfl (.cons rfl (.nil)))) ?_
  rintro nn wl1 ls ⟨k, v, rfl, hk, ho, E, rfl⟩
  have hs1 := Below.size E
  have hl := lettersTo_length al k.toNat
  refine Cq.seq ?_
  refine Cq.region ?_
  refine Sq.lss .plain rfl rfl rfl ?_
  refine Sq.part (fun c2 => ?_) (fun c2 => ?_)
  · refine Sq.nil ?_
    refine Eq.next ?_
    refine Cq.seq ?_
    refine Cq.thn rfl ?_
    refine Cq.skip ?_
    refine Eq.next ?_
    refine Cq.seq ?_
    refine Cq.block ?_
    refine Cq.seq ?_
    refine Cq.region ?_
    refine Sq.move .plain rfl rfl ?_
    refine Sq.assign .plain rfl rfl ?_
    refine Sq.nil ?_
    refine Eq.next ?_
    refine Cq.seq ?_
    refine Cq.region ?_
    refine Sq.move .plain rfl rfl ?_
    refine Sq.move .plain rfl rfl ?_
    refine Sq.call fn75 .plain rfl rfl (has_c _ _ (by omega) _) ?_
    rintro _ _ ⟨rfl, rfl⟩
    refine Sq.partB (fun hb => ?_) (fun hb => ?_)
    · refine Sq.nil ?_
      refine Eq.next ?_
      refine Cq.thn rfl ?_
      refine Cq.region ?_
      refine Sq.move .plain rfl rfl ?_
      refine Sq.move .plain rfl rfl ?_
      refine Sq.app1 sl41 ho (by omega) (by simp; omega) .plain rfl rfl rfl rfl rfl rfl rfl (fun v3 w4 ho6 g5 _ => ?_)
      have hs7 := g5.size
      replace E := E.owned ho g5 (by omega)
      refine Sq.assign .plain rfl rfl ?_
      refine Sq.nil ?_
      refine Eq.end ?_
      refine Eq.next ?_
      refine Cq.region ?_
      refine Sq.add .plain rfl rfl rfl (by omega) ?_
      refine Sq.move .plain rfl rfl ?_
      refine Sq.nil ?_
      have e1 := toNat_succ hk.1
      refine Eq.round _ _ ⟨k + 1, _, rfl, by omega, (by rw [e1, lettersTo_T (by rw [Int.toNat_of_nonneg hk.1]; exact hb)]; simpa [Int.toNat_of_nonneg hk.1] using ho6), E, rfl⟩ (by omega) (.cons rfl (.cons rfl (.cons rfl (.nil))))
    refine Sq.nil ?_
    refine Eq.next ?_
    refine Cq.els rfl ?_
    refine Cq.skip ?_
    refine Eq.end ?_
    refine Eq.next ?_
    refine Cq.region ?_
    refine Sq.add .plain rfl rfl rfl (by omega) ?_
    refine Sq.move .plain rfl rfl ?_
    refine Sq.nil ?_
    have e1 := toNat_succ hk.1
    refine Eq.round _ _ ⟨k + 1, _, rfl, by omega, (by rw [e1, lettersTo_F (by rw [Int.toNat_of_nonneg hk.1]; exact hb)]; exact ho), E, rfl⟩ (by omega) (.cons rfl (.cons rfl (.cons rfl (.nil))))
  refine Sq.nil ?_
  refine Eq.next ?_
  refine Cq.seq ?_
  refine Cq.els rfl ?_
  refine Cq.exit ?_
  refine Eq.past ?_
  refine Eq.past ?_
  refine Eq.hit ?_
  refine Eq.next ?_
  refine Cq.seq ?_
  refine Cq.region ?_
  refine Sq.move .plain rfl rfl ?_
  refine Sq.assign .plain rfl rfl ?_
  refine Sq.nil ?_
  refine Eq.next ?_
  refine Cq.ret ?_
  refine Eq.ret1 rfl rfl ?_
  obtain rfl : k = 6 := by omega
  exact ⟨ho, E⟩
set_option maxRecDepth 100000 in
theorem l1Letters_c (al : Int) (h : 0 ≤ al ∧ al ≤ 63) (w0 : World) : Ret Tryd.prog 53 #[Value.int .i64 al] w0 (fun v w => Own w w0.heap.size 3 v ((letters al).map (Value.int .i64)) ∧ Ext w0 w) := by
  have E := Ext.refl w0
  refine Ret.of (args := [Value.int .i64 al]) Tryd.func53 rfl rfl rfl ?_
  rintro _ rfl
  show Cq _ _ _ _ [(0, Value.int .i64 al)] _
  refine Cq.seq ?_
  refine Cq.region ?_
  refine Sq.assign .plain rfl rfl ?_
  refine Sq.nil ?_
  refine Eq.next ?_
  refine Cq.seq ?_
  refine Cq.region ?_
  refine Sq.lit sl41 rfl rfl .plain rfl rfl one_nil (fun b1 w2 e3 hlo4 ho5 _ => ?_)
  replace ho5 := ho5 w0.heap.size (Nat.le_refl _)
  have hs7 := Below.size e3
  replace E := E.trans e3
  refine Sq.assign .plain rfl rfl ?_
  refine Sq.nil ?_
  refine Eq.next ?_
  refine Cq.seq ?_
  refine Cq.seq ?_
  refine Cq.region ?_
  refine Sq.assign .plain rfl rfl ?_
  refine Sq.nil ?_
  refine Eq.next ?_
  refine Cq.block ?_
  refine Cq.loop (fun nn w ls => ∃ (k : Int), ∃ (v : Value), ls = [(0, Value.int .i64 al), (3, v), (4, Value.int .i64 k)] ∧ (0 ≤ k ∧ k ≤ 6) ∧ Own w w0.heap.size 3 v ((lettersTo al k.toNat).map (Value.int .i64)) ∧ Ext w0 w ∧ nn = (6 - k).toNat) _ _ ⟨0, _, rfl, by omega, Own.mono ho5 (by omega), E, rfl⟩ (.cons rfl (.cons rfl (.cons rfl (.nil)))) ?_
  rintro nn wl1 ls ⟨k, v, rfl, hk, ho, E, rfl⟩
  have hs8 := Below.size E
  have hl := lettersTo_length al k.toNat
  refine Cq.seq ?_
  refine Cq.seq ?_
  refine Cq.region ?_
  refine Sq.move .plain rfl rfl ?_
  refine Sq.lss .plain rfl rfl rfl ?_
  refine Sq.part (fun c9 => ?_) (fun c9 => ?_)
  · refine Sq.nil ?_
    refine Eq.next ?_
    refine Cq.thn rfl ?_
    refine Cq.skip ?_
    refine Eq.next ?_
    refine Cq.seq ?_
    refine Cq.block ?_
    refine Cq.seq ?_
    refine Cq.region ?_
    refine Sq.move .plain rfl rfl ?_
    refine Sq.move .plain rfl rfl ?_
    refine Sq.call fn74 .plain rfl rfl (l1Has_c _ _ (by omega) (by omega) _) ?_
    rintro _ _ ⟨rfl, rfl⟩
    refine Sq.partB (fun hb => ?_) (fun hb => ?_)
    · refine Sq.nil ?_
      refine Eq.next ?_
      refine Cq.thn rfl ?_
      refine Cq.region ?_
      refine Sq.move .plain rfl rfl ?_
      refine Sq.move .plain rfl rfl ?_
      refine Sq.app1 sl41 ho (by omega) (by simp; omega) .plain rfl rfl rfl rfl rfl rfl rfl (fun v10 w11 ho13 g12 _ => ?_)
      have hs14 := g12.size
      replace E := E.owned ho g12 (by omega)
      refine Sq.assign .plain rfl rfl ?_
      refine Sq.nil ?_
      refine Eq.end ?_
      refine Eq.next ?_
      refine Cq.region ?_
      refine Sq.move .plain rfl rfl ?_
      refine Sq.add .plain rfl rfl rfl (by omega) ?_
      refine Sq.assign .plain rfl rfl ?_
      refine Sq.nil ?_
      have e1 := toNat_succ hk.1
      refine Eq.round _ _ ⟨k + 1, _, rfl, by omega, (by rw [e1, lettersTo_T (by rw [Int.toNat_of_nonneg hk.1]; exact hb)]; simpa [Int.toNat_of_nonneg hk.1] using ho13), E, rfl⟩ (by omega) (.cons rfl (.cons rfl (.cons rfl (.nil))))
    refine Sq.nil ?_
    refine Eq.next ?_
    refine Cq.els rfl ?_
    refine Cq.skip ?_
    refine Eq.end ?_
    refine Eq.next ?_
    refine Cq.region ?_
    refine Sq.move .plain rfl rfl ?_
    refine Sq.add .plain rfl rfl rfl (by omega) ?_
    refine Sq.assign .plain rfl rfl ?_
    refine Sq.nil ?_
    have e1 := toNat_succ hk.1
    refine Eq.round _ _ ⟨k + 1, _, rfl, by omega, (by rw [e1, lettersTo_F (by rw [Int.toNat_of_nonneg hk.1]; exact hb)]; exact ho), E, rfl⟩ (by omega) (.cons rfl (.cons rfl (.cons rfl (.nil))))
  refine Sq.nil ?_
  refine Eq.next ?_
  refine Cq.els rfl ?_
  refine Cq.exit ?_
  refine Eq.past ?_
  refine Eq.past ?_
  refine Eq.hit ?_
  refine Eq.next ?_
  refine Cq.seq ?_
  refine Cq.region ?_
  refine Sq.move .plain rfl rfl ?_
  refine Sq.assign .plain rfl rfl ?_
  refine Sq.nil ?_
  refine Eq.next ?_
  refine Cq.ret ?_
  refine Eq.ret1 rfl rfl ?_
  obtain rfl : k = 6 := by omega
  exact ⟨ho, E⟩
set_option maxRecDepth 100000 in
theorem l3Row_c (w0 : World) (xs : List Int) (r : Value) (hr : Ints w0 3 r xs) (m n : Int) (hm : m ≤ 1000000) : Ret Tryd.prog 52 #[r, Value.int .i64 m, Value.int .i64 n] w0 (fun v w => v = .bool (rowOk m n xs) ∧ w0 = w) := by
  refine Ret.of (args := [r, Value.int .i64 m, Value.int .i64 n]) Tryd.func52 rfl rfl rfl ?_
  rintro _ rfl
  show Cq _ _ _ _ [(0, r), (1, Value.int .i64 m), (2, Value.int .i64 n)] _
  refine Cq.seq ?_
  refine Cq.region ?_
  refine Sq.assign .plain rfl rfl ?_
  refine Sq.nil ?_
  refine Eq.next ?_
  refine Cq.seq ?_
  refine Cq.seq ?_
  refine Cq.region ?_
  refine Sq.move .plain rfl rfl ?_
  refine Sq.lenInts hr .plain rfl und41 rfl ?_
  refine Sq.move .plain rfl rfl ?_
  refine Sq.neq .plain rfl rfl rfl ?_
  refine Sq.part (fun c1 => ?_) (fun c1 => ?_)
  · refine Sq.nil ?_
    refine Eq.next ?_
    refine Cq.thn rfl ?_
    refine Cq.seq ?_
    refine Cq.region ?_
    refine Sq.assign .plain rfl rfl ?_
    refine Sq.nil ?_
    refine Eq.next ?_
    refine Cq.ret ?_
    refine Eq.pastRet ?_
    refine Eq.ret1 rfl rfl ?_
    exact ⟨by first | rw [rowOk_len (by omega)] | rw [rowOk_bad (by omega) (k := k.toNat) (by omega) (inB_F (by omega))] | rw [rowOk_good (by omega) hp (by omega)], rfl⟩
  refine Sq.nil ?_
  refine Eq.next ?_
  refine Cq.els rfl ?_
  refine Cq.skip ?_
  refine Eq.next ?_
  refine Cq.seq ?_
  refine Cq.seq ?_
  refine Cq.region ?_
  refine Sq.assign .plain rfl rfl ?_
  refine Sq.nil ?_
  refine Eq.next ?_
  refine Cq.block ?_
  refine Cq.loop (fun nn w ls => ∃ (k : Int), ls = [(0, r), (2, Value.int .i64 n), (7, Value.int .i64 k)] ∧ w0 = w ∧ (0 ≤ k ∧ k ≤ xs.length) ∧ (xs.take k.toNat).all (inB n) = true ∧ nn = ((xs.length : Int) - k).toNat) _ _ ⟨0, rfl, rfl, by omega, rfl, rfl⟩ (.cons rfl (.cons rfl (.cons rfl (.nil)))) ?_
  rintro n1 w ls ⟨k, rfl, rfl, hk, hp, rfl⟩
  refine Cq.seq ?_
  refine Cq.seq ?_
  refine Cq.region ?_
  refine Sq.move .plain rfl rfl ?_
  refine Sq.move .plain rfl rfl ?_
  refine Sq.lenInts hr .plain rfl und41 rfl ?_
  refine Sq.lss .plain rfl rfl rfl ?_
  refine Sq.part (fun c2 => ?_) (fun c2 => ?_)
  · refine Sq.nil ?_
    refine Eq.next ?_
    refine Cq.thn rfl ?_
    refine Cq.skip ?_
    refine Eq.next ?_
    refine Cq.seq ?_
    refine Cq.block ?_
    refine Cq.seq ?_
    refine Cq.region ?_
    refine Sq.move .plain rfl rfl ?_
    refine Sq.move .plain rfl rfl ?_
    refine Sq.idxInts sl41 one3 hr .plain rfl rfl rfl .plain rfl rfl (by omega) (by omega) ?_
    refine Sq.lss .plain rfl rfl rfl ?_
    refine Sq.part (fun c3 => ?_) (fun c3 => ?_)
    · refine Sq.move .plain rfl rfl ?_
      refine Sq.off rfl rfl rfl rfl rfl rfl ?_
      refine Sq.off rfl rfl rfl rfl rfl rfl ?_
      refine Sq.off rfl rfl rfl rfl rfl rfl ?_
      refine Sq.off rfl rfl rfl rfl rfl rfl ?_
      refine Sq.off rfl rfl rfl rfl rfl rfl ?_
      refine Sq.off rfl rfl rfl rfl rfl rfl ?_
      refine Sq.pickT .plain rfl rfl rfl ?_
      refine Sq.nil ?_
      refine Eq.next ?_
      refine Cq.thn rfl ?_
      refine Cq.seq ?_
      refine Cq.region ?_
      refine Sq.assign .plain rfl rfl ?_
      refine Sq.nil ?_
      refine Eq.next ?_
      refine Cq.ret ?_
      refine Eq.outRet ?_
      refine Eq.pastRet ?_
      refine Eq.pastRet ?_
      refine Eq.outRet ?_
      refine Eq.pastRet ?_
      refine Eq.ret1 rfl rfl ?_
      exact ⟨by first | rw [rowOk_len (by omega)] | rw [rowOk_bad (by omega) (k := k.toNat) (by omega) (inB_F (by omega))] | rw [rowOk_good (by omega) hp (by omega)], rfl⟩
    refine Sq.move .plain rfl rfl ?_
    refine Sq.move (.met rfl rfl rfl) rfl rfl ?_
    refine Sq.move (.met rfl rfl rfl) rfl rfl ?_
    refine Sq.idxInts sl41 one3 hr (.met rfl rfl rfl) rfl rfl rfl (.met rfl rfl rfl) rfl rfl (by omega) (by omega) ?_
    refine Sq.move (.met rfl rfl rfl) rfl rfl ?_
    refine Sq.geq (.met rfl rfl rfl) rfl rfl rfl ?_
    refine Sq.part (fun c4 => ?_) (fun c4 => ?_)
    · refine Sq.pickF .plain rfl rfl rfl ?_
      refine Sq.nil ?_
      refine Eq.next ?_
      refine Cq.thn rfl ?_
      refine Cq.seq ?_
      refine Cq.region ?_
      refine Sq.assign .plain rfl rfl ?_
      refine Sq.nil ?_
      refine Eq.next ?_
      refine Cq.ret ?_
      refine Eq.outRet ?_
      refine Eq.pastRet ?_
      refine Eq.pastRet ?_
      refine Eq.outRet ?_
      refine Eq.pastRet ?_
      refine Eq.ret1 rfl rfl ?_
      exact ⟨by first | rw [rowOk_len (by omega)] | rw [rowOk_bad (by omega) (k := k.toNat) (by omega) (inB_F (by omega))] | rw [rowOk_good (by omega) hp (by omega)], rfl⟩
    refine Sq.pickF .plain rfl rfl rfl ?_
    refine Sq.nil ?_
    refine Eq.next ?_
    refine Cq.els rfl ?_
    refine Cq.skip ?_
    refine Eq.end ?_
    refine Eq.next ?_
    refine Cq.region ?_
    refine Sq.move .plain rfl rfl ?_
    refine Sq.add .plain rfl rfl rfl (by omega) ?_
    refine Sq.assign .plain rfl rfl ?_
    refine Sq.nil ?_
    have e1 := toNat_succ hk.1
    refine Eq.round _ _ ⟨k + 1, rfl, rfl, by omega, by rw [e1]; exact all_snoc (d := 0) hp (by omega) (inB_T (by omega)), rfl⟩ (by omega) (.cons rfl (.cons rfl (.cons rfl (.nil))))
  refine Sq.nil ?_
  refine Eq.next ?_
  refine Cq.els rfl ?_
  refine Cq.exit ?_
  refine Eq.past ?_
  refine Eq.past ?_
  refine Eq.hit ?_
  refine Eq.next ?_
  refine Cq.seq ?_
  refine Cq.region ?_
  refine Sq.assign .plain rfl rfl ?_
  refine Sq.nil ?_
  refine Eq.next ?_
  refine Cq.ret ?_
  refine Eq.ret1 rfl rfl ?_
  exact ⟨by first | rw [rowOk_len (by omega)] | rw [rowOk_bad (by omega) (k := k.toNat) (by omega) (inB_F (by omega))] | rw [rowOk_good (by omega) hp (by omega)], rfl⟩
end Go.Proofs.YtnckpafknojdhaaDoor
set_option linter.unusedSimpArgs false
set_option linter.unusedVariables false
namespace Go.Proofs.YtnckpafknojdhaaDoor
open Go.RowKit
set_option maxRecDepth 100000 in
theorem sValid_c (w0 : World) (a : A) (nx ac : Value) (hnx : Rows w0 41 3 nx a.next) (hac : Bools w0 4 ac a.acc) : Ret Tryd.prog 31 #[Value.agg #[Value.int .i64 a.al, nx, ac]] w0 (fun v w => v = .bool (validA a) ∧ Ext w0 w) := by
  have E := Ext.refl w0
  refine Ret.of (args := [Value.agg #[Value.int .i64 a.al, nx, ac]]) Tryd.func31 rfl rfl rfl ?_
  rintro _ rfl
  show Cq _ _ _ _ [(0, Value.agg #[Value.int .i64 a.al, nx, ac])] _
  refine Cq.seq ?_
  refine Cq.region ?_
  refine Sq.box .plain rfl rfl (fun b1 w2 e3 hB4 hlo5 => ?_)
  have hd6 := Nat.le_trans (Below.size E) hlo5
  have hs7 := Below.size e3
  replace E := E.trans e3
  refine Sq.assign .plain rfl rfl ?_
  refine Sq.nil ?_
  refine Eq.next ?_
  refine Cq.seq ?_
  refine Cq.region ?_
  refine Sq.fieldAddr fld25_1 .plain rfl rfl ?_
  refine Sq.loadB one22 .plain rfl rfl hB4 rfl ?_
  refine Sq.lenRows (hnx.ext E) .plain rfl und22 rfl ?_
  refine Sq.assign .plain rfl rfl ?_
  refine Sq.nil ?_
  refine Eq.next ?_
  refine Cq.seq ?_
  refine Cq.seq ?_
  refine Cq.region ?_
  refine Sq.fieldAddr fld25_0 .plain rfl rfl ?_
  refine Sq.loadB one3 .plain rfl rfl hB4 rfl ?_
  refine Sq.call fn51 .plain rfl rfl (l1Alphabet_c _ _) ?_
  rintro _ _ ⟨rfl, rfl⟩
  refine Sq.part (fun c8 => ?_) (fun c8 => ?_)
  · refine Sq.notT .plain rfl rfl ?_
    refine Sq.move .plain rfl rfl ?_
    refine Sq.move (.met rfl rfl rfl) rfl rfl ?_
    refine Sq.lss (.met rfl rfl rfl) rfl rfl rfl ?_
    refine Sq.part (fun c9 => ?_) (fun c9 => ?_)
    · refine Sq.pickF .plain rfl rfl rfl ?_
      refine Sq.move .plain rfl rfl ?_
      refine Sq.off rfl rfl rfl rfl rfl rfl ?_
      refine Sq.off rfl rfl rfl rfl rfl rfl ?_
      refine Sq.pickT .plain rfl rfl rfl ?_
      refine Sq.move .plain rfl rfl ?_
      refine Sq.off rfl rfl rfl rfl rfl rfl ?_
      refine Sq.off rfl rfl rfl rfl rfl rfl ?_
      refine Sq.off rfl rfl rfl rfl rfl rfl ?_
      refine Sq.off rfl rfl rfl rfl rfl rfl ?_
      refine Sq.off rfl rfl rfl rfl rfl rfl ?_
      refine Sq.pickT .plain rfl rfl rfl ?_
      refine Sq.nil ?_
      refine Eq.next ?_
      refine Cq.thn rfl ?_
      refine Cq.seq ?_
      refine Cq.region ?_
      refine Sq.assign .plain rfl rfl ?_
      refine Sq.nil ?_
      refine Eq.next ?_
      refine Cq.ret ?_
      refine Eq.pastRet ?_
      refine Eq.ret1 rfl rfl ?_
      exact ⟨by first | rw [validA_al (by omega)] | rw [validA_n (by omega)] | rw [validA_acc (by omega)] | rw [validA_row (k := k.toNat) (by omega) hrow] | rw [validA_good (k := k.toNat) (by omega) (by omega) (by omega) hp (by omega)], E⟩
    refine Sq.pickF .plain rfl rfl rfl ?_
    refine Sq.move .plain rfl rfl ?_
    refine Sq.move (.met rfl rfl rfl) rfl rfl ?_
    refine Sq.gtr (.met rfl rfl rfl) rfl rfl rfl ?_
    refine Sq.part (fun c10 => ?_) (fun c10 => ?_)
    · refine Sq.pickF .plain rfl rfl rfl ?_
      refine Sq.move .plain rfl rfl ?_
      refine Sq.off rfl rfl rfl rfl rfl rfl ?_
      refine Sq.off rfl rfl rfl rfl rfl rfl ?_
      refine Sq.off rfl rfl rfl rfl rfl rfl ?_
      refine Sq.off rfl rfl rfl rfl rfl rfl ?_
      refine Sq.off rfl rfl rfl rfl rfl rfl ?_
      refine Sq.pickT .plain rfl rfl rfl ?_
      refine Sq.nil ?_
      refine Eq.next ?_
      refine Cq.thn rfl ?_
      refine Cq.seq ?_
      refine Cq.region ?_
      refine Sq.assign .plain rfl rfl ?_
      refine Sq.nil ?_
      refine Eq.next ?_
      refine Cq.ret ?_
      refine Eq.pastRet ?_
      refine Eq.ret1 rfl rfl ?_
      exact ⟨by first | rw [validA_al (by omega)] | rw [validA_n (by omega)] | rw [validA_acc (by omega)] | rw [validA_row (k := k.toNat) (by omega) hrow] | rw [validA_good (k := k.toNat) (by omega) (by omega) (by omega) hp (by omega)], E⟩
    refine Sq.pickF .plain rfl rfl rfl ?_
    refine Sq.move .plain rfl rfl ?_
    refine Sq.fieldAddr fld25_2 (.met rfl rfl rfl) rfl rfl ?_
    refine Sq.loadB one23 (.met rfl rfl rfl) rfl rfl hB4 rfl ?_
    refine Sq.lenBools (hac.ext E) (.met rfl rfl rfl) rfl und23 rfl ?_
    refine Sq.move (.met rfl rfl rfl) rfl rfl ?_
    refine Sq.neq (.met rfl rfl rfl) rfl rfl rfl ?_
    refine Sq.part (fun c11 => ?_) (fun c11 => ?_)
    · refine Sq.pickF .plain rfl rfl rfl ?_
      refine Sq.nil ?_
      refine Eq.next ?_
      refine Cq.thn rfl ?_
      refine Cq.seq ?_
      refine Cq.region ?_
      refine Sq.assign .plain rfl rfl ?_
      refine Sq.nil ?_
      refine Eq.next ?_
      refine Cq.ret ?_
      refine Eq.pastRet ?_
      refine Eq.ret1 rfl rfl ?_
      exact ⟨by first | rw [validA_al (by omega)] | rw [validA_n (by omega)] | rw [validA_acc (by omega)] | rw [validA_row (k := k.toNat) (by omega) hrow] | rw [validA_good (k := k.toNat) (by omega) (by omega) (by omega) hp (by omega)], E⟩
    refine Sq.pickF .plain rfl rfl rfl ?_
    refine Sq.nil ?_
    refine Eq.next ?_
    refine Cq.els rfl ?_
    refine Cq.skip ?_
    refine Eq.next ?_
    refine Cq.seq ?_
    refine Cq.seq ?_
    refine Cq.region ?_
    refine Sq.assign .plain rfl rfl ?_
    refine Sq.nil ?_
    refine Eq.next ?_
    refine Cq.block ?_
    refine Cq.loop (fun nn w ls => ∃ (k : Int), ls = [(1, Value.pointer (some ⟨b1, 0, none⟩)), (3, Value.int .i64 (List.length a.next : Int)), (4, Value.int .i64 k)] ∧ (0 ≤ k ∧ k ≤ a.next.length) ∧ (a.next.take k.toNat).all (rowOk (letters a.al).length a.next.length) = true ∧ Ext w0 w ∧ Blk w b1 25 [Value.int .i64 a.al, nx, ac] ∧ nn = ((a.next.length : Int) - k).toNat) _ _ ⟨0, rfl, by omega, rfl, E, hB4, rfl⟩ (.cons rfl (.cons rfl (.cons rfl (.nil)))) ?_
    rintro nn wl1 ls ⟨k, rfl, hk, hp, E, hB4, rfl⟩
    have hs12 := Below.size E
    refine Cq.seq ?_
    refine Cq.seq ?_
    refine Cq.region ?_
    refine Sq.move .plain rfl rfl ?_
    refine Sq.move .plain rfl rfl ?_
    refine Sq.lss .plain rfl rfl rfl ?_
    refine Sq.part (fun c13 => ?_) (fun c13 => ?_)
    · refine Sq.nil ?_
      refine Eq.next ?_
      refine Cq.thn rfl ?_
      refine Cq.skip ?_
      refine Eq.next ?_
      refine Cq.seq ?_
      refine Cq.block ?_
      refine Cq.seq ?_
      refine Cq.draw 12 none mixed (fun w14 e15 => ?_)
      have hs16 := Below.size e15
      replace E := E.trans e15
      replace hB4 := hB4.ext e15
      have E_w14 := E
      have hB4_w14 := hB4
      refine Gq.st 0 rfl (by kernel_rfl) rfl .plain rfl (fun _ _ _ h => h) (World.grownBy.refl w14 _) (fun w' x => Still.fieldAddr fld25_1 rfl) ?_
      refine Gq.st 1 rfl (by kernel_rfl) rfl .plain rfl (fun _ _ _ h => h) (World.grownBy.refl w14 _) (fun w' x => Still.loadB one22 rfl (hB4_w14.ext (Ext.of_grown x)) rfl) ?_
      refine Gq.st 2 rfl (by kernel_rfl) rfl .plain rfl (fun _ _ _ h => h) (World.grownBy.refl w14 _) (fun w' x => Still.move rfl) ?_
      obtain ⟨p17, r19, hp18_w14, hr20⟩ := Rows.at hnx (i := k) (by omega) (by omega)
      refine Gq.st 3 rfl (by kernel_rfl) rfl .plain rfl (fun _ _ _ h => h) (World.grownBy.refl w14 _) (fun w' x => Still.at' sl22 hp18_w14 rfl rfl) ?_
      refine Gq.st 4 rfl (by kernel_rfl) rfl .plain rfl (fun _ _ _ h => h) (World.grownBy.refl w14 _) (fun w' x => Still.loadA one41 rfl (hp18_w14.ext (E_w14.trans (Ext.of_grown x))).1) ?_
      refine Gq.st 5 rfl (by kernel_rfl) rfl .plain rfl (fun _ _ _ h => h) (World.grownBy.refl w14 _) (fun w' x => Still.fieldAddr fld25_0 rfl) ?_
      refine Gq.st 6 rfl (by kernel_rfl) rfl .plain rfl (fun _ _ _ h => h) (World.grownBy.refl w14 _) (fun w' x => Still.loadB one3 rfl (hB4_w14.ext (Ext.of_grown x)) rfl) ?_
      refine Gq.st 9 rfl (by kernel_rfl) rfl .plain rfl (fun _ _ _ h => h) (World.grownBy.refl w14 _) (fun w' x => Still.move rfl) ?_
      refine Gq.one 7 rfl (by kernel_rfl) ?_
      have hd25 := hB4.lt
      refine Sq.call fn53 .plain rfl rfl (l1Letters_c a.al (by omega) _) ?_
      rintro v21 w22 ⟨hl24, e23⟩
      have hs26 := Below.size E
      have hs27 := Below.size e23
      replace E := E.trans e23
      replace hB4 := hB4.ext e23
      refine Sq.nil ?_
      refine Eq.goes (fun _ => (grown_trans (World.grownBy.refl w14 _) (Ext.to_grown e23 _))) ?_
      refine Gq.one 8 rfl (by kernel_rfl) ?_
      refine Sq.lenInts (Own.row hl24) .plain rfl und41 rfl ?_
      refine Sq.nil ?_
      refine Eq.goes (fun _ => (grown_trans (World.grownBy.refl w14 _) (Ext.to_grown e23 _))) ?_
      refine Gq.one 10 rfl (by kernel_rfl) ?_
      refine Sq.call fn52 .plain rfl rfl (l3Row_c _ _ _ (hr20.ext E) _ _ (by have := letters_len6 a.al; omega)) ?_
      rintro _ _ ⟨rfl, rfl⟩
      refine Sq.partB (fun hrow => ?_) (fun hrow => ?_)
      · refine Sq.nil ?_
        refine Eq.goes (fun _ => (grown_trans (World.grownBy.refl w14 _) (Ext.to_grown e23 _))) ?_
        refine Gq.st 11 rfl (by kernel_rfl) rfl .plain rfl (fun _ _ _ h => h) (grown_trans (World.grownBy.refl w14 _) (Ext.to_grown e23 _)) (fun w' x => Still.notT rfl) ?_
        refine Gq.done (by kernel_rfl) ?_
        refine Eq.next ?_
        refine Cq.els rfl ?_
        refine Cq.skip ?_
        refine Eq.end ?_
        refine Eq.next ?_
        refine Cq.region ?_
        refine Sq.move .plain rfl rfl ?_
        refine Sq.add .plain rfl rfl rfl (by omega) ?_
        refine Sq.assign .plain rfl rfl ?_
        refine Sq.nil ?_
        have e1 := toNat_succ hk.1
        refine Eq.round _ _ ⟨k + 1, rfl, by omega, by rw [e1]; exact all_snoc (d := []) hp (by omega) hrow, E, hB4, rfl⟩ (by omega) (.cons rfl (.cons rfl (.cons rfl (.nil))))
      refine Sq.nil ?_
      refine Eq.goes (fun _ => (grown_trans (World.grownBy.refl w14 _) (Ext.to_grown e23 _))) ?_
      refine Gq.st 11 rfl (by kernel_rfl) rfl .plain rfl (fun _ _ _ h => h) (grown_trans (World.grownBy.refl w14 _) (Ext.to_grown e23 _)) (fun w' x => Still.notF rfl) ?_
      refine Gq.done (by kernel_rfl) ?_
      refine Eq.next ?_
      refine Cq.thn rfl ?_
      refine Cq.seq ?_
      refine Cq.region ?_
      refine Sq.assign .plain rfl rfl ?_
      refine Sq.nil ?_
      refine Eq.next ?_
      refine Cq.ret ?_
      refine Eq.outRet ?_
      refine Eq.pastRet ?_
      refine Eq.pastRet ?_
      refine Eq.outRet ?_
      refine Eq.pastRet ?_
      refine Eq.ret1 rfl rfl ?_
      exact ⟨by first | rw [validA_al (by omega)] | rw [validA_n (by omega)] | rw [validA_acc (by omega)] | rw [validA_row (k := k.toNat) (by omega) hrow] | rw [validA_good (k := k.toNat) (by omega) (by omega) (by omega) hp (by omega)], E⟩
    refine Sq.nil ?_
    refine Eq.next ?_
    refine Cq.els rfl ?_
    refine Cq.exit ?_
    refine Eq.past ?_
    refine Eq.past ?_
    refine Eq.hit ?_
    refine Eq.next ?_
    refine Cq.seq ?_
    refine Cq.region ?_
    refine Sq.assign .plain rfl rfl ?_
    refine Sq.nil ?_
    refine Eq.next ?_
    refine Cq.ret ?_
    refine Eq.ret1 rfl rfl ?_
    exact ⟨by first | rw [validA_al (by omega)] | rw [validA_n (by omega)] | rw [validA_acc (by omega)] | rw [validA_row (k := k.toNat) (by omega) hrow] | rw [validA_good (k := k.toNat) (by omega) (by omega) (by omega) hp (by omega)], E⟩
  refine Sq.notF .plain rfl rfl ?_
  refine Sq.move .plain rfl rfl ?_
  refine Sq.off rfl rfl rfl rfl rfl rfl ?_
  refine Sq.off rfl rfl rfl rfl rfl rfl ?_
  refine Sq.pickT .plain rfl rfl rfl ?_
  refine Sq.move .plain rfl rfl ?_
  refine Sq.off rfl rfl rfl rfl rfl rfl ?_
  refine Sq.off rfl rfl rfl rfl rfl rfl ?_
  refine Sq.pickT .plain rfl rfl rfl ?_
  refine Sq.move .plain rfl rfl ?_
  refine Sq.off rfl rfl rfl rfl rfl rfl ?_
  refine Sq.off rfl rfl rfl rfl rfl rfl ?_
  refine Sq.off rfl rfl rfl rfl rfl rfl ?_
  refine Sq.off rfl rfl rfl rfl rfl rfl ?_
  refine Sq.off rfl rfl rfl rfl rfl rfl ?_
  refine Sq.pickT .plain rfl rfl rfl ?_
  refine Sq.nil ?_
  refine Eq.next ?_
  refine Cq.thn rfl ?_
  refine Cq.seq ?_
  refine Cq.region ?_
  refine Sq.assign .plain rfl rfl ?_
  refine Sq.nil ?_
  refine Eq.next ?_
  refine Cq.ret ?_
  refine Eq.pastRet ?_
  refine Eq.ret1 rfl rfl ?_
  exact ⟨by first | rw [validA_al (by omega)] | rw [validA_n (by omega)] | rw [validA_acc (by omega)] | rw [validA_row (k := k.toNat) (by omega) hrow] | rw [validA_good (k := k.toNat) (by omega) (by omega) (by omega) hp (by omega)], E⟩
set_option maxRecDepth 100000 in
theorem valid_c (w0 : World) (a : A) (nx ac : Value) (hnx : Rows w0 41 3 nx a.next) (hac : Bools w0 4 ac a.acc) : Ret Tryd.prog 36 #[Value.agg #[Value.int .i64 a.al, nx, ac]] w0 (fun v w => v = .bool (validA a) ∧ Ext w0 w) := by
  have E := Ext.refl w0
  refine Ret.of (args := [Value.agg #[Value.int .i64 a.al, nx, ac]]) Tryd.func36 rfl rfl rfl ?_
  rintro _ rfl
  show Cq _ _ _ _ [(0, Value.agg #[Value.int .i64 a.al, nx, ac])] _
  refine Cq.seq ?_
  refine Cq.region ?_
  refine Sq.box .plain rfl rfl (fun b1 w2 e3 hB4 hlo5 => ?_)
  have hd6 := Nat.le_trans (Below.size E) hlo5
  have hs7 := Below.size e3
  replace E := E.trans e3
  refine Sq.assign .plain rfl rfl ?_
  refine Sq.nil ?_
  refine Eq.next ?_
  refine Cq.seq ?_
  refine Cq.seq ?_
  refine Cq.region ?_
  refine Sq.fieldAddr fld25_0 .plain rfl rfl ?_
  refine Sq.loadB one3 .plain rfl rfl hB4 rfl ?_
  refine Sq.call fn56 .plain rfl rfl (isAlphabet_c _ _) ?_
  rintro _ _ ⟨rfl, rfl⟩
  refine Sq.part (fun c8 => ?_) (fun c8 => ?_)
  · refine Sq.notT .plain rfl rfl ?_
    refine Sq.move .plain rfl rfl ?_
    refine Sq.fieldAddr fld25_1 (.met rfl rfl rfl) rfl rfl ?_
    refine Sq.loadB one22 (.met rfl rfl rfl) rfl rfl hB4 rfl ?_
    refine Sq.lenRows (hnx.ext E) (.met rfl rfl rfl) rfl und22 rfl ?_
    refine Sq.lss (.met rfl rfl rfl) rfl rfl rfl ?_
    refine Sq.part (fun c9 => ?_) (fun c9 => ?_)
    · refine Sq.pickF .plain rfl rfl rfl ?_
      refine Sq.move .plain rfl rfl ?_
      refine Sq.off rfl rfl rfl rfl rfl rfl ?_
      refine Sq.off rfl rfl rfl rfl rfl rfl ?_
      refine Sq.off rfl rfl rfl rfl rfl rfl ?_
      refine Sq.off rfl rfl rfl rfl rfl rfl ?_
      refine Sq.pickT .plain rfl rfl rfl ?_
      refine Sq.move .plain rfl rfl ?_
      refine Sq.off rfl rfl rfl rfl rfl rfl ?_
      refine Sq.off rfl rfl rfl rfl rfl rfl ?_
      refine Sq.off rfl rfl rfl rfl rfl rfl ?_
      refine Sq.off rfl rfl rfl rfl rfl rfl ?_
      refine Sq.off rfl rfl rfl rfl rfl rfl ?_
      refine Sq.off rfl rfl rfl rfl rfl rfl ?_
      refine Sq.off rfl rfl rfl rfl rfl rfl ?_
      refine Sq.pickT .plain rfl rfl rfl ?_
      refine Sq.nil ?_
      refine Eq.next ?_
      refine Cq.thn rfl ?_
      refine Cq.seq ?_
      refine Cq.region ?_
      refine Sq.assign .plain rfl rfl ?_
      refine Sq.nil ?_
      refine Eq.next ?_
      refine Cq.ret ?_
      refine Eq.pastRet ?_
      refine Eq.ret1 rfl rfl ?_
      exact ⟨by first | rw [validA_al (by omega)] | rw [validA_n (by omega)] | rw [validA_acc (by omega)] | rw [validA_row (k := k.toNat) (by omega) (rowOk_len (by omega))] | rw [validA_row (k := k.toNat) (by omega) (rowOk_bad (by omega) (k := j.toNat) (by omega) (inB_F (by omega)))] | rw [validA_good (k := k.toNat) (by omega) (by omega) (by omega) hp (by omega)], E⟩
    refine Sq.pickF .plain rfl rfl rfl ?_
    refine Sq.move .plain rfl rfl ?_
    refine Sq.fieldAddr fld25_1 (.met rfl rfl rfl) rfl rfl ?_
    refine Sq.loadB one22 (.met rfl rfl rfl) rfl rfl hB4 rfl ?_
    refine Sq.lenRows (hnx.ext E) (.met rfl rfl rfl) rfl und22 rfl ?_
    refine Sq.gtr (.met rfl rfl rfl) rfl rfl rfl ?_
    refine Sq.part (fun c10 => ?_) (fun c10 => ?_)
    · refine Sq.pickF .plain rfl rfl rfl ?_
      refine Sq.move .plain rfl rfl ?_
      refine Sq.off rfl rfl rfl rfl rfl rfl ?_
      refine Sq.off rfl rfl rfl rfl rfl rfl ?_
      refine Sq.off rfl rfl rfl rfl rfl rfl ?_
      refine Sq.off rfl rfl rfl rfl rfl rfl ?_
      refine Sq.off rfl rfl rfl rfl rfl rfl ?_
      refine Sq.off rfl rfl rfl rfl rfl rfl ?_
      refine Sq.off rfl rfl rfl rfl rfl rfl ?_
      refine Sq.pickT .plain rfl rfl rfl ?_
      refine Sq.nil ?_
      refine Eq.next ?_
      refine Cq.thn rfl ?_
      refine Cq.seq ?_
      refine Cq.region ?_
      refine Sq.assign .plain rfl rfl ?_
      refine Sq.nil ?_
      refine Eq.next ?_
      refine Cq.ret ?_
      refine Eq.pastRet ?_
      refine Eq.ret1 rfl rfl ?_
      exact ⟨by first | rw [validA_al (by omega)] | rw [validA_n (by omega)] | rw [validA_acc (by omega)] | rw [validA_row (k := k.toNat) (by omega) (rowOk_len (by omega))] | rw [validA_row (k := k.toNat) (by omega) (rowOk_bad (by omega) (k := j.toNat) (by omega) (inB_F (by omega)))] | rw [validA_good (k := k.toNat) (by omega) (by omega) (by omega) hp (by omega)], E⟩
    refine Sq.pickF .plain rfl rfl rfl ?_
    refine Sq.move .plain rfl rfl ?_
    refine Sq.fieldAddr fld25_2 (.met rfl rfl rfl) rfl rfl ?_
    refine Sq.loadB one23 (.met rfl rfl rfl) rfl rfl hB4 rfl ?_
    refine Sq.lenBools (hac.ext E) (.met rfl rfl rfl) rfl und23 rfl ?_
    refine Sq.fieldAddr fld25_1 (.met rfl rfl rfl) rfl rfl ?_
    refine Sq.loadB one22 (.met rfl rfl rfl) rfl rfl hB4 rfl ?_
    refine Sq.lenRows (hnx.ext E) (.met rfl rfl rfl) rfl und22 rfl ?_
    refine Sq.neq (.met rfl rfl rfl) rfl rfl rfl ?_
    refine Sq.part (fun c11 => ?_) (fun c11 => ?_)
    · refine Sq.pickF .plain rfl rfl rfl ?_
      refine Sq.nil ?_
      refine Eq.next ?_
      refine Cq.thn rfl ?_
      refine Cq.seq ?_
      refine Cq.region ?_
      refine Sq.assign .plain rfl rfl ?_
      refine Sq.nil ?_
      refine Eq.next ?_
      refine Cq.ret ?_
      refine Eq.pastRet ?_
      refine Eq.ret1 rfl rfl ?_
      exact ⟨by first | rw [validA_al (by omega)] | rw [validA_n (by omega)] | rw [validA_acc (by omega)] | rw [validA_row (k := k.toNat) (by omega) (rowOk_len (by omega))] | rw [validA_row (k := k.toNat) (by omega) (rowOk_bad (by omega) (k := j.toNat) (by omega) (inB_F (by omega)))] | rw [validA_good (k := k.toNat) (by omega) (by omega) (by omega) hp (by omega)], E⟩
    refine Sq.pickF .plain rfl rfl rfl ?_
    refine Sq.nil ?_
    refine Eq.next ?_
    refine Cq.els rfl ?_
    refine Cq.skip ?_
    refine Eq.next ?_
    refine Cq.seq ?_
    refine Cq.region ?_
    refine Sq.fieldAddr fld25_0 .plain rfl rfl ?_
    refine Sq.loadB one3 .plain rfl rfl hB4 rfl ?_
    have hd16 := hB4.lt
    refine Sq.call fn57 .plain rfl rfl (lettersOf_c a.al (by omega) _) ?_
    rintro v12 w13 ⟨hl15, e14⟩
    have hs17 := Below.size E
    have hs18 := Below.size e14
    replace E := E.trans e14
    replace hB4 := hB4.ext e14
    refine Sq.lenInts (Own.row hl15) .plain rfl und41 rfl ?_
    refine Sq.assign .plain rfl rfl ?_
    refine Sq.nil ?_
    refine Eq.next ?_
    refine Cq.seq ?_
    refine Cq.seq ?_
    refine Cq.region ?_
    refine Sq.fieldAddr fld25_1 .plain rfl rfl ?_
    refine Sq.loadB one22 .plain rfl rfl hB4 rfl ?_
    refine Sq.lenRows (hnx.ext E) .plain rfl und22 rfl ?_
    refine Sq.move .plain rfl rfl ?_
    refine Sq.nil ?_
    refine Eq.next ?_
    refine Cq.block ?_
    refine Cq.loop (fun nn w ls => ∃ (k : Int), ls = [(1, Value.pointer (some ⟨b1, 0, none⟩)), (3, Value.int .i64 ((List.length (letters a.al) : Int))), (38, nx), (39, Value.int .i64 (List.length a.next : Int)), (40, Value.int .i64 k)] ∧ (0 ≤ k ∧ k ≤ a.next.length) ∧ (a.next.take k.toNat).all (rowOk (letters a.al).length a.next.length) = true ∧ Ext w0 w ∧ Blk w b1 25 [Value.int .i64 a.al, nx, ac] ∧ nn = ((a.next.length : Int) - k).toNat) _ _ ⟨0, rfl, by omega, rfl, E, hB4, rfl⟩ (.cons rfl (.cons rfl (.cons rfl (.cons rfl (.cons rfl (.nil)))))) ?_
    rintro nn wl1 ls ⟨k, rfl, hk, hp, E, hB4, rfl⟩
    have hs19 := Below.size E
    refine Cq.seq ?_
    refine Cq.region ?_
    refine Sq.lss .plain rfl rfl rfl ?_
    refine Sq.part (fun c20 => ?_) (fun c20 => ?_)
    · refine Sq.nil ?_
      refine Eq.next ?_
      refine Cq.seq ?_
      refine Cq.thn rfl ?_
      refine Cq.skip ?_
      refine Eq.next ?_
      refine Cq.seq ?_
      refine Cq.block ?_
      refine Cq.seq ?_
      refine Cq.region ?_
      refine Sq.idxRows sl22 one41 (hnx.ext E) .plain rfl rfl rfl .plain rfl rfl (by omega) (by omega) (fun r21 hr22 => ?_)
      refine Sq.assign .plain rfl rfl ?_
      refine Sq.nil ?_
      refine Eq.next ?_
      refine Cq.seq ?_
      refine Cq.seq ?_
      refine Cq.region ?_
      refine Sq.move .plain rfl rfl ?_
      refine Sq.lenInts hr22 .plain rfl und41 rfl ?_
      refine Sq.move .plain rfl rfl ?_
      refine Sq.neq .plain rfl rfl rfl ?_
      refine Sq.part (fun c23 => ?_) (fun c23 => ?_)
      · refine Sq.nil ?_
        refine Eq.next ?_
        refine Cq.thn rfl ?_
        refine Cq.seq ?_
        refine Cq.region ?_
        refine Sq.assign .plain rfl rfl ?_
        refine Sq.nil ?_
        refine Eq.next ?_
        refine Cq.ret ?_
        refine Eq.pastRet ?_
        refine Eq.outRet ?_
        refine Eq.pastRet ?_
        refine Eq.pastRet ?_
        refine Eq.outRet ?_
        refine Eq.pastRet ?_
        refine Eq.ret1 rfl rfl ?_
        exact ⟨by first | rw [validA_al (by omega)] | rw [validA_n (by omega)] | rw [validA_acc (by omega)] | rw [validA_row (k := k.toNat) (by omega) (rowOk_len (by omega))] | rw [validA_row (k := k.toNat) (by omega) (rowOk_bad (by omega) (k := j.toNat) (by omega) (inB_F (by omega)))] | rw [validA_good (k := k.toNat) (by omega) (by omega) (by omega) hp (by omega)], E⟩
      refine Sq.nil ?_
      refine Eq.next ?_
      refine Cq.els rfl ?_
      refine Cq.skip ?_
      refine Eq.next ?_
      refine Cq.seq ?_
      refine Cq.region ?_
      refine Sq.move .plain rfl rfl ?_
      refine Sq.lenInts hr22 .plain rfl und41 rfl ?_
      refine Sq.move .plain rfl rfl ?_
      refine Sq.nil ?_
      refine Eq.next ?_
      refine Cq.block ?_
      refine Cq.loop (fun nn w ls => ∃ (j : Int), ls = [(1, Value.pointer (some ⟨b1, 0, none⟩)), (3, Value.int .i64 ((List.length (letters a.al) : Int))), (38, nx), (39, Value.int .i64 (List.length a.next : Int)), (40, Value.int .i64 k), (48, r21), (49, Value.int .i64 ((List.length (a.next.getD k.toNat []) : Int))), (50, Value.int .i64 j)] ∧ (0 ≤ j ∧ j ≤ (a.next.getD k.toNat []).length) ∧ ((a.next.getD k.toNat []).take j.toNat).all (inB a.next.length) = true ∧ Ext w0 w ∧ Blk w b1 25 [Value.int .i64 a.al, nx, ac] ∧ Ints w 3 r21 (a.next.getD k.toNat []) ∧ nn = (((a.next.getD k.toNat []).length : Int) - j).toNat) _ _ ⟨0, rfl, by omega, rfl, E, hB4, hr22, rfl⟩ (.cons rfl (.cons rfl (.cons rfl (.cons rfl (.cons rfl (.cons rfl (.cons rfl (.cons rfl (.nil))))))))) ?_
      rintro nn wl2 ls ⟨j, rfl, hj, hq, E, hB4, hr22, rfl⟩
      have hs24 := Below.size E
      have hl6 := letters_len6 a.al
      refine Cq.seq ?_
      refine Cq.region ?_
      refine Sq.lss .plain rfl rfl rfl ?_
      refine Sq.part (fun c25 => ?_) (fun c25 => ?_)
      · refine Sq.nil ?_
        refine Eq.next ?_
        refine Cq.seq ?_
        refine Cq.thn rfl ?_
        refine Cq.skip ?_
        refine Eq.next ?_
        refine Cq.seq ?_
        refine Cq.block ?_
        refine Cq.seq ?_
        refine Cq.region ?_
        refine Sq.idxInts sl41 one3 hr22 .plain rfl rfl rfl .plain rfl rfl (by omega) (by omega) ?_
        refine Sq.assign .plain rfl rfl ?_
        refine Sq.nil ?_
        refine Eq.next ?_
        refine Cq.seq ?_
        refine Cq.region ?_
        refine Sq.move .plain rfl rfl ?_
        refine Sq.lss .plain rfl rfl rfl ?_
        refine Sq.part (fun c26 => ?_) (fun c26 => ?_)
        · refine Sq.move .plain rfl rfl ?_
          refine Sq.off rfl rfl rfl rfl rfl rfl ?_
          refine Sq.off rfl rfl rfl rfl rfl rfl ?_
          refine Sq.off rfl rfl rfl rfl rfl rfl ?_
          refine Sq.off rfl rfl rfl rfl rfl rfl ?_
          refine Sq.off rfl rfl rfl rfl rfl rfl ?_
          refine Sq.pickT .plain rfl rfl rfl ?_
          refine Sq.nil ?_
          refine Eq.next ?_
          refine Cq.thn rfl ?_
          refine Cq.seq ?_
          refine Cq.region ?_
          refine Sq.assign .plain rfl rfl ?_
          refine Sq.nil ?_
          refine Eq.next ?_
          refine Cq.ret ?_
          refine Eq.outRet ?_
          refine Eq.pastRet ?_
          refine Eq.pastRet ?_
          refine Eq.outRet ?_
          refine Eq.outRet ?_
          refine Eq.pastRet ?_
          refine Eq.pastRet ?_
          refine Eq.outRet ?_
          refine Eq.pastRet ?_
          refine Eq.ret1 rfl rfl ?_
          exact ⟨by first | rw [validA_al (by omega)] | rw [validA_n (by omega)] | rw [validA_acc (by omega)] | rw [validA_row (k := k.toNat) (by omega) (rowOk_len (by omega))] | rw [validA_row (k := k.toNat) (by omega) (rowOk_bad (by omega) (k := j.toNat) (by omega) (inB_F (by omega)))] | rw [validA_good (k := k.toNat) (by omega) (by omega) (by omega) hp (by omega)], E⟩
        refine Sq.move .plain rfl rfl ?_
        refine Sq.move (.met rfl rfl rfl) rfl rfl ?_
        refine Sq.fieldAddr fld25_1 (.met rfl rfl rfl) rfl rfl ?_
        refine Sq.loadB one22 (.met rfl rfl rfl) rfl rfl hB4 rfl ?_
        refine Sq.lenRows (hnx.ext E) (.met rfl rfl rfl) rfl und22 rfl ?_
        refine Sq.geq (.met rfl rfl rfl) rfl rfl rfl ?_
        refine Sq.part (fun c27 => ?_) (fun c27 => ?_)
        · refine Sq.pickF .plain rfl rfl rfl ?_
          refine Sq.nil ?_
          refine Eq.next ?_
          refine Cq.thn rfl ?_
          refine Cq.seq ?_
          refine Cq.region ?_
          refine Sq.assign .plain rfl rfl ?_
          refine Sq.nil ?_
          refine Eq.next ?_
          refine Cq.ret ?_
          refine Eq.outRet ?_
          refine Eq.pastRet ?_
          refine Eq.pastRet ?_
          refine Eq.outRet ?_
          refine Eq.outRet ?_
          refine Eq.pastRet ?_
          refine Eq.pastRet ?_
          refine Eq.outRet ?_
          refine Eq.pastRet ?_
          refine Eq.ret1 rfl rfl ?_
          exact ⟨by first | rw [validA_al (by omega)] | rw [validA_n (by omega)] | rw [validA_acc (by omega)] | rw [validA_row (k := k.toNat) (by omega) (rowOk_len (by omega))] | rw [validA_row (k := k.toNat) (by omega) (rowOk_bad (by omega) (k := j.toNat) (by omega) (inB_F (by omega)))] | rw [validA_good (k := k.toNat) (by omega) (by omega) (by omega) hp (by omega)], E⟩
        refine Sq.pickF .plain rfl rfl rfl ?_
        refine Sq.nil ?_
        refine Eq.next ?_
        refine Cq.els rfl ?_
        refine Cq.skip ?_
        refine Eq.end ?_
        refine Eq.next ?_
        refine Cq.region ?_
        refine Sq.add .plain rfl rfl rfl (by omega) ?_
        refine Sq.move .plain rfl rfl ?_
        refine Sq.nil ?_
        have e2 := toNat_succ hj.1
        refine Eq.round _ _ ⟨j + 1, rfl, by omega, by rw [e2]; exact all_snoc (d := 0) hq (by omega) (inB_T (by omega)), E, hB4, hr22, rfl⟩ (by omega) (.cons rfl (.cons rfl (.cons rfl (.cons rfl (.cons rfl (.cons rfl (.cons rfl (.cons rfl (.nil)))))))))
      refine Sq.nil ?_
      refine Eq.next ?_
      refine Cq.seq ?_
      refine Cq.els rfl ?_
      refine Cq.exit ?_
      refine Eq.past ?_
      refine Eq.past ?_
      refine Eq.hit ?_
      refine Eq.end ?_
      refine Eq.next ?_
      refine Cq.region ?_
      refine Sq.add .plain rfl rfl rfl (by omega) ?_
      refine Sq.move .plain rfl rfl ?_
      refine Sq.nil ?_
      have e1 := toNat_succ hk.1
      refine Eq.round _ _ ⟨k + 1, rfl, by omega, by rw [e1]; exact all_snoc (d := []) hp (by omega) (rowOk_good (by omega) hq (by omega)), E, hB4, rfl⟩ (by omega) (.cons rfl (.cons rfl (.cons rfl (.cons rfl (.cons rfl (.nil))))))
    refine Sq.nil ?_
    refine Eq.next ?_
    refine Cq.seq ?_
    refine Cq.els rfl ?_
    refine Cq.exit ?_
    refine Eq.past ?_
    refine Eq.past ?_
    refine Eq.hit ?_
    refine Eq.next ?_
    refine Cq.seq ?_
    refine Cq.region ?_
    refine Sq.assign .plain rfl rfl ?_
    refine Sq.nil ?_
    refine Eq.next ?_
    refine Cq.ret ?_
    refine Eq.ret1 rfl rfl ?_
    exact ⟨by first | rw [validA_al (by omega)] | rw [validA_n (by omega)] | rw [validA_acc (by omega)] | rw [validA_row (k := k.toNat) (by omega) (rowOk_len (by omega))] | rw [validA_row (k := k.toNat) (by omega) (rowOk_bad (by omega) (k := j.toNat) (by omega) (inB_F (by omega)))] | rw [validA_good (k := k.toNat) (by omega) (by omega) (by omega) hp (by omega)], E⟩
  refine Sq.notF .plain rfl rfl ?_
  refine Sq.move .plain rfl rfl ?_
  refine Sq.off rfl rfl rfl rfl rfl rfl ?_
  refine Sq.off rfl rfl rfl rfl rfl rfl ?_
  refine Sq.off rfl rfl rfl rfl rfl rfl ?_
  refine Sq.off rfl rfl rfl rfl rfl rfl ?_
  refine Sq.pickT .plain rfl rfl rfl ?_
  refine Sq.move .plain rfl rfl ?_
  refine Sq.off rfl rfl rfl rfl rfl rfl ?_
  refine Sq.off rfl rfl rfl rfl rfl rfl ?_
  refine Sq.off rfl rfl rfl rfl rfl rfl ?_
  refine Sq.off rfl rfl rfl rfl rfl rfl ?_
  refine Sq.pickT .plain rfl rfl rfl ?_
  refine Sq.move .plain rfl rfl ?_
  refine Sq.off rfl rfl rfl rfl rfl rfl ?_
  refine Sq.off rfl rfl rfl rfl rfl rfl ?_
  refine Sq.off rfl rfl rfl rfl rfl rfl ?_
  refine Sq.off rfl rfl rfl rfl rfl rfl ?_
  refine Sq.off rfl rfl rfl rfl rfl rfl ?_
  refine Sq.off rfl rfl rfl rfl rfl rfl ?_
  refine Sq.off rfl rfl rfl rfl rfl rfl ?_
  refine Sq.pickT .plain rfl rfl rfl ?_
  refine Sq.nil ?_
  refine Eq.next ?_
  refine Cq.thn rfl ?_
  refine Cq.seq ?_
  refine Cq.region ?_
  refine Sq.assign .plain rfl rfl ?_
  refine Sq.nil ?_
  refine Eq.next ?_
  refine Cq.ret ?_
  refine Eq.pastRet ?_
  refine Eq.ret1 rfl rfl ?_
  exact ⟨by first | rw [validA_al (by omega)] | rw [validA_n (by omega)] | rw [validA_acc (by omega)] | rw [validA_row (k := k.toNat) (by omega) (rowOk_len (by omega))] | rw [validA_row (k := k.toNat) (by omega) (rowOk_bad (by omega) (k := j.toNat) (by omega) (inB_F (by omega)))] | rw [validA_good (k := k.toNat) (by omega) (by omega) (by omega) hp (by omega)], E⟩
end Go.Proofs.YtnckpafknojdhaaDoor
set_option linter.unusedSimpArgs false
set_option linter.unusedVariables false
namespace Go.Proofs.YtnckpafknojdhaaDoor
open Go.RowKit
set_option maxRecDepth 100000 in
theorem small_c (x : Int) (h : 0 ≤ x ∧ x < 100) (w0 : World) : Ret Tryd.prog 94 #[Value.int .i64 x] w0 (fun v w => v = .string (itoa x) ∧ w0 = w) := by
  refine Ret.of (args := [Value.int .i64 x]) Tryd.func94 rfl rfl rfl ?_
  rintro _ rfl
  show Cq _ _ _ _ [(0, Value.int .i64 x)] _
  refine Cq.seq ?_
  refine Cq.region ?_
  refine Sq.assign .plain rfl rfl ?_
  refine Sq.nil ?_
  refine Eq.next ?_
  refine Cq.seq ?_
  refine Cq.seq ?_
  refine Cq.region ?_
  refine Sq.move .plain rfl rfl ?_
  refine Sq.lss .plain rfl rfl rfl ?_
  refine Sq.part (fun h1 => ?_) (fun h1 => ?_)
  · refine Sq.nil ?_
    refine Eq.next ?_
    refine Cq.thn rfl ?_
    refine Cq.seq ?_
    refine Cq.region ?_
    refine Sq.move .plain rfl rfl ?_
    refine Sq.move .plain rfl rfl ?_
    refine Sq.add .plain rfl rfl rfl (by omega) ?_
    refine Sq.val .plain rfl rfl (Still.cutLH und9 rfl rfl rfl (by exact (show 0 ≤ x ∧ x ≤ (x + 1) ∧ (x + 1) ≤ ((36 : Nat) : Int) by omega))) ?_
    refine Sq.assign .plain rfl rfl ?_
    refine Sq.nil ?_
    refine Eq.next ?_
    refine Cq.ret ?_
    refine Eq.pastRet ?_
    refine Eq.ret1 rfl rfl ?_
    exact ⟨congrArg Value.string (dig_lt h.1 h1), rfl⟩
  refine Sq.nil ?_
  refine Eq.next ?_
  refine Cq.els rfl ?_
  refine Cq.skip ?_
  refine Eq.next ?_
  refine Cq.seq ?_
  refine Cq.region ?_
  refine Sq.move .plain rfl rfl ?_
  refine Sq.mul .plain rfl rfl rfl (by omega) ?_
  refine Sq.move .plain rfl rfl ?_
  refine Sq.mul .plain rfl rfl rfl (by omega) ?_
  refine Sq.add .plain rfl rfl rfl (by omega) ?_
  refine Sq.val .plain rfl rfl (Still.cutLH und9 rfl rfl rfl (by exact (show 0 ≤ (x * 2) ∧ (x * 2) ≤ (x * 2 + 2) ∧ (x * 2 + 2) ≤ ((200 : Nat) : Int) by omega))) ?_
  refine Sq.assign .plain rfl rfl ?_
  refine Sq.nil ?_
  refine Eq.next ?_
  refine Cq.ret ?_
  refine Eq.ret1 rfl rfl ?_
  exact ⟨congrArg Value.string (small_lt h1 h.2), rfl⟩
set_option maxRecDepth 100000 in
theorem fmtInt_c (x : Int) (h : 0 ≤ x ∧ x < 100) (w0 : World) : Ret Tryd.prog 76 #[Value.int .i64 x, Value.int .i64 10] w0 (fun v w => v = .string (itoa x) ∧ w0 = w) := by
  refine Ret.of (args := [Value.int .i64 x, Value.int .i64 10]) Tryd.func76 rfl rfl rfl ?_
  rintro _ rfl
  show Cq _ _ _ _ [(0, Value.int .i64 x), (1, Value.int .i64 10)] _
  refine Cq.seq ?_
  refine Cq.region ?_
  refine Sq.assign .plain rfl rfl ?_
  refine Sq.nil ?_
  refine Eq.next ?_
  refine Cq.seq ?_
  refine Cq.seq ?_
  refine Cq.region ?_
  refine Sq.move .plain rfl rfl ?_
  refine Sq.eql .plain rfl rfl rfl ?_
  refine Sq.isT (rfl) ?_
  refine Sq.nil ?_
  refine Eq.next ?_
  refine Cq.thn rfl ?_
  refine Cq.seq ?_
  refine Cq.seq ?_
  refine Cq.region ?_
  refine Sq.move .plain rfl rfl ?_
  refine Sq.leq .plain rfl rfl rfl ?_
  refine Sq.isT (by omega) ?_
  refine Sq.move .plain rfl rfl ?_
  refine Sq.move (.met rfl rfl rfl) rfl rfl ?_
  refine Sq.lss (.met rfl rfl rfl) rfl rfl rfl ?_
  refine Sq.isT (by omega) ?_
  refine Sq.pickT .plain rfl rfl rfl ?_
  refine Sq.nil ?_
  refine Eq.next ?_
  refine Cq.thn rfl ?_
  refine Cq.seq ?_
  refine Cq.region ?_
  refine Sq.move .plain rfl rfl ?_
  refine Sq.call fn94 .plain rfl rfl (small_c x (by omega) _) ?_
  rintro _ _ ⟨rfl, rfl⟩
  refine Sq.assign .plain rfl rfl ?_
  refine Sq.nil ?_
  refine Eq.next ?_
  refine Cq.ret ?_
  refine Eq.pastRet ?_
  refine Eq.pastRet ?_
  refine Eq.ret1 rfl rfl ?_
  exact ⟨rfl, rfl⟩
set_option maxRecDepth 100000 in
theorem itoaI_c (x : Int) (h : 0 ≤ x ∧ x < 100) (w0 : World) : Ret Tryd.prog 59 #[Value.int .i64 x] w0 (fun v w => v = .string (itoa x) ∧ w0 = w) := by
  refine Ret.of (args := [Value.int .i64 x]) Tryd.func59 rfl rfl rfl ?_
  rintro _ rfl
  show Cq _ _ _ _ [(0, Value.int .i64 x)] _
  refine Cq.seq ?_
  refine Cq.region ?_
  refine Sq.assign .plain rfl rfl ?_
  refine Sq.nil ?_
  refine Eq.next ?_
  refine Cq.seq ?_
  refine Cq.region ?_
  refine Sq.move .plain rfl rfl ?_
  refine Sq.call fn76 .plain rfl rfl (fmtInt_c x (by omega) _) ?_
  rintro _ _ ⟨rfl, rfl⟩
  refine Sq.assign .plain rfl rfl ?_
  refine Sq.nil ?_
  refine Eq.next ?_
  refine Cq.ret ?_
  refine Eq.ret1 rfl rfl ?_
  exact ⟨rfl, rfl⟩
set_option maxRecDepth 100000 in
theorem itoa_c (x : Int) (h : 0 ≤ x ∧ x < 100) (w0 : World) : Ret Tryd.prog 38 #[Value.int .i64 x] w0 (fun v w => v = .string (itoa x) ∧ w0 = w) := by
  refine Ret.of (args := [Value.int .i64 x]) Tryd.func38 rfl rfl rfl ?_
  rintro _ rfl
  show Cq _ _ _ _ [(0, Value.int .i64 x)] _
  refine Cq.seq ?_
  refine Cq.region ?_
  refine Sq.assign .plain rfl rfl ?_
  refine Sq.nil ?_
  refine Eq.next ?_
  refine Cq.seq ?_
  refine Cq.region ?_
  refine Sq.move .plain rfl rfl ?_
  refine Sq.call fn59 .plain rfl rfl (itoaI_c x (by omega) _) ?_
  rintro _ _ ⟨rfl, rfl⟩
  refine Sq.assign .plain rfl rfl ?_
  refine Sq.nil ?_
  refine Eq.next ?_
  refine Cq.ret ?_
  refine Eq.ret1 rfl rfl ?_
  exact ⟨rfl, rfl⟩
end Go.Proofs.YtnckpafknojdhaaDoor
set_option linter.unusedSimpArgs false
set_option linter.unusedVariables false
namespace Go.Proofs.YtnckpafknojdhaaDoor
open Go.RowKit
set_option maxRecDepth 100000 in
theorem classesOf_c (w0 : World) (a : A) (nx ac : Value) (hnx : Rows w0 41 3 nx a.next) (hac : Bools w0 4 ac a.acc) (hv : validA a = true) : Ret Tryd.prog 66 #[Value.agg #[Value.int .i64 a.al, nx, ac]] w0 (fun v w => Own w w0.heap.size 3 v ((classes a).map (Value.int .i64)) ∧ Ext w0 w) := by
  have E := Ext.refl w0
  have hvs := validA_spec.1 hv
  have hv1 := hvs.2.1
  have hv2 := hvs.2.2.1
  refine Ret.of (args := [Value.agg #[Value.int .i64 a.al, nx, ac]]) Tryd.func66 rfl rfl rfl ?_
  rintro _ rfl
  show Cq _ _ _ _ [(0, Value.agg #[Value.int .i64 a.al, nx, ac])] _
  refine Cq.seq ?_
  refine Cq.region ?_
  refine Sq.box .plain rfl rfl (fun b1 w2 e3 hB4 hlo5 => ?_)
  have hd6 := Nat.le_trans (Below.size E) hlo5
  have hs7 := Below.size e3
  replace E := E.trans e3
  refine Sq.assign .plain rfl rfl ?_
  refine Sq.nil ?_
  refine Eq.next ?_
  refine Cq.seq ?_
  refine Cq.region ?_
  refine Sq.fieldAddr fld25_1 .plain rfl rfl ?_
  refine Sq.loadB one22 .plain rfl rfl hB4 rfl ?_
  refine Sq.lenRows (hnx.ext E) .plain rfl und22 rfl ?_
  refine Sq.make sl41 .plain rfl rfl rfl rfl (by omega) (fun b8 w9 e10 hlo11 hB12 => ?_)
  replace hB12 := hB12 w2.heap.size (Nat.le_refl _)
  have hs13 := Below.size e10
  replace E := E.trans e10
  replace hB4 := hB4.ext e10
  refine Sq.assign .plain rfl rfl ?_
  refine Sq.nil ?_
  refine Eq.next ?_
  refine Cq.seq ?_
  refine Cq.seq ?_
  refine Cq.region ?_
  replace hB12 := Own.rep hB12
  refine Sq.move .plain rfl rfl ?_
  refine Sq.lenInts (Own.row hB12) .plain rfl und41 rfl ?_
  rw [List.length_replicate]
  refine Sq.move .plain rfl rfl ?_
  refine Sq.nil ?_
  refine Eq.next ?_
  refine Cq.block ?_
  refine Cq.loop (fun nn w ls => ∃ (k : Int), ls = [(1, Value.pointer (some ⟨b1, 0, none⟩)), (2, Value.slice none 0 0), (3, Value.slice (some ⟨b8, 0, none⟩) (List.length a.next : Int).toNat (List.length a.next : Int).toNat), (20, Value.int .i64 ((((List.length a.next : Int).toNat : Nat) : Int))), (21, Value.int .i64 k)] ∧ (0 ≤ k ∧ k ≤ a.next.length) ∧ Own w w0.heap.size 3 (Value.slice (some ⟨b8, 0, none⟩) (List.length a.next : Int).toNat (List.length a.next : Int).toNat) ((initTo a k.toNat).map (Value.int .i64)) ∧ Ext w0 w ∧ Blk w b1 25 [Value.int .i64 a.al, nx, ac] ∧ nn = ((a.next.length : Int) - k).toNat) _ _ ⟨0, rfl, by omega, by rw [show (0 : Int).toNat = 0 from rfl, initTo_zero]; exact Own.mono hB12 (by omega), E, hB4, rfl⟩ (.cons rfl (.cons rfl (.cons rfl (.cons rfl (.cons rfl (.nil)))))) ?_
  rintro nn wl1 ls ⟨k, rfl, hk, hc, E, hB4, rfl⟩
  have hs14 := Below.size E
  have hil := initTo_length (a := a) k.toNat
  refine Cq.seq ?_
  refine Cq.region ?_
  refine Sq.lss .plain rfl rfl rfl ?_
  refine Sq.part (fun c15 => ?_) (fun c15 => ?_)
  · refine Sq.nil ?_
    refine Eq.next ?_
    refine Cq.seq ?_
    refine Cq.thn rfl ?_
    refine Cq.skip ?_
    refine Eq.next ?_
    refine Cq.seq ?_
    refine Cq.block ?_
    refine Cq.seq ?_
    refine Cq.region ?_
    refine Sq.move .plain rfl rfl ?_
    refine Sq.assign .plain rfl rfl ?_
    refine Sq.nil ?_
    refine Eq.next ?_
    refine Cq.seq ?_
    refine Cq.region ?_
    refine Sq.fieldAddr fld25_2 .plain rfl rfl ?_
    refine Sq.loadB one23 .plain rfl rfl hB4 rfl ?_
    refine Sq.move .plain rfl rfl ?_
    refine Sq.idxBools sl23 one4 (hac.ext E) .plain rfl rfl rfl .plain rfl rfl (by omega) (by omega) ?_
    refine Sq.partB (fun hac => ?_) (fun hac => ?_)
    · refine Sq.nil ?_
      refine Eq.next ?_
      refine Cq.thn rfl ?_
      refine Cq.region ?_
      refine Sq.move .plain rfl rfl ?_
      refine Sq.move .plain rfl rfl ?_
      obtain ⟨p16, hp17o⟩ := Own.at hc (i := k) (by omega) (by first | (simp only [List.length_map]; omega) | (simp; omega))
      refine Sq.atO sl41 hp17o .plain rfl rfl rfl ?_
      refine Sq.storeO one3 hc hp17o .plain rfl rfl rfl (fun w18 g19 ho20 => ?_)
      have hs21 := World.grownBy.size g19
      replace E := E.owned hc g19 (by omega)
      replace hB4 := hB4.owned hc g19 (by decide)
      replace hc := ho20
      refine Sq.nil ?_
      refine Eq.end ?_
      refine Eq.next ?_
      refine Cq.region ?_
      refine Sq.add .plain rfl rfl rfl (by omega) ?_
      refine Sq.move .plain rfl rfl ?_
      refine Sq.nil ?_
      have e1 := toNat_succ hk.1
      refine Eq.round _ _ ⟨k + 1, rfl, by omega, by rw [e1, ← initTo_T (by omega) hac]; exact Own.setI hc, E, hB4, rfl⟩ (by omega) (.cons rfl (.cons rfl (.cons rfl (.cons rfl (.cons rfl (.nil))))))
    refine Sq.nil ?_
    refine Eq.next ?_
    refine Cq.els rfl ?_
    refine Cq.skip ?_
    refine Eq.end ?_
    refine Eq.next ?_
    refine Cq.region ?_
    refine Sq.add .plain rfl rfl rfl (by omega) ?_
    refine Sq.move .plain rfl rfl ?_
    refine Sq.nil ?_
    have e1 := toNat_succ hk.1
    refine Eq.round _ _ ⟨k + 1, rfl, by omega, by rw [e1, initTo_F hac]; exact hc, E, hB4, rfl⟩ (by omega) (.cons rfl (.cons rfl (.cons rfl (.cons rfl (.cons rfl (.nil))))))
  refine Sq.nil ?_
  refine Eq.next ?_
  refine Cq.seq ?_
  refine Cq.els rfl ?_
  refine Cq.exit ?_
  refine Eq.past ?_
  refine Eq.past ?_
  refine Eq.hit ?_
  refine Eq.next ?_
  refine Cq.seq ?_
  refine Cq.region ?_
  refine Sq.assign .plain rfl rfl ?_
  refine Sq.nil ?_
  refine Eq.next ?_
  refine Cq.block ?_
  refine Cq.loop (fun nn w ls => ∃ (r : Nat), ∃ (cv : Value), ∃ (m : Int), ls = [(1, Value.pointer (some ⟨b1, 0, none⟩)), (2, Value.slice none 0 0), (3, cv), (5, Value.int .i64 m)] ∧ m = (mN a r : Int) ∧ Own w w0.heap.size 3 cv ((clsN a r).map (Value.int .i64)) ∧ Ext w0 w ∧ Blk w b1 25 [Value.int .i64 a.al, nx, ac] ∧ nn = (a.next.length + 1 - mN a r)) _ _ ⟨0, _, 0, rfl, rfl, by rw [← initTo_all hv (k := k.toNat) (by omega)]; exact hc, E, hB4, rfl⟩ (.cons rfl (.cons rfl (.cons rfl (.cons rfl (.nil))))) ?_
  rintro nn wl2 ls ⟨r, cv, m, rfl, hm, hcv, E, hB4, rfl⟩
  have hs22 := Below.size E
  have hlow := Own.low hcv
  have hcl := clsN_length hv r
  refine Cq.block ?_
  refine Cq.seq ?_
  refine Cq.region ?_
  refine Sq.makeMap encS .plain rfl (fun mb w23 e24 hM hlo25 => ?_)
  have hs26 := Below.size e24
  replace E := E.trans e24
  replace hB4 := hB4.ext e24
  replace hcv := hcv.ext e24
  have hmb : w0.heap.size ≤ mb := by omega
  refine Sq.assign .plain rfl rfl ?_
  refine Sq.nil ?_
  refine Eq.next ?_
  refine Cq.seq ?_
  refine Cq.region ?_
  refine Sq.move .plain rfl rfl ?_
  refine Sq.lenInts (Own.row hcv) .plain rfl und41 rfl ?_
  rw [clsN_length hv]
  refine Sq.make sl41 .plain rfl rfl rfl rfl (by omega) (fun b27 w28 e29 hlo30 hB31 => ?_)
  replace hB31 := hB31 w23.heap.size (Nat.le_refl _)
  have hs32 := Below.size e29
  replace E := E.trans e29
  replace hB4 := hB4.ext e29
  replace hcv := hcv.ext e29
  replace hM := hM.ext e29
  refine Sq.assign .plain rfl rfl ?_
  refine Sq.nil ?_
  refine Eq.next ?_
  refine Cq.seq ?_
  refine Cq.seq ?_
  refine Cq.region ?_
  refine Sq.fieldAddr fld25_1 .plain rfl rfl ?_
  refine Sq.loadB one22 .plain rfl rfl hB4 rfl ?_
  refine Sq.lenRows (hnx.ext E) .plain rfl und22 rfl ?_
  refine Sq.move .plain rfl rfl ?_
  refine Sq.nil ?_
  refine Eq.next ?_
  refine Cq.block ?_
  refine Cq.loop (fun nn w ls => ∃ (q : Int), ls = [(1, Value.pointer (some ⟨b1, 0, none⟩)), (2, Value.slice none 0 0), (3, cv), (5, Value.int .i64 m), (6, Value.map (some mb)), (7, Value.slice (some ⟨b27, 0, none⟩) (List.length a.next : Int).toNat (List.length a.next : Int).toNat), (38, nx), (39, Value.int .i64 (List.length a.next : Int)), (40, Value.int .i64 q)] ∧ (0 ≤ q ∧ q ≤ a.next.length) ∧ wl2.heap.size ≤ w.heap.size ∧ Own w wl2.heap.size 3 (Value.slice (some ⟨b27, 0, none⟩) (List.length a.next : Int).toNat (List.length a.next : Int).toNat) ((nextTo a (clsN a r) q.toNat).map (Value.int .i64)) ∧ MapN encS w mb (keysTo a (clsN a r) q.toNat) ∧ Ext w0 w ∧ Blk w b1 25 [Value.int .i64 a.al, nx, ac] ∧ Own w w0.heap.size 3 cv ((clsN a r).map (Value.int .i64)) ∧ nn = ((a.next.length : Int) - q).toNat) _ _ ⟨0, rfl, by omega, by omega, by rw [show (0 : Int).toNat = 0 from rfl, nextTo_zero]; exact Own.mono (Own.rep hB31) (by omega), hM, E, hB4, hcv, rfl⟩ (.cons rfl (.cons rfl (.cons rfl (.cons rfl (.cons rfl (.cons rfl (.cons rfl (.cons rfl (.cons rfl (.nil)))))))))) ?_
  rintro nn wl3 ls ⟨q, rfl, hq, hsz, hny, hM, E, hB4, hcv, rfl⟩
  have hs33 := Below.size E
  have hnl := nextTo_length (a := a) (clsN a r) q.toNat
  refine Cq.seq ?_
  refine Cq.region ?_
  refine Sq.lss .plain rfl rfl rfl ?_
  refine Sq.part (fun c34 => ?_) (fun c34 => ?_)
  · refine Sq.nil ?_
    refine Eq.next ?_
    refine Cq.seq ?_
    refine Cq.thn rfl ?_
    refine Cq.skip ?_
    refine Eq.next ?_
    refine Cq.seq ?_
    refine Cq.block ?_
    refine Cq.seq ?_
    refine Cq.region ?_
    refine Sq.move .plain rfl rfl ?_
    refine Sq.idxRows sl22 one41 (hnx.ext E) .plain rfl rfl rfl .plain rfl rfl (by omega) (by omega) (fun r35 hr36 => ?_)
    refine Sq.assign .plain rfl rfl ?_
    refine Sq.assign .plain rfl rfl ?_
    refine Sq.nil ?_
    refine Eq.next ?_
    refine Cq.seq ?_
    refine Cq.region ?_
    refine Sq.move .plain rfl rfl ?_
    refine Sq.move .plain rfl rfl ?_
    refine Sq.idxInts sl41 one3 (Own.row hcv) .plain rfl rfl rfl .plain rfl rfl (by omega) (by omega) ?_
    have hcb := clsN_bd hv r q.toNat
    refine Sq.call fn38 .plain rfl rfl (itoa_c ((clsN a r).getD q.toNat 0) (by omega) _) ?_
    rintro _ _ ⟨rfl, rfl⟩
    refine Sq.assign .plain rfl rfl ?_
    refine Sq.nil ?_
    refine Eq.next ?_
    refine Cq.seq ?_
    refine Cq.seq ?_
    refine Cq.region ?_
    refine Sq.move .plain rfl rfl ?_
    refine Sq.lenInts hr36 .plain rfl und41 rfl ?_
    refine Sq.move .plain rfl rfl ?_
    refine Sq.nil ?_
    refine Eq.next ?_
    refine Cq.block ?_
    refine Cq.loop (fun nn w ls => ∃ (j : Int), ∃ (s : ByteArray), ls = [(1, Value.pointer (some ⟨b1, 0, none⟩)), (2, Value.slice none 0 0), (3, cv), (5, Value.int .i64 m), (6, Value.map (some mb)), (7, Value.slice (some ⟨b27, 0, none⟩) (List.length a.next : Int).toNat (List.length a.next : Int).toNat), (8, Value.int .i64 q), (10, Value.string s), (38, nx), (39, Value.int .i64 (List.length a.next : Int)), (40, Value.int .i64 q), (50, r35), (51, Value.int .i64 ((List.length (a.next.getD q.toNat []) : Int))), (52, Value.int .i64 j)] ∧ (0 ≤ j ∧ j ≤ (a.next.getD q.toNat []).length) ∧ s = keyTo a (clsN a r) q.toNat j.toNat ∧ wl2.heap.size ≤ w.heap.size ∧ Ext w0 w ∧ Blk w b1 25 [Value.int .i64 a.al, nx, ac] ∧ Own w w0.heap.size 3 cv ((clsN a r).map (Value.int .i64)) ∧ Own w wl2.heap.size 3 (Value.slice (some ⟨b27, 0, none⟩) (List.length a.next : Int).toNat (List.length a.next : Int).toNat) ((nextTo a (clsN a r) q.toNat).map (Value.int .i64)) ∧ Ints w 3 r35 (a.next.getD q.toNat []) ∧ MapN encS w mb (keysTo a (clsN a r) q.toNat) ∧ nn = (((a.next.getD q.toNat []).length : Int) - j).toNat) _ _ ⟨0, _, rfl, by omega, rfl, by omega, E, hB4, hcv, hny, hr36, hM, rfl⟩ (.cons rfl (.cons rfl (.cons rfl (.cons rfl (.cons rfl (.cons rfl (.cons rfl (.cons rfl (.cons rfl (.cons rfl (.cons rfl (.cons rfl (.cons rfl (.cons rfl (.nil))))))))))))))) ?_
    rintro nn wl4 ls ⟨j, s, rfl, hj, hs, hsz4, E, hB4, hcv, hny, hr36, hM, rfl⟩
    have hs37 := Below.size E
    have hvt := valid_at hv (k := q.toNat) (j := j.toNat)
    have hrl := valid_row hv (k := q.toNat) (by omega)
    have hl6 := letters_len6 a.al
    refine Cq.seq ?_
    refine Cq.region ?_
    refine Sq.lss .plain rfl rfl rfl ?_
    refine Sq.part (fun c38 => ?_) (fun c38 => ?_)
    · refine Sq.nil ?_
      refine Eq.next ?_
      refine Cq.seq ?_
      refine Cq.thn rfl ?_
      refine Cq.skip ?_
      refine Eq.next ?_
      refine Cq.seq ?_
      refine Cq.block ?_
      refine Cq.seq ?_
      refine Cq.region ?_
      refine Sq.idxInts sl41 one3 hr36 .plain rfl rfl rfl .plain rfl rfl (by omega) (by omega) ?_
      refine Sq.assign .plain rfl rfl ?_
      refine Sq.nil ?_
      refine Eq.next ?_
      refine Cq.region ?_
      refine Sq.move .plain rfl rfl ?_
      refine Sq.move .plain rfl rfl ?_
      refine Sq.move .plain rfl rfl ?_
      refine Sq.idxInts sl41 one3 (Own.row hcv) .plain rfl rfl rfl .plain rfl rfl (by have := hvt (by omega) (by omega); omega) (by have := hvt (by omega) (by omega); omega) ?_
      have hcb2 := clsN_bd hv r ((a.next.getD q.toNat []).getD j.toNat 0).toNat
      have hz1 := itoa_size ((clsN a r).getD ((a.next.getD q.toNat []).getD j.toNat 0).toNat 0)
      have hz2 := keyTo_size hv (cs := (clsN a r)) (q := q.toNat) (by omega) j.toNat
      rw [← hs] at hz2
      refine Sq.call fn38 .plain rfl rfl (itoa_c ((clsN a r).getD ((a.next.getD q.toNat []).getD j.toNat 0).toNat 0) (by omega) _) ?_
      rintro _ _ ⟨rfl, rfl⟩
      refine Sq.cat .plain rfl rfl rfl (by exact (show 1 + (itoa ((clsN a r).getD ((a.next.getD q.toNat []).getD j.toNat 0).toNat 0)).size ≤ 9223372036854775807 by omega)) ?_
      refine Sq.cat .plain rfl rfl rfl (by rw [size_cat]; exact (show s.size + (1 + (itoa ((clsN a r).getD ((a.next.getD q.toNat []).getD j.toNat 0).toNat 0)).size) ≤ 9223372036854775807 by omega)) ?_
      refine Sq.assign .plain rfl rfl ?_
      refine Sq.nil ?_
      refine Eq.end ?_
      refine Eq.next ?_
      refine Cq.region ?_
      refine Sq.add .plain rfl rfl rfl (by omega) ?_
      refine Sq.move .plain rfl rfl ?_
      refine Sq.nil ?_
      have e2 := toNat_succ hj.1
      refine Eq.round _ _ ⟨j + 1, _, rfl, by omega, by rw [e2, keyTo_succ (by omega), hs], by omega, E, hB4, hcv, hny, hr36, hM, rfl⟩ (by omega) (.cons rfl (.cons rfl (.cons rfl (.cons rfl (.cons rfl (.cons rfl (.cons rfl (.cons rfl (.cons rfl (.cons rfl (.cons rfl (.cons rfl (.cons rfl (.cons rfl (.nil)))))))))))))))
    refine Sq.nil ?_
    refine Eq.next ?_
    refine Cq.seq ?_
    refine Cq.els rfl ?_
    refine Cq.exit ?_
    refine Eq.past ?_
    refine Eq.past ?_
    refine Eq.hit ?_
    refine Eq.next ?_
    refine Cq.seq ?_
    refine Cq.region ?_
    obtain rfl : s = (keyTx (keyQ a (clsN a r) q.toNat)) := by rw [hs, keyTo_done (by omega)]
    refine Sq.move .plain rfl rfl ?_
    refine Sq.move .plain rfl rfl ?_
    refine Sq.lookup key88 hM .plain rfl rfl (k := (keyTx (keyQ a (clsN a r) q.toNat))) rfl ?_
    refine Sq.move .plain rfl rfl ?_
    refine Sq.extract .plain rfl rfl rfl ?_
    refine Sq.extract .plain rfl rfl rfl ?_
    refine Sq.assign .plain rfl rfl ?_
    refine Sq.assign .plain rfl rfl ?_
    refine Sq.nil ?_
    refine Eq.next ?_
    refine Cq.seq ?_
    refine Cq.seq ?_
    refine Cq.region ?_
    refine Sq.move .plain rfl rfl ?_
    refine Sq.part (fun hin => ?_) (fun hin => ?_)
    · refine Sq.notT .plain rfl rfl ?_
      refine Sq.nil ?_
      refine Eq.next ?_
      refine Cq.els rfl ?_
      refine Cq.skip ?_
      refine Eq.next ?_
      refine Cq.region ?_
      refine Sq.move .plain rfl rfl ?_
      refine Sq.move .plain rfl rfl ?_
      refine Sq.move .plain rfl rfl ?_
      obtain ⟨p39, hp40o⟩ := Own.at hny (i := q) (by omega) (by first | (simp only [List.length_map]; omega) | (simp; omega))
      refine Sq.atO sl41 hp40o .plain rfl rfl rfl ?_
      refine Sq.storeO one3 hny hp40o .plain rfl rfl rfl (fun w41 g42 ho43 => ?_)
      have hs44 := World.grownBy.size g42
      replace E := E.owned hny g42 (by omega)
      replace hB4 := hB4.owned hny g42 (by decide)
      replace hcv := hcv.apart hlow hny g42 (by omega)
      replace hM := hM.owned hny g42
      replace hny := ho43
      refine Sq.nil ?_
      refine Eq.end ?_
      refine Eq.next ?_
      refine Cq.region ?_
      refine Sq.add .plain rfl rfl rfl (by omega) ?_
      refine Sq.move .plain rfl rfl ?_
      refine Sq.nil ?_
      have e1 := toNat_succ hq.1
      obtain ⟨e2, e3⟩ := next_in hv (r := r) (by omega) hin
      rw [if_pos hin] at hny
      refine Eq.round _ _ ⟨q + 1, rfl, by omega, by omega, by rw [e1, ← nextTo_set (by omega) e2]; exact Own.setI hny, by rw [e1, e3]; exact hM, E, hB4, hcv, rfl⟩ (by omega) (.cons rfl (.cons rfl (.cons rfl (.cons rfl (.cons rfl (.cons rfl (.cons rfl (.cons rfl (.cons rfl (.nil))))))))))
    refine Sq.notF .plain rfl rfl ?_
    refine Sq.nil ?_
    refine Eq.next ?_
    refine Cq.thn rfl ?_
    refine Cq.seq ?_
    refine Cq.region ?_
    refine Sq.move .plain rfl rfl ?_
    refine Sq.lenMap undm88 hM .plain rfl rfl ?_
    refine Sq.assign .plain rfl rfl ?_
    refine Sq.nil ?_
    refine Eq.next ?_
    refine Cq.region ?_
    refine Sq.move .plain rfl rfl ?_
    refine Sq.move .plain rfl rfl ?_
    refine Sq.move .plain rfl rfl ?_
    refine Sq.mapUpdate key88 hM .plain rfl (k := (keyTx (keyQ a (clsN a r) q.toNat))) rfl rfl rfl hin (fun w45 g46 hm47 => ?_)
    have hs48 := World.grownBy.size g46
    replace E := E.mapped g46 (by omega)
    replace hB4 := hB4.mapped hM g46
    replace hcv := hcv.mapped hM g46
    replace hny := hny.mapped hM g46
    replace hM := hm47
    refine Sq.nil ?_
    refine Eq.next ?_
    refine Cq.region ?_
    refine Sq.move .plain rfl rfl ?_
    refine Sq.move .plain rfl rfl ?_
    refine Sq.move .plain rfl rfl ?_
    obtain ⟨p49, hp50o⟩ := Own.at hny (i := q) (by omega) (by first | (simp only [List.length_map]; omega) | (simp; omega))
    refine Sq.atO sl41 hp50o .plain rfl rfl rfl ?_
    refine Sq.storeO one3 hny hp50o .plain rfl rfl rfl (fun w51 g52 ho53 => ?_)
    have hs54 := World.grownBy.size g52
    replace E := E.owned hny g52 (by omega)
    replace hB4 := hB4.owned hny g52 (by decide)
    replace hcv := hcv.apart hlow hny g52 (by omega)
    replace hM := hM.owned hny g52
    replace hny := ho53
    refine Sq.nil ?_
    refine Eq.end ?_
    refine Eq.next ?_
    refine Cq.region ?_
    refine Sq.add .plain rfl rfl rfl (by omega) ?_
    refine Sq.move .plain rfl rfl ?_
    refine Sq.nil ?_
    have e1 := toNat_succ hq.1
    obtain ⟨e2, e3⟩ := next_out hv (r := r) (by omega) hin
    refine Eq.round _ _ ⟨q + 1, rfl, by omega, by omega, by rw [e1, ← nextTo_set (by omega) e2]; exact Own.setI hny, by rw [e1, e3]; exact hM, E, hB4, hcv, rfl⟩ (by omega) (.cons rfl (.cons rfl (.cons rfl (.cons rfl (.cons rfl (.cons rfl (.cons rfl (.cons rfl (.cons rfl (.nil))))))))))
  refine Sq.nil ?_
  refine Eq.next ?_
  refine Cq.seq ?_
  refine Cq.els rfl ?_
  refine Cq.exit ?_
  refine Eq.past ?_
  refine Eq.past ?_
  refine Eq.hit ?_
  refine Eq.next ?_
  refine Cq.seq ?_
  refine Cq.region ?_
  refine Sq.move .plain rfl rfl ?_
  refine Sq.assign .plain rfl rfl ?_
  refine Sq.nil ?_
  refine Eq.next ?_
  refine Cq.seq ?_
  refine Cq.seq ?_
  refine Cq.region ?_
  refine Sq.move .plain rfl rfl ?_
  refine Sq.lenMap undm88 hM .plain rfl rfl ?_
  refine Sq.move .plain rfl rfl ?_
  refine Sq.eql .plain rfl rfl rfl ?_
  refine Sq.part (fun he => ?_) (fun he => ?_)
  · refine Sq.nil ?_
    refine Eq.next ?_
    refine Cq.thn rfl ?_
    refine Cq.seq ?_
    refine Cq.region ?_
    refine Sq.move .plain rfl rfl ?_
    refine Sq.assign .plain rfl rfl ?_
    refine Sq.nil ?_
    refine Eq.next ?_
    refine Cq.ret ?_
    refine Eq.pastRet ?_
    refine Eq.outRet ?_
    refine Eq.pastRet ?_
    refine Eq.outRet ?_
    refine Eq.ret1 rfl rfl ?_
    have hkl := keysTo_all (a := a) (r := r) (q := q.toNat) (by omega)
    exact ⟨by rw [← classes_found hv (r := r) (by omega), show clsN a (r + 1) = refine' a (clsN a r) from rfl, ← nextTo_all (q := q.toNat) (by omega)]; exact Own.mono hny (by omega), E⟩
  refine Sq.nil ?_
  refine Eq.next ?_
  refine Cq.els rfl ?_
  refine Cq.skip ?_
  refine Eq.next ?_
  refine Cq.region ?_
  refine Sq.move .plain rfl rfl ?_
  refine Sq.lenMap undm88 hM .plain rfl rfl ?_
  refine Sq.assign .plain rfl rfl ?_
  refine Sq.nil ?_
  refine Eq.end ?_
  have hkl := keysTo_all (a := a) (r := r) (q := q.toNat) (by omega)
  have hmm := mN_mono hv r
  have hml := mN_le (a := a) (r + 1)
  refine Eq.round _ _ ⟨r + 1, _, _, rfl, by rw [hkl], by rw [show clsN a (r + 1) = refine' a (clsN a r) from rfl, ← nextTo_all (q := q.toNat) (by omega)]; exact Own.mono hny (by omega), E, hB4, rfl⟩ (by omega) (.cons rfl (.cons rfl (.cons rfl (.cons rfl (.nil)))))
end Go.Proofs.YtnckpafknojdhaaDoor
set_option linter.unusedSimpArgs false
set_option linter.unusedVariables false
namespace Go.Proofs.YtnckpafknojdhaaDoor
open Go.RowKit
set_option maxRecDepth 100000 in
theorem tableOf_c (w0 : World) (a : A) (nx ac : Value) (hnx : Rows w0 41 3 nx a.next) (hac : Bools w0 4 ac a.acc) (hv : validA a = true) : Ret Tryd.prog 81 #[Value.agg #[Value.int .i64 a.al, nx, ac]] w0 (fun v w => (∃ b xs, v = .slice (some ⟨b, 0, none⟩) a.next.length a.next.length ∧ w0.heap.size ≤ b ∧ Blk w b 93 (xs.map (Value.int .i64)) ∧ Tab a xs) ∧ Ext w0 w) := by
  have E := Ext.refl w0
  have hvs := validA_spec.1 hv
  have hvs1 := hvs.1
  have hvs2 := hvs.2.1
  refine Ret.of (args := [Value.agg #[Value.int .i64 a.al, nx, ac]]) Tryd.func81 rfl rfl rfl ?_
  rintro _ rfl
  show Cq _ _ _ _ [(0, Value.agg #[Value.int .i64 a.al, nx, ac])] _
  refine Cq.seq ?_
  refine Cq.region ?_
  refine Sq.box .plain rfl rfl (fun b1 w2 e3 hB4 hlo5 => ?_)
  have hd6 := Nat.le_trans (Below.size E) hlo5
  have hs7 := Below.size e3
  replace E := E.trans e3
  refine Sq.assign .plain rfl rfl ?_
  refine Sq.nil ?_
  refine Eq.next ?_
  refine Cq.seq ?_
  refine Cq.region ?_
  refine Sq.fieldAddr fld25_1 .plain rfl rfl ?_
  refine Sq.loadB one22 .plain rfl rfl hB4 rfl ?_
  refine Sq.lenRows (hnx.ext E) .plain rfl und22 rfl ?_
  refine Sq.makeK slk89 (mk89).1 (by decide) (mk89).2 .plain rfl rfl rfl rfl (by omega) (fun b8 w9 e10 hlo11 hB12 => ?_)
  have hd13 := Nat.le_trans (Below.size E) hlo11
  have hd14 := Nat.lt_of_lt_of_le hB4.lt hlo11
  have hs15 := Below.size e10
  replace E := E.trans e10
  replace hB4 := hB4.ext e10
  refine Sq.assign .plain rfl rfl ?_
  refine Sq.nil ?_
  refine Eq.next ?_
  refine Cq.seq ?_
  refine Cq.region ?_
  refine Sq.fieldAddr fld25_0 .plain rfl rfl ?_
  refine Sq.loadB one3 .plain rfl rfl hB4 rfl ?_
  have hd20 := hB4.lt
  have hd21 := hB12.lt
  refine Sq.call fn57 .plain rfl rfl (lettersOf_c a.al (by omega) _) ?_
  rintro v16 w17 ⟨hl19, e18⟩
  have hs22 := Below.size E
  have hs23 := Below.size e18
  replace E := E.trans e18
  replace hB4 := hB4.ext e18
  replace hB12 := hB12.ext e18
  refine Sq.assign .plain rfl rfl ?_
  refine Sq.nil ?_
  refine Eq.next ?_
  refine Cq.seq ?_
  refine Cq.seq ?_
  refine Cq.region ?_
  refine Sq.fieldAddr fld25_1 .plain rfl rfl ?_
  refine Sq.loadB one22 .plain rfl rfl hB4 rfl ?_
  refine Sq.lenRows (hnx.ext E) .plain rfl und22 rfl ?_
  refine Sq.move .plain rfl rfl ?_
  refine Sq.nil ?_
  refine Eq.next ?_
  refine Cq.block ?_
  refine Cq.loop (fun nn w ls => ∃ (q : Int), ∃ (xs : List Int), ls = [(3, Value.slice (some ⟨b8, 0, none⟩) a.next.length a.next.length), (4, v16), (18, nx), (19, Value.int .i64 (List.length a.next : Int)), (20, Value.int .i64 q)] ∧ (0 ≤ q ∧ q ≤ a.next.length) ∧ Blk w b8 93 (xs.map (Value.int .i64)) ∧ TabPre a q.toNat 0 xs ∧ Ext w0 w ∧ Own w w9.heap.size 3 v16 ((letters a.al).map (Value.int .i64)) ∧ nn = ((a.next.length : Int) - q).toNat) _ _ ⟨0, _, rfl, by omega, hB12, TabPre.zero a, E, hl19, rfl⟩ (.cons rfl (.cons rfl (.cons rfl (.cons rfl (.cons rfl (.nil)))))) ?_
  rintro nn wl1 ls ⟨q, xs, rfl, hq, hT, ht, E, hl19, rfl⟩
  have hs24 := Below.size E
  have htl := ht.1
  refine Cq.seq ?_
  refine Cq.region ?_
  refine Sq.lss .plain rfl rfl rfl ?_
  refine Sq.part (fun c25 => ?_) (fun c25 => ?_)
  · refine Sq.nil ?_
    refine Eq.next ?_
    refine Cq.seq ?_
    refine Cq.thn rfl ?_
    refine Cq.skip ?_
    refine Eq.next ?_
    refine Cq.seq ?_
    refine Cq.block ?_
    refine Cq.seq ?_
    refine Cq.region ?_
    refine Sq.move .plain rfl rfl ?_
    refine Sq.idxRows sl22 one41 (hnx.ext E) .plain rfl rfl rfl .plain rfl rfl (by omega) (by omega) (fun r26 hr27 => ?_)
    refine Sq.assign .plain rfl rfl ?_
    refine Sq.assign .plain rfl rfl ?_
    refine Sq.nil ?_
    refine Eq.next ?_
    refine Cq.seq ?_
    refine Cq.seq ?_
    refine Cq.region ?_
    refine Sq.move .plain rfl rfl ?_
    refine Sq.nil ?_
    refine Eq.next ?_
    refine Cq.block ?_
    refine Cq.loop (fun nn w ls => ∃ (l : Int), ∃ (xs : List Int), ls = [(3, Value.slice (some ⟨b8, 0, none⟩) a.next.length a.next.length), (4, v16), (5, Value.int .i64 q), (6, r26), (18, nx), (19, Value.int .i64 (List.length a.next : Int)), (20, Value.int .i64 q), (25, Value.int .i64 l)] ∧ (0 ≤ l ∧ l ≤ 6) ∧ Blk w b8 93 (xs.map (Value.int .i64)) ∧ TabPre a q.toNat l.toNat xs ∧ Ext w0 w ∧ Own w w9.heap.size 3 v16 ((letters a.al).map (Value.int .i64)) ∧ Ints w 3 r26 (a.next.getD q.toNat []) ∧ nn = (6 - l).toNat) _ _ ⟨0, _, rfl, by omega, hT, ht, E, hl19, hr27, rfl⟩ (.cons rfl (.cons rfl (.cons rfl (.cons rfl (.cons rfl (.cons rfl (.cons rfl (.cons rfl (.nil))))))))) ?_
    rintro nn wl2 ls ⟨l, xs, rfl, hl, hT, ht, E, hl19, hr27, rfl⟩
    have hs28 := Below.size E
    have htl := ht.1
    refine Cq.seq ?_
    refine Cq.region ?_
    refine Sq.lss .plain rfl rfl rfl ?_
    refine Sq.part (fun c29 => ?_) (fun c29 => ?_)
    · refine Sq.nil ?_
      refine Eq.next ?_
      refine Cq.seq ?_
      refine Cq.thn rfl ?_
      refine Cq.skip ?_
      refine Eq.next ?_
      refine Cq.seq ?_
      refine Cq.block ?_
      refine Cq.seq ?_
      refine Cq.region ?_
      refine Sq.move .plain rfl rfl ?_
      refine Sq.assign .plain rfl rfl ?_
      refine Sq.nil ?_
      refine Eq.next ?_
      refine Cq.region ?_
      refine Sq.move .plain rfl rfl ?_
      refine Sq.move .plain rfl rfl ?_
      refine Sq.move .plain rfl rfl ?_
      refine Sq.move .plain rfl rfl ?_
      refine Sq.val .plain rfl rfl (Still.ixS slk89 rfl rfl (by omega) (by omega)) ?_
      refine Sq.val .plain rfl rfl (Still.ixA ar93 rfl rfl (by omega) (by omega)) ?_
      refine Sq.store one3 .plain rfl rfl rfl hT (by rw [List.length_map]; omega) (fun w30 g31 hB32 => ?_)
      have hs33 := World.grownBy.size g31
      replace E := E.grown g31 (fun k hk => by injection hk with hk; subst hk; omega)
      replace hl19 := hl19.stored g31 hT (by decide)
      replace hr27 := hr27.stored g31 hT (by decide)
      replace hT := hB32
      rw [← List.map_set] at hT
      refine Sq.nil ?_
      refine Eq.end ?_
      refine Eq.next ?_
      refine Cq.region ?_
      refine Sq.add .plain rfl rfl rfl (by omega) ?_
      refine Sq.move .plain rfl rfl ?_
      refine Sq.nil ?_
      have e1 := toNat_succ hl.1
      have e2 := ht.step (by omega) (by omega)
      rw [Int.toNat_of_nonneg hq.1] at e2
      refine Eq.round _ _ ⟨l + 1, _, rfl, by omega, by rw [Nat.zero_add] at hT; exact hT, by rw [e1]; exact e2, E, hl19, hr27, rfl⟩ (by omega) (.cons rfl (.cons rfl (.cons rfl (.cons rfl (.cons rfl (.cons rfl (.cons rfl (.cons rfl (.nil)))))))))
    refine Sq.nil ?_
    refine Eq.next ?_
    refine Cq.seq ?_
    refine Cq.els rfl ?_
    refine Cq.exit ?_
    refine Eq.past ?_
    refine Eq.past ?_
    refine Eq.hit ?_
    refine Eq.next ?_
    refine Cq.seq ?_
    refine Cq.region ?_
    refine Sq.move .plain rfl rfl ?_
    refine Sq.lenInts (Own.row hl19) .plain rfl und41 rfl ?_
    refine Sq.move .plain rfl rfl ?_
    refine Sq.nil ?_
    refine Eq.next ?_
    refine Cq.block ?_
    obtain rfl : l = 6 := by omega
    refine Cq.loop (fun nn w ls => ∃ (k : Int), ∃ (xs : List Int), ls = [(3, Value.slice (some ⟨b8, 0, none⟩) a.next.length a.next.length), (4, v16), (5, Value.int .i64 q), (6, r26), (18, nx), (19, Value.int .i64 (List.length a.next : Int)), (20, Value.int .i64 q), (35, v16), (36, Value.int .i64 ((List.length (letters a.al) : Int))), (37, Value.int .i64 k)] ∧ (0 ≤ k ∧ k ≤ (letters a.al).length) ∧ Blk w b8 93 (xs.map (Value.int .i64)) ∧ TabAt a q.toNat k.toNat xs ∧ Ext w0 w ∧ Own w w9.heap.size 3 v16 ((letters a.al).map (Value.int .i64)) ∧ Ints w 3 r26 (a.next.getD q.toNat []) ∧ nn = ((letters a.al).length - k).toNat) _ _ ⟨0, _, rfl, by omega, hT, ht.at, E, hl19, hr27, rfl⟩ (.cons rfl (.cons rfl (.cons rfl (.cons rfl (.cons rfl (.cons rfl (.cons rfl (.cons rfl (.cons rfl (.cons rfl (.nil))))))))))) ?_
    rintro nn wl3 ls ⟨k, xs, rfl, hk, hT, ht, E, hl19, hr27, rfl⟩
    have hs34 := Below.size E
    have htl := ht.1
    have hlet := letters_len6 a.al
    have hlt := letters_at a.al (k := k.toNat)
    have hvr := valid_row hv (k := q.toNat) (by omega)
    refine Cq.seq ?_
    refine Cq.region ?_
    refine Sq.lss .plain rfl rfl rfl ?_
    refine Sq.part (fun c35 => ?_) (fun c35 => ?_)
    · refine Sq.nil ?_
      refine Eq.next ?_
      refine Cq.seq ?_
      refine Cq.thn rfl ?_
      refine Cq.skip ?_
      refine Eq.next ?_
      refine Cq.seq ?_
      refine Cq.block ?_
      refine Cq.seq ?_
      refine Cq.region ?_
      refine Sq.move .plain rfl rfl ?_
      refine Sq.idxInts sl41 one3 (Own.row hl19) .plain rfl rfl rfl .plain rfl rfl (by omega) (by omega) ?_
      refine Sq.assign .plain rfl rfl ?_
      refine Sq.assign .plain rfl rfl ?_
      refine Sq.nil ?_
      refine Eq.next ?_
      obtain ⟨pA, hpA⟩ := Ints.at hr27 (i := k) (by omega) (by omega)
      refine Cq.drawS 10 (fun w' => At w' 3 r26 k pA (.int .i64 ((a.next.getD q.toNat []).getD k.toNat 0))) mixed (hpA) (fun w36 e37 hS => ?_)
      clear hS
      have hs38 := Below.size e37
      replace E := E.trans e37
      replace hl19 := hl19.ext e37
      replace hr27 := hr27.ext e37
      replace hT := hT.ext e37
      replace hpA := hpA.ext e37
      refine Gq.st 0 rfl (by kernel_rfl) rfl .plain rfl (fun _ _ _ h => h) hpA (fun w' x => Still.move rfl) ?_
      refine Gq.st 1 rfl (by kernel_rfl) rfl .plain rfl (fun _ _ _ h => h) hpA (fun w' x => Still.move rfl) ?_
      refine Gq.st 2 rfl (by kernel_rfl) rfl .plain rfl (fun _ _ _ h => h) hpA (fun w' x => Still.move rfl) ?_
      refine Gq.st 3 rfl (by kernel_rfl) rfl .plain rfl (fun _ _ _ h => h) hpA (fun w' x => Still.move rfl) ?_
      refine Gq.st 4 rfl (by kernel_rfl) rfl .plain rfl (fun _ _ _ h => h) hpA (fun w' x => Still.move rfl) ?_
      refine Gq.st 5 rfl (by kernel_rfl) rfl .plain rfl (fun _ _ _ h => h) hpA (fun w' x => Still.at' sl41 hpA rfl rfl) ?_
      refine Gq.st 6 rfl (by kernel_rfl) rfl .plain rfl (fun _ _ _ h => h) hpA (fun w' x => Still.loadA one3 rfl (x).1) ?_
      refine Gq.st 7 rfl (by kernel_rfl) rfl .plain rfl (fun _ _ _ h => h) hpA (fun w' x => Still.ixS slk89 rfl rfl (by omega) (by omega)) ?_
      refine Gq.st 8 rfl (by kernel_rfl) rfl .plain rfl (fun _ _ _ h => h) hpA (fun w' x => Still.ixA ar93 rfl rfl (by have := hlt (by omega); omega) (by have := hlt (by omega); omega)) ?_
      refine Gq.one 9 rfl (by kernel_rfl) ?_
      refine Sq.store one3 .plain rfl rfl rfl hT (by rw [List.length_map]; omega) (fun w39 g40 hB41 => ?_)
      have hs42 := World.grownBy.size g40
      replace E := E.grown g40 (fun k hk => by injection hk with hk; subst hk; omega)
      replace hl19 := hl19.stored g40 hT (by decide)
      replace hr27 := hr27.stored g40 hT (by decide)
      replace hpA := hpA.stored g40 hT (by decide)
      replace hT := hB41
      rw [← List.map_set] at hT
      refine Sq.nil ?_
      refine Eq.goes (fun _ => hpA) ?_
      refine Gq.done (by kernel_rfl) ?_
      refine Eq.end ?_
      refine Eq.next ?_
      refine Cq.region ?_
      refine Sq.add .plain rfl rfl rfl (by omega) ?_
      refine Sq.move .plain rfl rfl ?_
      refine Sq.nil ?_
      have e1 := toNat_succ hk.1
      refine Eq.round _ _ ⟨k + 1, _, rfl, by omega, by rw [Nat.zero_add] at hT; exact hT, by rw [e1]; exact ht.step hvs1 (by omega) (by omega), E, hl19, hr27, rfl⟩ (by omega) (.cons rfl (.cons rfl (.cons rfl (.cons rfl (.cons rfl (.cons rfl (.cons rfl (.cons rfl (.cons rfl (.cons rfl (.nil)))))))))))
    refine Sq.nil ?_
    refine Eq.next ?_
    refine Cq.seq ?_
    refine Cq.els rfl ?_
    refine Cq.exit ?_
    refine Eq.past ?_
    refine Eq.past ?_
    refine Eq.hit ?_
    refine Eq.end ?_
    refine Eq.next ?_
    refine Cq.region ?_
    refine Sq.add .plain rfl rfl rfl (by omega) ?_
    refine Sq.move .plain rfl rfl ?_
    refine Sq.nil ?_
    have e1 := toNat_succ hq.1
    refine Eq.round _ _ ⟨q + 1, _, rfl, by omega, hT, by rw [e1]; exact ht.next hvs1 (by omega) (by omega), E, hl19, rfl⟩ (by omega) (.cons rfl (.cons rfl (.cons rfl (.cons rfl (.cons rfl (.nil))))))
  refine Sq.nil ?_
  refine Eq.next ?_
  refine Cq.seq ?_
  refine Cq.els rfl ?_
  refine Cq.exit ?_
  refine Eq.past ?_
  refine Eq.past ?_
  refine Eq.hit ?_
  refine Eq.next ?_
  refine Cq.seq ?_
  refine Cq.region ?_
  refine Sq.move .plain rfl rfl ?_
  refine Sq.assign .plain rfl rfl ?_
  refine Sq.nil ?_
  refine Eq.next ?_
  refine Cq.ret ?_
  refine Eq.ret1 rfl rfl ?_
  exact ⟨⟨_, xs, rfl, by omega, hT, ht.done (by omega)⟩, E⟩
end Go.Proofs.YtnckpafknojdhaaDoor
set_option linter.unusedSimpArgs false
set_option linter.unusedVariables false
namespace Go.Proofs.YtnckpafknojdhaaDoor
open Go.RowKit
set_option maxRecDepth 100000 in
theorem numbered_c (w0 : World) (f : Int → Int → Int) (s : Int) (L : List Int) (lv fv : Value) (lim : Int) (D : Int → Prop) (hlim : 1 ≤ lim ∧ lim ≤ 1000) (hx : Ints w0 3 lv L) (hLl : L.length ≤ 100) (hL : ∀ x ∈ L, 0 ≤ x ∧ x < 6) (hD0 : D s) (hD : ∀ q, D q → ∀ x ∈ L, D (f q x)) (hM0 : ∀ i, (bfs f s L i).length ≤ 150) (hclo : Clo Tryd.prog w0 fv D f) : Ret Tryd.prog 82 #[Value.int .i64 s, lv, Value.int .i64 lim, fv] w0 (fun v w => (∃ nv xv, v = .tuple #[nv, xv, .bool (decide ((((ord f s L).length : Nat) : Int) ≤ lim))] ∧ Own w w0.heap.size 3 nv ((if (((ord f s L).length : Nat) : Int) ≤ lim then ord f s L else []).map (Value.int .i64)) ∧ OwnRows w w0.heap.size w.heap.size 41 3 xv (if (((ord f s L).length : Nat) : Int) ≤ lim then (ord f s L).map (rowAt f L (ord f s L)) else [])) ∧ Ext w0 w) := by
  have E := Ext.refl w0
  obtain ⟨kf, fnf, cf, hfv, hFn, hcall⟩ := hclo
  refine Ret.of (args := [Value.int .i64 s, lv, Value.int .i64 lim, fv]) Tryd.func82 rfl rfl rfl ?_
  rintro _ rfl
  show Cq _ _ _ _ [(0, Value.int .i64 s), (1, lv), (2, Value.int .i64 lim), (3, fv)] _
  refine Cq.seq ?_
  refine Cq.region ?_
  refine Sq.assign .plain rfl rfl ?_
  refine Sq.assign .plain rfl rfl ?_
  refine Sq.assign .plain rfl rfl ?_
  refine Sq.nil ?_
  refine Eq.next ?_
  refine Cq.seq ?_
  refine Cq.region ?_
  refine Sq.move .plain rfl rfl ?_
  refine Sq.lit sl41 rfl rfl .plain rfl rfl (one_cons rfl one_nil) (fun b1 w2 e3 hlo4 ho5 _ => ?_)
  have hs6 := Below.size e3
  replace E := E.trans e3
  have hno := ho5 w0.heap.size (by omega)
  refine Sq.assign .plain rfl rfl ?_
  refine Sq.nil ?_
  refine Eq.next ?_
  refine Cq.seq ?_
  refine Cq.region ?_
  refine Sq.makeMap encI .plain rfl (fun mb w7 e8 hM hlo9 => ?_)
  have hs10 := Below.size e8
  replace E := E.trans e8
  replace hno := hno.ext e8
  have hmb : w0.heap.size ≤ mb := by omega
  refine Sq.move .plain rfl rfl ?_
  refine Sq.insert key117 hM .plain rfl (k := s) rfl rfl rfl (by simp) (fun w11 g12 hm13 => ?_)
  have hs14 := World.grownBy.size g12
  replace E := E.mapped g12 (by omega)
  replace hno := hno.mapped hM g12
  replace hM := hm13
  simp only [List.nil_append] at hM
  refine Sq.move .plain rfl rfl ?_
  refine Sq.assign .plain rfl rfl ?_
  refine Sq.nil ?_
  refine Eq.next ?_
  refine Cq.seq ?_
  refine Cq.region ?_
  refine Sq.assign .plain rfl rfl ?_
  refine Sq.nil ?_
  refine Eq.next ?_
  refine Cq.seq ?_
  refine Cq.seq ?_
  refine Cq.region ?_
  refine Sq.assign .plain rfl rfl ?_
  refine Sq.nil ?_
  refine Eq.next ?_
  refine Cq.block ?_
  refine Cq.loop (fun nn w ls => ∃ (i : Int), ∃ (nv : Value), ∃ (xv : Value), ls = [(1, lv), (2, Value.int .i64 lim), (3, fv), (11, nv), (12, Value.map (some mb)), (13, xv), (14, Value.int .i64 i)] ∧ (0 ≤ i ∧ i ≤ (bfs f s L i.toNat).length) ∧ Own w w0.heap.size 3 nv ((bfs f s L i.toNat).map (Value.int .i64)) ∧ MapN encI w mb (bfs f s L i.toNat) ∧ OwnRowsZ w w0.heap.size w.heap.size 41 3 xv (rowsAt f L (bfs f s L i.toNat) i.toNat) nv ∧ (((bfs f s L i.toNat).length : Nat) : Int) ≤ lim ∧ Ext w0 w ∧ nn = (151 - i).toNat) _ _ ⟨0, _, _, rfl, ⟨by omega, by omega⟩, hno, hM, OwnRowsZ.nil _ _ _ _ _ _, by show ((1 : Nat) : Int) ≤ lim; omega, E, rfl⟩ (.cons rfl (.cons rfl (.cons rfl (.cons rfl (.cons rfl (.cons rfl (.cons rfl (.nil)))))))) ?_
  rintro nn wl1 ls ⟨i, nv, xv, rfl, hi, hno, hM, hrs, hlm, E, rfl⟩
  have hs15 := Below.size E
  have hMi := hM0 i.toNat
  have hMi1 := hM0 (i.toNat + 1)
  refine Cq.seq ?_
  refine Cq.seq ?_
  refine Cq.region ?_
  refine Sq.move .plain rfl rfl ?_
  refine Sq.move .plain rfl rfl ?_
  refine Sq.lenInts (Own.row hno) .plain rfl und41 rfl ?_
  refine Sq.lss .plain rfl rfl rfl ?_
  refine Sq.part (fun c16 => ?_) (fun c16 => ?_)
  · refine Sq.nil ?_
    refine Eq.next ?_
    refine Cq.thn rfl ?_
    refine Cq.skip ?_
    refine Eq.next ?_
    refine Cq.seq ?_
    refine Cq.block ?_
    refine Cq.seq ?_
    refine Cq.region ?_
    refine Sq.assign .plain rfl rfl ?_
    refine Sq.nil ?_
    refine Eq.next ?_
    refine Cq.seq ?_
    refine Cq.seq ?_
    refine Cq.region ?_
    refine Sq.move .plain rfl rfl ?_
    refine Sq.lenInts (hx.ext E) .plain rfl und41 rfl ?_
    refine Sq.move .plain rfl rfl ?_
    refine Sq.nil ?_
    refine Eq.next ?_
    refine Cq.block ?_
    obtain ⟨q, hq⟩ : ∃ q, (bfs f s L i.toNat)[i.toNat]? = some q := ⟨_, List.getElem?_eq_getElem (by omega)⟩
    have hDq : D q := bfs_all hD0 hD _ q (List.mem_of_getElem? hq)
    refine Cq.loop (fun nn w ls => ∃ (k : Int), ∃ (nv2 : Value), ∃ (rv : Value), ls = [(1, lv), (2, Value.int .i64 lim), (3, fv), (11, nv2), (12, Value.map (some mb)), (13, xv), (14, Value.int .i64 i), (15, rv), (32, lv), (33, Value.int .i64 (List.length L : Int)), (34, Value.int .i64 k)] ∧ (0 ≤ k ∧ k ≤ L.length) ∧ wl1.heap.size ≤ w.heap.size ∧ Own w w0.heap.size 3 nv2 ((mid f s L i.toNat q k.toNat).map (Value.int .i64)) ∧ MapN encI w mb (mid f s L i.toNat q k.toNat) ∧ Own w wl1.heap.size 3 rv ((rowTo f L (mid f s L i.toNat q k.toNat) q k.toNat).map (Value.int .i64)) ∧ OwnRowsZ w w0.heap.size wl1.heap.size 41 3 xv (rowsAt f L (bfs f s L i.toNat) i.toNat) nv2 ∧ Apart nv2 rv ∧ (((mid f s L i.toNat q k.toNat).length : Nat) : Int) ≤ lim ∧ Ext w0 w ∧ nn = ((L.length : Int) - k).toNat) _ _ ⟨0, _, _, rfl, by omega, by omega, hno, hM, Own.nil _ _ _, hrs, (Apart.nil _).symm, hlm, E, rfl⟩ (.cons rfl (.cons rfl (.cons rfl (.cons rfl (.cons rfl (.cons rfl (.cons rfl (.cons rfl (.cons rfl (.cons rfl (.cons rfl (.nil)))))))))))) ?_
    rintro nn wl2 ls ⟨k, nv2, rv, rfl, hk, hsz, hno, hM, hro, hrs, hap, hlk, E, rfl⟩
    have hs17 := Below.size E
    have hml := (mid_prefix0 (f := f) (s := s) (L := L) i.toNat q k.toNat).length_le
    have hmh := (mid_prefix (f := f) (s := s) (L := L) (k := k.toNat) hq).length_le
    have hmq := mid_at (k := k.toNat) hq
    have hrl : (rowTo f L (mid f s L i.toNat q k.toNat) q k.toNat).length ≤ L.length := by unfold rowTo; rw [List.length_map, List.length_take]; omega
    refine Cq.seq ?_
    refine Cq.region ?_
    refine Sq.lss .plain rfl rfl rfl ?_
    refine Sq.part (fun c18 => ?_) (fun c18 => ?_)
    · refine Sq.nil ?_
      refine Eq.next ?_
      refine Cq.seq ?_
      refine Cq.thn rfl ?_
      refine Cq.skip ?_
      refine Eq.next ?_
      refine Cq.seq ?_
      refine Cq.block ?_
      refine Cq.seq ?_
      refine Cq.region ?_
      refine Sq.idxInts sl41 one3 (hx.ext E) .plain rfl rfl rfl .plain rfl rfl (by omega) (by omega) ?_
      refine Sq.assign .plain rfl rfl ?_
      refine Sq.nil ?_
      refine Eq.next ?_
      refine Cq.seq ?_
      refine Cq.region ?_
      refine Sq.move .plain rfl rfl ?_
      refine Sq.move .plain rfl rfl ?_
      refine Sq.move .plain rfl rfl ?_
      refine Sq.idxInts sl41 one3 (Own.row hno) .plain rfl rfl rfl .plain rfl rfl (by omega) (by omega) ?_
      rw [hmq]
      refine Sq.move .plain rfl rfl ?_
      refine Sq.callC hFn .plain rfl (by rw [← hfv]; rfl) rfl (hcall _ q (L.getD k.toNat 0) E hDq (hL _ (getD_mem (by omega)))) ?_
      rintro _ w19 ⟨rfl, e20⟩
      have hs21 := Below.size e20
      replace E := E.trans e20
      replace hno := hno.ext e20
      replace hM := hM.ext e20
      replace hrs := hrs.ext e20
      replace hro := hro.ext e20
      refine Sq.assign .plain rfl rfl ?_
      refine Sq.nil ?_
      refine Eq.next ?_
      refine Cq.seq ?_
      refine Cq.region ?_
      refine Sq.move .plain rfl rfl ?_
      refine Sq.move .plain rfl rfl ?_
      refine Sq.lookup key117 hM .plain rfl rfl (k := f q (L.getD k.toNat 0)) rfl ?_
      refine Sq.move .plain rfl rfl ?_
      refine Sq.extract .plain rfl rfl rfl ?_
      refine Sq.extract .plain rfl rfl rfl ?_
      refine Sq.assign .plain rfl rfl ?_
      refine Sq.assign .plain rfl rfl ?_
      refine Sq.nil ?_
      refine Eq.next ?_
      refine Cq.seq ?_
      refine Cq.seq ?_
      refine Cq.region ?_
      refine Sq.move .plain rfl rfl ?_
      refine Sq.part (fun hin => ?_) (fun hin => ?_)
      · refine Sq.notT .plain rfl rfl ?_
        refine Sq.nil ?_
        refine Eq.next ?_
        refine Cq.els rfl ?_
        refine Cq.skip ?_
        refine Eq.next ?_
        refine Cq.region ?_
        refine Sq.move .plain rfl rfl ?_
        refine Sq.move .plain rfl rfl ?_
        refine Sq.lit sl41 rfl rfl .plain rfl rfl (one_cons rfl one_nil) (fun b22 w23 e24 hlo25 ho26 hk27 => ?_)
        have hs28 := Below.size e24
        replace E := E.trans e24
        replace hno := hno.ext e24
        replace hM := hM.ext e24
        replace hrs := hrs.ext e24
        replace hro := hro.ext e24
        refine Sq.app1F sl41 hro (one_ints _) (by omega) (by rw [List.length_map]; omega) hk27 rfl .plain rfl rfl rfl (fun v29 w30 ho32 g31 hf33 _ => ?_)
        have hs34 := World.grownBy.size g31
        replace E := E.owned hro g31 (by omega)
        replace hM := hM.owned hro g31
        replace hrs := hrs.apart hro g31 (Nat.le_refl _) (by decide)
        have hap2 := (hap.symm.grow hno hf33).symm
        replace hno := Own.other hno g31 hap.symm
        replace hro := Own.snocI ho32
        replace hap := hap2
        refine Sq.assign .plain rfl rfl ?_
        refine Sq.nil ?_
        refine Eq.end ?_
        refine Eq.next ?_
        refine Cq.region ?_
        refine Sq.add .plain rfl rfl rfl (by omega) ?_
        refine Sq.move .plain rfl rfl ?_
        refine Sq.nil ?_
        have e2 := toNat_succ hk.1
        have e5 := mid_succ (f := f) (s := s) (i := i.toNat) (q := q) (k := k.toNat) (L := L) (by omega)
        have e6 := rowTo_step (f := f) (q := q) (k := k.toNat) (L := L) (by omega) (mid_mem (f := f) (s := s) (i := i.toNat))
        rw [← e5] at e6
        rw [addNode_T hin] at e5
        rw [if_pos hin] at hro
        refine Eq.round _ _ ⟨k + 1, _, _, rfl, by omega, by omega, by rw [e2, e5]; exact hno, by rw [e2, e5]; exact hM, by rw [e2, e6, e5]; exact hro, hrs, hap, by rw [e2, e5]; exact hlk, E, rfl⟩ (by omega) (.cons rfl (.cons rfl (.cons rfl (.cons rfl (.cons rfl (.cons rfl (.cons rfl (.cons rfl (.cons rfl (.cons rfl (.cons rfl (.nil))))))))))))
      refine Sq.notF .plain rfl rfl ?_
      refine Sq.nil ?_
      refine Eq.next ?_
      refine Cq.thn rfl ?_
      refine Cq.seq ?_
      refine Cq.seq ?_
      refine Cq.region ?_
      refine Sq.move .plain rfl rfl ?_
      refine Sq.lenInts (Own.row hno) .plain rfl und41 rfl ?_
      refine Sq.move .plain rfl rfl ?_
      refine Sq.eql .plain rfl rfl rfl ?_
      refine Sq.part (fun hfull => ?_) (fun hfull => ?_)
      · refine Sq.nil ?_
        refine Eq.next ?_
        refine Cq.thn rfl ?_
        refine Cq.seq ?_
        refine Cq.region ?_
        refine Sq.assign .plain rfl rfl ?_
        refine Sq.assign .plain rfl rfl ?_
        refine Sq.assign .plain rfl rfl ?_
        refine Sq.nil ?_
        refine Eq.next ?_
        refine Cq.ret ?_
        refine Eq.pastRet ?_
        refine Eq.pastRet ?_
        refine Eq.outRet ?_
        refine Eq.pastRet ?_
        refine Eq.pastRet ?_
        refine Eq.outRet ?_
        refine Eq.pastRet ?_
        refine Eq.outRet ?_
        refine Eq.pastRet ?_
        refine Eq.pastRet ?_
        refine Eq.outRet ?_
        refine Eq.pastRet ?_
        refine Eq.ret3 rfl rfl rfl rfl ?_
        have e8 := ord_lim hq (by omega) hfull (by omega) hin
        exact ⟨⟨_, _, by rw [decide_eq_false e8], by rw [if_neg e8]; exact Own.nil _ _ _, by rw [if_neg e8]; exact OwnRows.nil _ _ _ _ _⟩, E⟩
      refine Sq.nil ?_
      refine Eq.next ?_
      refine Cq.els rfl ?_
      refine Cq.skip ?_
      refine Eq.next ?_
      refine Cq.seq ?_
      refine Cq.region ?_
      refine Sq.move .plain rfl rfl ?_
      refine Sq.lenInts (Own.row hno) .plain rfl und41 rfl ?_
      refine Sq.assign .plain rfl rfl ?_
      refine Sq.nil ?_
      refine Eq.next ?_
      refine Cq.seq ?_
      refine Cq.region ?_
      refine Sq.move .plain rfl rfl ?_
      refine Sq.move .plain rfl rfl ?_
      refine Sq.move .plain rfl rfl ?_
      refine Sq.mapUpdate key117 hM .plain rfl (k := f q (L.getD k.toNat 0)) rfl rfl rfl hin (fun w35 g36 hm37 => ?_)
      have hs38 := World.grownBy.size g36
      replace E := E.mapped g36 (by omega)
      replace hno := hno.mapped hM g36
      replace hro := hro.mapped hM g36
      replace hrs := hrs.mapped hM g36
      replace hM := hm37
      refine Sq.nil ?_
      refine Eq.next ?_
      refine Cq.region ?_
      refine Sq.move .plain rfl rfl ?_
      refine Sq.move .plain rfl rfl ?_
      refine Sq.lit sl41 rfl rfl .plain rfl rfl (one_cons rfl one_nil) (fun b39 w40 e41 hlo42 ho43 hk44 => ?_)
      have hs45 := Below.size e41
      replace E := E.trans e41
      replace hno := hno.ext e41
      replace hM := hM.ext e41
      replace hrs := hrs.ext e41
      replace hro := hro.ext e41
      refine Sq.app1F sl41 hno (one_ints _) (by omega) (by rw [List.length_map]; omega) hk44 rfl .plain rfl rfl rfl (fun v46 w47 ho49 g48 hf50 _ => ?_)
      have hs51 := World.grownBy.size g48
      replace E := E.owned hno g48 (Nat.le_refl _)
      replace hM := hM.owned hno g48
      replace hrs := hrs.grow hno g48 hf50 (by decide)
      have hap2 := hap.grow hro hf50
      replace hro := Own.other hro g48 hap
      replace hno := Own.snocI ho49
      replace hap := hap2
      refine Sq.assign .plain rfl rfl ?_
      refine Sq.nil ?_
      refine Eq.next ?_
      refine Cq.region ?_
      refine Sq.move .plain rfl rfl ?_
      refine Sq.move .plain rfl rfl ?_
      refine Sq.lit sl41 rfl rfl .plain rfl rfl (one_cons rfl one_nil) (fun b52 w53 e54 hlo55 ho56 hk57 => ?_)
      have hs58 := Below.size e54
      replace E := E.trans e54
      replace hno := hno.ext e54
      replace hM := hM.ext e54
      replace hrs := hrs.ext e54
      replace hro := hro.ext e54
      refine Sq.app1F sl41 hro (one_ints _) (by omega) (by rw [List.length_map]; omega) hk57 rfl .plain rfl rfl rfl (fun v59 w60 ho62 g61 hf63 _ => ?_)
      have hs64 := World.grownBy.size g61
      replace E := E.owned hro g61 (by omega)
      replace hM := hM.owned hro g61
      replace hrs := hrs.apart hro g61 (Nat.le_refl _) (by decide)
      have hap2 := (hap.symm.grow hno hf63).symm
      replace hno := Own.other hno g61 hap.symm
      replace hro := Own.snocI ho62
      replace hap := hap2
      refine Sq.assign .plain rfl rfl ?_
      refine Sq.nil ?_
      refine Eq.end ?_
      refine Eq.next ?_
      refine Cq.region ?_
      refine Sq.add .plain rfl rfl rfl (by omega) ?_
      refine Sq.move .plain rfl rfl ?_
      refine Sq.nil ?_
      have e2 := toNat_succ hk.1
      have e5 := mid_succ (f := f) (s := s) (i := i.toNat) (q := q) (k := k.toNat) (L := L) (by omega)
      have e6 := rowTo_step (f := f) (q := q) (k := k.toNat) (L := L) (by omega) (mid_mem (f := f) (s := s) (i := i.toNat))
      rw [← e5] at e6
      have e7 := idx_new hin
      rw [← e5] at e7
      rw [addNode_F hin] at e5
      refine Eq.round _ _ ⟨k + 1, _, _, rfl, by omega, by omega, by rw [e2, e5]; exact hno, by rw [e2, e5]; exact hM, by rw [e2, e6, e7]; exact hro, hrs, hap, by rw [e2, e5, List.length_append]; simp only [List.length_singleton]; omega, E, rfl⟩ (by omega) (.cons rfl (.cons rfl (.cons rfl (.cons rfl (.cons rfl (.cons rfl (.cons rfl (.cons rfl (.cons rfl (.cons rfl (.cons rfl (.nil))))))))))))
    refine Sq.nil ?_
    refine Eq.next ?_
    refine Cq.seq ?_
    refine Cq.els rfl ?_
    refine Cq.exit ?_
    refine Eq.past ?_
    refine Eq.past ?_
    refine Eq.hit ?_
    refine Eq.next ?_
    refine Cq.region ?_
    refine Sq.move .plain rfl rfl ?_
    refine Sq.move .plain rfl rfl ?_
    obtain ⟨rs, hr1, hr2, hr3⟩ := OwnRowsZ.open hrs (by decide)
    have hx0 := Ext.refl wl2
    refine Sq.lit sl22 rfl rfl .plain rfl rfl (one_cons (Row.one (Own.row hro)) one_nil) (fun b65 w66 e67 hlo68 ho69 _ => ?_)
    have hs74 := Below.size e67
    replace E := E.trans e67
    replace hno := hno.ext e67
    replace hM := hM.ext e67
    replace hro := hro.ext e67
    replace hr1 := hr1.ext e67
    replace hx0 := hx0.trans e67
    refine Sq.app sl22 hr1 (by omega) (Own.row (ho69 _ (Nat.le_refl _))) (one_cons (Row.one (Own.row hro)) one_nil) (by rw [hr2]; have := rowsAt_length (f := f) (L := L) (bfs f s L i.toNat) i.toNat (by omega); simp only [List.length_cons, List.length_nil]; omega) .plain rfl rfl rfl rfl (fun v70 w71 ho73 g72 => ?_)
    have hs75 := World.grownBy.size g72
    have hrs := hr3 _ _ _ _ _ hx0 hro hap (by omega) ho73 g72
    replace E := E.owned hr1 g72 (Nat.le_refl _)
    replace hM := hM.owned hr1 g72
    replace hno := hno.owned hr1 g72 (by decide)
    refine Sq.assign .plain rfl rfl ?_
    refine Sq.nil ?_
    refine Eq.end ?_
    refine Eq.next ?_
    refine Cq.region ?_
    refine Sq.move .plain rfl rfl ?_
    refine Sq.add .plain rfl rfl rfl (by omega) ?_
    refine Sq.assign .plain rfl rfl ?_
    refine Sq.nil ?_
    have e1 := toNat_succ hi.1
    have e3 := mid_done (k := k.toNat) (by omega) hq
    have e4 := (bfs_prefix1 (f := f) (s := s) (L := L) i.toNat).length_le
    refine Eq.round _ _ ⟨i + 1, _, _, rfl, by rw [e1]; omega, by rw [e1, ← e3]; exact hno, by rw [e1, ← e3]; exact hM, by rw [e1, rowsAt_step hq, ← e3, ← rowTo_done (k := k.toNat) (by omega)]; exact hrs, by rw [e1, ← e3]; exact hlk, E, rfl⟩ (by omega) (.cons rfl (.cons rfl (.cons rfl (.cons rfl (.cons rfl (.cons rfl (.cons rfl (.nil))))))))
  refine Sq.nil ?_
  refine Eq.next ?_
  refine Cq.els rfl ?_
  refine Cq.exit ?_
  refine Eq.past ?_
  refine Eq.past ?_
  refine Eq.hit ?_
  refine Eq.next ?_
  refine Cq.seq ?_
  refine Cq.region ?_
  refine Sq.move .plain rfl rfl ?_
  refine Sq.move .plain rfl rfl ?_
  refine Sq.assign .plain rfl rfl ?_
  refine Sq.assign .plain rfl rfl ?_
  refine Sq.assign .plain rfl rfl ?_
  refine Sq.nil ?_
  refine Eq.next ?_
  refine Cq.ret ?_
  refine Eq.ret3 rfl rfl rfl rfl ?_
  obtain ⟨e8, e9⟩ := ord_fin (f := f) (s := s) (L := L) (i := i.toNat) (by omega) (by omega) hlm
  have e10 := rowsAt_fin (f := f) (s := s) (L := L) (i := i.toNat) (by omega) (by omega)
  rw [e10] at hrs
  rw [e8] at hno
  exact ⟨⟨_, _, by rw [decide_eq_true e9], by rw [if_pos e9]; exact hno, by rw [if_pos e9]; exact hrs.to⟩, E⟩
end Go.Proofs.YtnckpafknojdhaaDoor
set_option linter.unusedSimpArgs false
set_option linter.unusedVariables false
namespace Go.Proofs.YtnckpafknojdhaaDoor
open Go.RowKit
set_option maxRecDepth 100000 in
theorem trim1_c (w0 : World) (q x : Int) (a : A) (bt b : Nat) (xs : List Int) (hB : Blk w0 bt 89 [Value.slice (some ⟨b, 0, none⟩) a.next.length a.next.length]) (hT : Blk w0 b 93 (xs.map (Value.int .i64))) (hTab : Tab a xs) (hq : 0 ≤ q ∧ q < a.next.length) (hx : 0 ≤ x ∧ x < 6) : Ret Tryd.prog 83 #[Value.int .i64 q, Value.int .i64 x, Value.pointer (some ⟨bt, 0, none⟩)] w0 (fun v w => v = .int .i64 (goA a q x) ∧ w0 = w) := by
  refine Ret.of (args := [Value.int .i64 q, Value.int .i64 x, Value.pointer (some ⟨bt, 0, none⟩)]) Tryd.func83 rfl rfl rfl ?_
  rintro _ rfl
  show Cq _ _ _ _ [(0, Value.int .i64 q), (1, Value.int .i64 x), (2, Value.pointer (some ⟨bt, 0, none⟩))] _
  refine Cq.seq ?_
  refine Cq.region ?_
  refine Sq.assign .plain rfl rfl ?_
  refine Sq.nil ?_
  refine Eq.next ?_
  refine Cq.seq ?_
  refine Cq.region ?_
  refine Sq.loadB one89 .plain rfl rfl hB rfl ?_
  refine Sq.move .plain rfl rfl ?_
  refine Sq.move .plain rfl rfl ?_
  refine Sq.val .plain rfl rfl (Still.ixS slk89 rfl rfl (by omega) (by omega)) ?_
  refine Sq.val .plain rfl rfl (Still.ixA ar93 rfl rfl (by omega) (by omega)) ?_
  refine Sq.val .plain rfl rfl (Still.loadB one3 rfl hT (by rw [Nat.zero_add, List.getElem?_map, hTab.2 q x (by first | omega | assumption) (by omega)]; rfl)) ?_
  refine Sq.assign .plain rfl rfl ?_
  refine Sq.nil ?_
  refine Eq.next ?_
  refine Cq.ret ?_
  refine Eq.ret1 rfl rfl ?_
  exact ⟨rfl, rfl⟩
set_option maxRecDepth 100000 in
theorem trim_c (w0 : World) (a : A) (nx ac : Value) (hnx : Rows w0 41 3 nx a.next) (hac : Bools w0 4 ac a.acc) (hv : validA a = true) : Ret Tryd.prog 67 #[Value.agg #[Value.int .i64 a.al, nx, ac]] w0 (fun v w => OwnA w w0.heap.size v (trim a) ∧ Ext w0 w) := by
  have E := Ext.refl w0
  have hal := (validA_spec.1 hv).1
  refine Ret.of (args := [Value.agg #[Value.int .i64 a.al, nx, ac]]) Tryd.func67 rfl rfl rfl ?_
  rintro _ rfl
  show Cq _ _ _ _ [(0, Value.agg #[Value.int .i64 a.al, nx, ac])] _
  refine Cq.seq ?_
  refine Cq.region ?_
  refine Sq.box .plain rfl rfl (fun b1 w2 e3 hB4 hlo5 => ?_)
  have hd6 := Nat.le_trans (Below.size E) hlo5
  have hs7 := Below.size e3
  replace E := E.trans e3
  refine Sq.alloc zero25 .plain rfl (fun b8 w9 e10 hB11 hlo12 => ?_)
  have hd13 := Nat.le_trans (Below.size E) hlo12
  have hd14 := Nat.lt_of_lt_of_le hB4.lt hlo12
  have hs15 := Below.size e10
  replace E := E.trans e10
  replace hB4 := hB4.ext e10
  refine Sq.nil ?_
  refine Eq.next ?_
  refine Cq.seq ?_
  refine Cq.region ?_
  refine Sq.loadAgg agg25 .plain rfl rfl hB4 rfl ?_
  have hd24 := hB4.lt
  have hd25 := hB11.lt
  refine Sq.call fn81 .plain rfl rfl (tableOf_c _ a _ _ (hnx.ext E) (hac.ext E) hv) ?_
  rintro _ w17 ⟨⟨b19, xs20, rfl, hlo21, hT22, hTab23⟩, e18⟩
  have hs26 := Below.size E
  have hs27 := Below.size e18
  replace E := E.trans e18
  replace hB4 := hB4.ext e18
  replace hB11 := hB11.ext e18
  refine Sq.alloc1 zero89 rfl .plain rfl (fun b28 w29 e30 hB31 hlo32 => ?_)
  have hd33 := Nat.le_trans (Below.size E) hlo32
  have hd34 := Nat.lt_of_lt_of_le hB4.lt hlo32
  have hd35 := Nat.lt_of_lt_of_le hB11.lt hlo32
  have hd36 := Nat.lt_of_lt_of_le hT22.lt hlo32
  have hs37 := Below.size e30
  replace E := E.trans e30
  replace hB4 := hB4.ext e30
  replace hB11 := hB11.ext e30
  replace hT22 := hT22.ext e30
  refine Sq.store one89 .plain rfl rfl rfl hB31 (by simp) (fun w38 g39 hB40 => ?_)
  have hs41 := World.grownBy.size g39
  replace E := E.grown g39 (fun k hk => by injection hk with hk; subst hk; omega)
  replace hB4 := hB4.grown g39 (by intro h; injection h with h; omega)
  replace hB11 := hB11.grown g39 (by intro h; injection h with h; omega)
  replace hT22 := hT22.grown g39 (by intro h; injection h with h; omega)
  replace hB31 := hB40
  refine Sq.nil ?_
  refine Eq.next ?_
  refine Cq.seq ?_
  refine Cq.drawS 13 (fun w' => Blk w' b1 25 [Value.int .i64 a.al, nx, ac] ∧ Blk w' b28 89 [Value.slice (some ⟨b19, 0, none⟩) a.next.length a.next.length]) mixed (⟨hB4, hB31⟩) (fun w42 e43 hS => ?_)
  clear hS
  have hs44 := Below.size e43
  replace E := E.trans e43
  replace hB4 := hB4.ext e43
  replace hB11 := hB11.ext e43
  replace hT22 := hT22.ext e43
  replace hB31 := hB31.ext e43
  refine Gq.st 0 rfl (by kernel_rfl) rfl .plain rfl (fun _ _ _ h => h) ⟨hB4, hB31⟩ (fun w' x => Still.fieldAddr fld25_0 rfl) ?_
  refine Gq.st 1 rfl (by kernel_rfl) rfl .plain rfl (fun _ _ _ h => h) ⟨hB4, hB31⟩ (fun w' x => Still.loadB one3 rfl x.1 rfl) ?_
  refine Gq.st 3 rfl (by kernel_rfl) rfl .plain rfl (fun _ _ _ h => h) ⟨hB4, hB31⟩ (fun w' x => Still.loadB one89 rfl x.2 rfl) ?_
  refine Gq.st 4 rfl (by kernel_rfl) rfl .plain rfl (fun _ _ _ h => h) ⟨hB4, hB31⟩ (fun w' x => Still.len und89 rfl) ?_
  refine Gq.st 5 rfl (by kernel_rfl) rfl .plain rfl (fun _ _ _ h => h) ⟨hB4, hB31⟩ (fun w' x => Still.makeFunc rfl) ?_
  refine Gq.one 2 rfl (by kernel_rfl) ?_
  have hd49 := hB4.lt
  have hd50 := hB11.lt
  have hd51 := hT22.lt
  have hd52 := hB31.lt
  refine Sq.call fn57 .plain rfl rfl (lettersOf_c a.al (by omega) _) ?_
  rintro v45 w46 ⟨hl48, e47⟩
  have hs53 := Below.size E
  have hs54 := Below.size e47
  replace E := E.trans e47
  replace hB4 := hB4.ext e47
  replace hB11 := hB11.ext e47
  replace hT22 := hT22.ext e47
  replace hB31 := hB31.ext e47
  refine Sq.nil ?_
  refine Eq.goes (fun _ => ⟨hB4, hB31⟩) ?_
  refine Gq.one 6 rfl (by kernel_rfl) ?_
  have hd63 := hB4.lt
  have hd64 := hB11.lt
  have hd65 := hT22.lt
  have hd66 := hB31.lt
  have hvs := validA_spec.1 hv
  have hlet := letters_len6 a.al
  have htl := trim_len hv
  refine Sq.call fn82 .plain rfl rfl (numbered_c _ (goA a) 0 (letters a.al) _ _ (List.length a.next : Int) (fun q => 0 ≤ q ∧ q < (a.next.length : Int)) (by omega) (Own.row hl48) (by omega) (fun x hx => ⟨(mem_letters hx).1, (mem_letters hx).2.1⟩) (zero_in hv) (fun q hq x hx => goA_in hv hq ⟨(mem_letters hx).1, (mem_letters hx).2.1⟩) (fun i => Nat.le_trans (trim_bfs_len hv i) (by omega)) ⟨83, _, [Value.pointer (some ⟨b28, 0, none⟩)], rfl, fn83, fun w q x hx hq hxx => (trim1_c w q x a _ _ _ (hB31.ext hx) (hT22.ext hx) hTab23 hq hxx).mono fun v w' h => ⟨h.1, h.2 ▸ Ext.refl w⟩⟩) ?_
  rintro _ w56 ⟨⟨nv58, xv59, rfl, hn60, hx61⟩, e57⟩
  have hs67 := Below.size E
  have hs68 := Below.size e57
  replace E := E.trans e57
  replace hB4 := hB4.ext e57
  replace hB11 := hB11.ext e57
  replace hT22 := hT22.ext e57
  replace hB31 := hB31.ext e57
  have hl62 : ((((ord (goA a) 0 (letters a.al)).length : Nat) : Int) ≤ (List.length a.next : Int)) := by omega
  rw [if_pos hl62] at hn60 hx61
  refine Sq.nil ?_
  refine Eq.goes (fun _ => ⟨hB4, hB31⟩) ?_
  refine Gq.st 7 rfl (by kernel_rfl) rfl .plain rfl (fun _ _ _ h => h) ⟨hB4, hB31⟩ (fun w' x => Still.move rfl) ?_
  refine Gq.st 8 rfl (by kernel_rfl) rfl .plain rfl (fun _ _ _ h => h) ⟨hB4, hB31⟩ (fun w' x => Still.extract rfl rfl) ?_
  refine Gq.st 9 rfl (by kernel_rfl) rfl .plain rfl (fun _ _ _ h => h) ⟨hB4, hB31⟩ (fun w' x => Still.extract rfl rfl) ?_
  refine Gq.st 10 rfl (by kernel_rfl) rfl .plain rfl (fun _ _ _ h => h) ⟨hB4, hB31⟩ (fun w' x => Still.extract rfl rfl) ?_
  refine Gq.isT (hl62) ?_
  refine Gq.st 11 rfl (by kernel_rfl) rfl .plain rfl (fun _ _ _ h => h) ⟨hB4, hB31⟩ (fun w' x => Still.assign rfl) ?_
  refine Gq.st 12 rfl (by kernel_rfl) rfl .plain rfl (fun _ _ _ h => h) ⟨hB4, hB31⟩ (fun w' x => Still.assign rfl) ?_
  refine Gq.one 13 rfl (by kernel_rfl) ?_
  refine Sq.assign .plain rfl rfl ?_
  refine Sq.nil ?_
  refine Eq.goes (fun h => absurd h (by decide)) ?_
  refine Gq.done (by kernel_rfl) ?_
  refine Eq.next ?_
  refine Cq.seq ?_
  refine Cq.region ?_
  refine Sq.fieldAddr fld25_0 .plain rfl rfl ?_
  refine Sq.loadB one3 .plain rfl rfl hB4 rfl ?_
  refine Sq.move .plain rfl rfl ?_
  refine Sq.build st25 rfl rfl .plain rfl rfl (one_cons rfl (one_cons (Rows.one (OwnRows.rows hx61)) one_nil)) rfl ?_
  refine Sq.alloc zero25 .plain rfl (fun b69 w70 e71 hB72 hlo73 => ?_)
  have hd74 := Nat.le_trans (Below.size E) hlo73
  have hd75 := Nat.lt_of_lt_of_le hB4.lt hlo73
  have hd76 := Nat.lt_of_lt_of_le hB11.lt hlo73
  have hd77 := Nat.lt_of_lt_of_le hT22.lt hlo73
  have hd78 := Nat.lt_of_lt_of_le hB31.lt hlo73
  have hs79 := Below.size e71
  replace E := E.trans e71
  replace hB4 := hB4.ext e71
  replace hB11 := hB11.ext e71
  replace hn60 := hn60.ext e71
  replace hx61 := hx61.ext e71
  refine Sq.storeAgg agg25 .plain rfl rfl (one_cons rfl (one_cons (Rows.one (OwnRows.rows hx61)) (one_cons rfl one_nil))) hB72 rfl rfl (fun w80 g81 hB82 => ?_)
  have hs83 := World.grownBy.size g81
  replace E := E.grown g81 (fun k hk => by injection hk with hk; subst hk; omega)
  replace hB4 := hB4.grown g81 (by intro h; injection h with h; omega)
  replace hB11 := hB11.grown g81 (by intro h; injection h with h; omega)
  replace hn60 := hn60.stored g81 hB72 (by decide)
  replace hx61 := hx61.stored g81 hB72 (by decide) (by decide)
  replace hB72 := hB82
  refine Sq.nil ?_
  refine Eq.next ?_
  refine Cq.seq ?_
  refine Cq.seq ?_
  refine Cq.region ?_
  refine Sq.move .plain rfl rfl ?_
  refine Sq.lenInts (Own.row hn60) .plain rfl und41 rfl ?_
  refine Sq.move .plain rfl rfl ?_
  refine Sq.nil ?_
  refine Eq.next ?_
  refine Cq.block ?_
  have hall := ord_all (f := goA a) (s := 0) (L := letters a.al) (P := fun q => 0 ≤ q ∧ q < (a.next.length : Int)) (zero_in hv) (fun q hq x hx => goA_in hv hq ⟨(mem_letters hx).1, (mem_letters hx).2.1⟩)
  refine Cq.loop (fun nn w ls => ∃ (k : Int), ∃ (acv : Value), ∃ (ys : List Bool), ls = [(1, Value.pointer (some ⟨b1, 0, none⟩)), (2, Value.pointer (some ⟨b8, 0, none⟩)), (7, Value.pointer (some ⟨b69, 0, none⟩)), (27, nv58), (28, Value.int .i64 ((List.length (ord (goA a) 0 (letters a.al)) : Int))), (29, Value.int .i64 k)] ∧ (0 ≤ k ∧ k ≤ (ord (goA a) 0 (letters a.al)).length) ∧ Blk w b69 25 [Value.int .i64 a.al, xv59, acv] ∧ Own w w0.heap.size 4 acv (ys.map Value.bool) ∧ ys = ((ord (goA a) 0 (letters a.al)).take k.toNat).map (accA a) ∧ Ext w0 w ∧ Blk w b1 25 [Value.int .i64 a.al, nx, ac] ∧ Blk w b8 25 [Value.int .i64 0, Value.slice none 0 0, Value.slice none 0 0] ∧ OwnRows w w46.heap.size w56.heap.size 41 3 xv59 ((ord (goA a) 0 (letters a.al)).map (rowAt (goA a) (letters a.al) (ord (goA a) 0 (letters a.al)))) ∧ Own w w46.heap.size 3 nv58 ((ord (goA a) 0 (letters a.al)).map (Value.int .i64)) ∧ nn = (((ord (goA a) 0 (letters a.al)).length : Int) - k).toNat) _ _ ⟨0, _, [], rfl, by omega, hB72, Own.nil _ _ _, rfl, E, hB4, hB11, hx61, hn60, rfl⟩ (.cons rfl (.cons rfl (.cons rfl (.cons rfl (.cons rfl (.cons rfl (.nil))))))) ?_
  rintro nn wl1 ls ⟨k, acv, ys, rfl, hk, hB7, hoa, hys, E, hB4, hB11, hx61, hn60, rfl⟩
  have hs84 := Below.size E
  have hat : k < (ord (goA a) 0 (letters a.al)).length → 0 ≤ (ord (goA a) 0 (letters a.al)).getD k.toNat 0 ∧ (ord (goA a) 0 (letters a.al)).getD k.toNat 0 < a.next.length := fun h => hall _ (getD_mem (by omega))
  have hyl : ys.length ≤ 20 := by rw [hys, List.length_map, List.length_take]; omega
  refine Cq.seq ?_
  refine Cq.region ?_
  refine Sq.lss .plain rfl rfl rfl ?_
  refine Sq.part (fun c85 => ?_) (fun c85 => ?_)
  · refine Sq.nil ?_
    refine Eq.next ?_
    refine Cq.seq ?_
    refine Cq.thn rfl ?_
    refine Cq.skip ?_
    refine Eq.next ?_
    refine Cq.seq ?_
    refine Cq.block ?_
    refine Cq.seq ?_
    refine Cq.region ?_
    refine Sq.idxInts sl41 one3 (Own.row hn60) .plain rfl rfl rfl .plain rfl rfl (by omega) (by omega) ?_
    refine Sq.assign .plain rfl rfl ?_
    refine Sq.nil ?_
    refine Eq.next ?_
    refine Cq.drawS 9 (fun w' => Blk w' b1 25 [Value.int .i64 a.al, nx, ac] ∧ Blk w' b69 25 [Value.int .i64 a.al, xv59, acv] ∧ Ext w0 w') mixed (⟨hB4, hB7, E⟩) (fun w86 e87 hS => ?_)
    clear hS
    have hs88 := Below.size e87
    replace E := E.trans e87
    replace hB4 := hB4.ext e87
    replace hB11 := hB11.ext e87
    replace hx61 := hx61.ext e87
    replace hn60 := hn60.ext e87
    replace hB7 := hB7.ext e87
    replace hoa := hoa.ext e87
    refine Gq.st 0 rfl (by kernel_rfl) rfl .plain rfl (fun _ _ _ h => h) ⟨hB4, hB7, E⟩ (fun w' x => Still.fieldAddr fld25_2 rfl) ?_
    refine Gq.st 1 rfl (by kernel_rfl) rfl .plain rfl (fun _ _ _ h => h) ⟨hB4, hB7, E⟩ (fun w' x => Still.loadB one23 rfl x.2.1 rfl) ?_
    refine Gq.st 2 rfl (by kernel_rfl) rfl .plain rfl (fun _ _ _ h => h) ⟨hB4, hB7, E⟩ (fun w' x => Still.fieldAddr fld25_2 rfl) ?_
    refine Gq.st 3 rfl (by kernel_rfl) rfl .plain rfl (fun _ _ _ h => h) ⟨hB4, hB7, E⟩ (fun w' x => Still.loadB one23 rfl x.1 rfl) ?_
    refine Gq.st 4 rfl (by kernel_rfl) rfl .plain rfl (fun _ _ _ h => h) ⟨hB4, hB7, E⟩ (fun w' x => Still.move rfl) ?_
    obtain ⟨p89, hp90_w86⟩ := Bools.at hac (i := (ord (goA a) 0 (letters a.al)).getD k.toNat 0) (by have := hat (by omega); omega) (by have := hat (by omega); omega)
    refine Gq.st 5 rfl (by kernel_rfl) rfl .plain rfl (fun _ _ _ h => h) ⟨hB4, hB7, E⟩ (fun w' x => Still.at' sl23 hp90_w86 rfl rfl) ?_
    refine Gq.st 6 rfl (by kernel_rfl) rfl .plain rfl (fun _ _ _ h => h) ⟨hB4, hB7, E⟩ (fun w' x => Still.loadA one4 rfl (hp90_w86.ext (x.2.2)).1) ?_
    refine Gq.one 7 rfl (by kernel_rfl) ?_
    refine Sq.lit sl23 rfl rfl .plain rfl rfl (one_cons rfl one_nil) (fun b91 w92 e93 hlo94 ho95 _ => ?_)
    replace ho95 := ho95 w86.heap.size (Nat.le_refl _)
    have hs97 := Below.size e93
    replace E := E.trans e93
    replace hB4 := hB4.ext e93
    replace hB11 := hB11.ext e93
    replace hx61 := hx61.ext e93
    replace hn60 := hn60.ext e93
    replace hB7 := hB7.ext e93
    replace hoa := hoa.ext e93
    refine Sq.nil ?_
    refine Eq.goes (fun _ => ⟨hB4, hB7, E⟩) ?_
    refine Gq.one 8 rfl (by kernel_rfl) ?_
    refine Sq.app sl23 hoa (by omega) (Own.row ho95) (one_cons rfl one_nil) (by first | omega | (simp; omega)) .plain rfl rfl rfl rfl (fun v98 w99 ho101 g100 => ?_)
    have hs102 := g100.size
    replace E := E.owned hoa g100 (by omega)
    replace hB4 := hB4.owned hoa g100 (by decide)
    replace hB11 := hB11.owned hoa g100 (by decide)
    replace hx61 := hx61.owned hoa g100 (by decide) (by decide)
    replace hn60 := hn60.owned hoa g100 (by decide)
    replace hB7 := hB7.owned hoa g100 (by decide)
    refine Sq.nil ?_
    refine Eq.goes (fun _ => ⟨hB4, hB7, E⟩) ?_
    refine Gq.one 9 rfl (by kernel_rfl) ?_
    refine Sq.fieldAddr fld25_2 .plain rfl rfl ?_
    refine Sq.nil ?_
    refine Eq.goes (fun h => absurd h (by decide)) ?_
    refine Gq.one 10 rfl (by kernel_rfl) ?_
    refine Sq.store one23 .plain rfl rfl (Row.one (Own.row ho101)) hB7 (by simp) (fun w103 g104 hB105 => ?_)
    have hs106 := World.grownBy.size g104
    replace E := E.grown g104 (fun k hk => by injection hk with hk; subst hk; omega)
    replace hB4 := hB4.grown g104 (by intro h; injection h with h; omega)
    replace hB11 := hB11.grown g104 (by intro h; injection h with h; omega)
    replace hx61 := hx61.stored g104 hB7 (by decide) (by decide)
    replace hn60 := hn60.stored g104 hB7 (by decide)
    replace ho101 := ho101.stored g104 hB7 (by decide)
    replace hB7 := hB105
    refine Sq.nil ?_
    refine Eq.goes (fun h => absurd h (by decide)) ?_
    refine Gq.done (by kernel_rfl) ?_
    refine Eq.end ?_
    refine Eq.next ?_
    refine Cq.region ?_
    refine Sq.add .plain rfl rfl rfl (by omega) ?_
    refine Sq.move .plain rfl rfl ?_
    refine Sq.nil ?_
    have e1 := toNat_succ hk.1
    refine Eq.round _ _ ⟨k + 1, _, _, rfl, by omega, hB7, Own.snocB ho101, by rw [e1, take_snoc 0 (by omega), List.map_append, ← hys]; rfl, E, hB4, hB11, hx61, hn60, rfl⟩ (by omega) (.cons rfl (.cons rfl (.cons rfl (.cons rfl (.cons rfl (.cons rfl (.nil)))))))
  refine Sq.nil ?_
  refine Eq.next ?_
  refine Cq.seq ?_
  refine Cq.els rfl ?_
  refine Cq.exit ?_
  refine Eq.past ?_
  refine Eq.past ?_
  refine Eq.hit ?_
  refine Eq.next ?_
  refine Cq.seq ?_
  refine Cq.region ?_
  refine Sq.loadAgg agg25 .plain rfl rfl hB7 rfl ?_
  refine Sq.storeAgg agg25 .plain rfl rfl (one_cons rfl (one_cons (Rows.one (OwnRows.rows hx61)) (one_cons (Row.one (Own.row hoa)) one_nil))) hB11 rfl rfl (fun w107 g108 hB109 => ?_)
  have hs110 := World.grownBy.size g108
  replace E := E.grown g108 (fun k hk => by injection hk with hk; subst hk; omega)
  replace hx61 := hx61.stored g108 hB11 (by decide) (by decide)
  replace hoa := hoa.stored g108 hB11 (by decide)
  replace hB11 := hB109
  refine Sq.nil ?_
  refine Eq.next ?_
  refine Cq.ret ?_
  refine Eq.retCell rfl rfl agg25 hB11 rfl ?_
  have e : ys = (trim a).acc := by rw [hys, List.take_of_length_le (by omega)]; rfl
  rw [e] at hoa
  exact ⟨⟨_, _, rfl, OwnRows.now (OwnRows.mono hx61 (by omega)), hoa⟩, E⟩
set_option maxRecDepth 100000 in
theorem l4In_c (w0 : World) (xs : List Int) (r : Value) (hr : Ints w0 3 r xs) (n : Int) (hl : xs.length ≤ 1000000) : Ret Tryd.prog 100 #[r, Value.int .i64 n] w0 (fun v w => v = .bool (decide (n ∈ xs)) ∧ w0 = w) := by
  refine Ret.of (args := [r, Value.int .i64 n]) Tryd.func100 rfl rfl rfl ?_
  rintro _ rfl
  show Cq _ _ _ _ [(0, r), (1, Value.int .i64 n)] _
  refine Cq.seq ?_
  refine Cq.region ?_
  refine Sq.assign .plain rfl rfl ?_
  refine Sq.nil ?_
  refine Eq.next ?_
  refine Cq.seq ?_
  refine Cq.seq ?_
  refine Cq.region ?_
  refine Sq.assign .plain rfl rfl ?_
  refine Sq.nil ?_
  refine Eq.next ?_
  refine Cq.block ?_
  refine Cq.loop (fun nn w ls => ∃ (k : Int), ls = [(0, r), (1, Value.int .i64 n), (5, Value.int .i64 k)] ∧ w0 = w ∧ (0 ≤ k ∧ k ≤ xs.length) ∧ n ∉ xs.take k.toNat ∧ nn = ((xs.length : Int) - k).toNat) _ _ ⟨0, rfl, rfl, by omega, by simp, rfl⟩ (.cons rfl (.cons rfl (.cons rfl (.nil)))) ?_
  rintro n1 w ls ⟨k, rfl, rfl, hk, hp, rfl⟩
  refine Cq.seq ?_
  refine Cq.seq ?_
  refine Cq.region ?_
  refine Sq.move .plain rfl rfl ?_
  refine Sq.move .plain rfl rfl ?_
  refine Sq.lenInts hr .plain rfl und41 rfl ?_
  refine Sq.lss .plain rfl rfl rfl ?_
  refine Sq.part (fun c1 => ?_) (fun c1 => ?_)
  · refine Sq.nil ?_
    refine Eq.next ?_
    refine Cq.thn rfl ?_
    refine Cq.skip ?_
    refine Eq.next ?_
    refine Cq.seq ?_
    refine Cq.block ?_
    refine Cq.seq ?_
    refine Cq.region ?_
    refine Sq.move .plain rfl rfl ?_
    refine Sq.move .plain rfl rfl ?_
    refine Sq.idxInts sl41 one3 hr .plain rfl rfl rfl .plain rfl rfl (by omega) (by omega) ?_
    refine Sq.move .plain rfl rfl ?_
    refine Sq.eql .plain rfl rfl rfl ?_
    refine Sq.part (fun hne => ?_) (fun hne => ?_)
    · refine Sq.nil ?_
      refine Eq.next ?_
      refine Cq.thn rfl ?_
      refine Cq.seq ?_
      refine Cq.region ?_
      refine Sq.assign .plain rfl rfl ?_
      refine Sq.nil ?_
      refine Eq.next ?_
      refine Cq.ret ?_
      refine Eq.outRet ?_
      refine Eq.pastRet ?_
      refine Eq.pastRet ?_
      refine Eq.outRet ?_
      refine Eq.pastRet ?_
      refine Eq.ret1 rfl rfl ?_
      exact ⟨by rw [decide_eq_true (hne ▸ getD_mem (by omega))], rfl⟩
    refine Sq.nil ?_
    refine Eq.next ?_
    refine Cq.els rfl ?_
    refine Cq.skip ?_
    refine Eq.end ?_
    refine Eq.next ?_
    refine Cq.region ?_
    refine Sq.move .plain rfl rfl ?_
    refine Sq.add .plain rfl rfl rfl (by omega) ?_
    refine Sq.assign .plain rfl rfl ?_
    refine Sq.nil ?_
    have e1 := toNat_succ hk.1
    refine Eq.round _ _ ⟨k + 1, rfl, rfl, by omega, by rw [e1]; exact notin_snoc hp (by omega) hne, rfl⟩ (by omega) (.cons rfl (.cons rfl (.cons rfl (.nil))))
  refine Sq.nil ?_
  refine Eq.next ?_
  refine Cq.els rfl ?_
  refine Cq.exit ?_
  refine Eq.past ?_
  refine Eq.past ?_
  refine Eq.hit ?_
  refine Eq.next ?_
  refine Cq.seq ?_
  refine Cq.region ?_
  refine Sq.assign .plain rfl rfl ?_
  refine Sq.nil ?_
  refine Eq.next ?_
  refine Cq.ret ?_
  refine Eq.ret1 rfl rfl ?_
  exact ⟨by rw [decide_eq_false (notin_done hp (by omega))], rfl⟩
set_option maxRecDepth 100000 in
theorem l5Index_c (w0 : World) (xs : List Int) (r : Value) (hr : Ints w0 3 r xs) (n : Int) (hl : xs.length ≤ 1000000) (hm : n ∈ xs) : Ret Tryd.prog 65 #[r, Value.int .i64 n] w0 (fun v w => v = .int .i64 (xs.idxOf n : Nat) ∧ w0 = w) := by
  refine Ret.of (args := [r, Value.int .i64 n]) Tryd.func65 rfl rfl rfl ?_
  rintro _ rfl
  show Cq _ _ _ _ [(0, r), (1, Value.int .i64 n)] _
  refine Cq.seq ?_
  refine Cq.region ?_
  refine Sq.assign .plain rfl rfl ?_
  refine Sq.nil ?_
  refine Eq.next ?_
  refine Cq.seq ?_
  refine Cq.region ?_
  refine Sq.assign .plain rfl rfl ?_
  refine Sq.nil ?_
  refine Eq.next ?_
  refine Cq.seq ?_
  refine Cq.block ?_
  refine Cq.loop (fun nn w ls => ∃ (k : Int), ls = [(0, r), (1, Value.int .i64 n), (5, Value.int .i64 k)] ∧ w0 = w ∧ (0 ≤ k) ∧ n ∉ xs.take k.toNat ∧ nn = ((xs.length : Int) - k).toNat) _ _ ⟨0, rfl, rfl, by omega, by simp, rfl⟩ (.cons rfl (.cons rfl (.cons rfl (.nil)))) ?_
  rintro n1 w ls ⟨k, rfl, rfl, hk, hp, rfl⟩
  have hlt := notin_lt hm hp
  refine Cq.seq ?_
  refine Cq.seq ?_
  refine Cq.region ?_
  refine Sq.move .plain rfl rfl ?_
  refine Sq.move .plain rfl rfl ?_
  refine Sq.idxInts sl41 one3 hr .plain rfl rfl rfl .plain rfl rfl (by omega) (by omega) ?_
  refine Sq.move .plain rfl rfl ?_
  refine Sq.neq .plain rfl rfl rfl ?_
  refine Sq.part (fun hne => ?_) (fun hne => ?_)
  · refine Sq.nil ?_
    refine Eq.next ?_
    refine Cq.thn rfl ?_
    refine Cq.skip ?_
    refine Eq.next ?_
    refine Cq.block ?_
    refine Cq.region ?_
    refine Sq.move .plain rfl rfl ?_
    refine Sq.add .plain rfl rfl rfl (by omega) ?_
    refine Sq.assign .plain rfl rfl ?_
    refine Sq.nil ?_
    refine Eq.end ?_
    have e1 := toNat_succ hk
    refine Eq.round _ _ ⟨k + 1, rfl, rfl, by omega, by rw [e1]; exact notin_snoc hp (by omega) hne, rfl⟩ (by omega) (.cons rfl (.cons rfl (.cons rfl (.nil))))
  refine Sq.nil ?_
  refine Eq.next ?_
  refine Cq.els rfl ?_
  refine Cq.exit ?_
  refine Eq.past ?_
  refine Eq.past ?_
  refine Eq.hit ?_
  refine Eq.next ?_
  refine Cq.seq ?_
  refine Cq.region ?_
  refine Sq.move .plain rfl rfl ?_
  refine Sq.assign .plain rfl rfl ?_
  refine Sq.nil ?_
  refine Eq.next ?_
  refine Cq.ret ?_
  refine Eq.ret1 rfl rfl ?_
  have e := idx_here hp (by omega) (by omega)
  exact ⟨by rw [e]; congr 1; omega, rfl⟩
set_option maxRecDepth 100000 in
theorem l5Order_c (w0 : World) (a : A) (nx ac : Value) (hnx : Rows w0 41 3 nx a.next) (hac : Bools w0 4 ac a.acc) (hv : validA a = true) : Ret Tryd.prog 79 #[Value.agg #[Value.int .i64 a.al, nx, ac]] w0 (fun v w => Own w w0.heap.size 3 v ((ord (goA a) 0 (letters a.al)).map (Value.int .i64)) ∧ Ext w0 w) := by
  have E := Ext.refl w0
  have hvs := validA_spec.1 hv
  have hvn := hvs.2.1
  have hlet := letters_len6 a.al
  refine Ret.of (args := [Value.agg #[Value.int .i64 a.al, nx, ac]]) Tryd.func79 rfl rfl rfl ?_
  rintro _ rfl
  show Cq _ _ _ _ [(0, Value.agg #[Value.int .i64 a.al, nx, ac])] _
  refine Cq.seq ?_
  refine Cq.region ?_
  refine Sq.box .plain rfl rfl (fun b1 w2 e3 hB4 hlo5 => ?_)
  have hd6 := Nat.le_trans (Below.size E) hlo5
  have hs7 := Below.size e3
  replace E := E.trans e3
  refine Sq.assign .plain rfl rfl ?_
  refine Sq.nil ?_
  refine Eq.next ?_
  refine Cq.seq ?_
  refine Cq.region ?_
  refine Sq.lit sl41 rfl rfl .plain rfl rfl (one_cons rfl one_nil) (fun b8 w9 e10 hlo11 ho12 _ => ?_)
  replace ho12 := ho12 w2.heap.size (Nat.le_refl _)
  have hs14 := Below.size e10
  replace E := E.trans e10
  replace hB4 := hB4.ext e10
  refine Sq.assign .plain rfl rfl ?_
  refine Sq.nil ?_
  refine Eq.next ?_
  refine Cq.seq ?_
  refine Cq.seq ?_
  refine Cq.region ?_
  refine Sq.assign .plain rfl rfl ?_
  refine Sq.nil ?_
  refine Eq.next ?_
  refine Cq.block ?_
  refine Cq.loop (fun nn w ls => ∃ (i : Int), ∃ (nv : Value), ls = [(1, Value.pointer (some ⟨b1, 0, none⟩)), (3, nv), (4, Value.int .i64 i)] ∧ (0 ≤ i ∧ i ≤ (bfs (goA a) 0 (letters a.al) i.toNat).length) ∧ Own w w0.heap.size 3 nv ((bfs (goA a) 0 (letters a.al) i.toNat).map (Value.int .i64)) ∧ Ext w0 w ∧ Blk w b1 25 [Value.int .i64 a.al, nx, ac] ∧ nn = (100 - i).toNat) _ _ ⟨0, _, rfl, ⟨by omega, by show (0 : Int) ≤ ((1 : Nat) : Int); omega⟩, Own.mono ho12 (by omega), E, hB4, rfl⟩ (.cons rfl (.cons rfl (.cons rfl (.nil)))) ?_
  rintro nn wl1 ls ⟨i, nv, rfl, hi, hno, E, hB4, rfl⟩
  have hs15 := Below.size E
  have hbl := trim_bfs_len hv i.toNat
  have hb0 := bfs_all (f := goA a) (s := 0) (L := letters a.al) (P := fun q => 0 ≤ q ∧ q < (a.next.length : Int)) (zero_in hv) (fun q hq x hx => goA_in hv hq ⟨(mem_letters hx).1, (mem_letters hx).2.1⟩) i.toNat
  have hqi : i < (bfs (goA a) 0 (letters a.al) i.toNat).length → 0 ≤ (bfs (goA a) 0 (letters a.al) i.toNat).getD i.toNat 0 ∧ (bfs (goA a) 0 (letters a.al) i.toNat).getD i.toNat 0 < a.next.length := fun h => hb0 _ (getD_mem (by omega))
  refine Cq.seq ?_
  refine Cq.seq ?_
  refine Cq.region ?_
  refine Sq.move .plain rfl rfl ?_
  refine Sq.move .plain rfl rfl ?_
  refine Sq.lenInts (Own.row hno) .plain rfl und41 rfl ?_
  refine Sq.lss .plain rfl rfl rfl ?_
  refine Sq.part (fun c16 => ?_) (fun c16 => ?_)
  · refine Sq.nil ?_
    refine Eq.next ?_
    refine Cq.thn rfl ?_
    refine Cq.skip ?_
    refine Eq.next ?_
    refine Cq.seq ?_
    refine Cq.block ?_
    refine Cq.seq ?_
    refine Cq.draw 8 none mixed (fun w17 e18 => ?_)
    have hs19 := Below.size e18
    replace E := E.trans e18
    replace hB4 := hB4.ext e18
    replace hno := hno.ext e18
    have E_w17 := E
    have hB4_w17 := hB4
    have hno_w17 := hno
    refine Gq.st 0 rfl (by kernel_rfl) rfl .plain rfl (fun _ _ _ h => h) (World.grownBy.refl w17 _) (fun w' x => Still.fieldAddr fld25_1 rfl) ?_
    refine Gq.st 1 rfl (by kernel_rfl) rfl .plain rfl (fun _ _ _ h => h) (World.grownBy.refl w17 _) (fun w' x => Still.loadB one22 rfl (hB4_w17.ext (Ext.of_grown x)) rfl) ?_
    refine Gq.st 2 rfl (by kernel_rfl) rfl .plain rfl (fun _ _ _ h => h) (World.grownBy.refl w17 _) (fun w' x => Still.move rfl) ?_
    refine Gq.st 3 rfl (by kernel_rfl) rfl .plain rfl (fun _ _ _ h => h) (World.grownBy.refl w17 _) (fun w' x => Still.move rfl) ?_
    obtain ⟨p20, hp21_w17⟩ := Ints.at (Own.row hno_w17) (i := i) (by omega) (by omega)
    have hp21o := AtO.of hno_w17 hp21_w17
    refine Gq.st 4 rfl (by kernel_rfl) rfl .plain rfl (fun _ _ _ h => h) (World.grownBy.refl w17 _) (fun w' x => Still.at' sl41 hp21_w17 rfl rfl) ?_
    refine Gq.st 5 rfl (by kernel_rfl) rfl .plain rfl (fun _ _ _ h => h) (World.grownBy.refl w17 _) (fun w' x => Still.loadA one3 rfl (hp21_w17.ext (Ext.of_grown x)).1) ?_
    obtain ⟨p22, r24, hp23_w17, hr25⟩ := Rows.at hnx (i := (bfs (goA a) 0 (letters a.al) i.toNat).getD i.toNat 0) (by omega) (by omega)
    refine Gq.st 6 rfl (by kernel_rfl) rfl .plain rfl (fun _ _ _ h => h) (World.grownBy.refl w17 _) (fun w' x => Still.at' sl22 hp23_w17 rfl rfl) ?_
    refine Gq.st 7 rfl (by kernel_rfl) rfl .plain rfl (fun _ _ _ h => h) (World.grownBy.refl w17 _) (fun w' x => Still.loadA one41 rfl (hp23_w17.ext (E_w17.trans (Ext.of_grown x))).1) ?_
    refine Gq.one 8 rfl (by kernel_rfl) ?_
    refine Sq.assign .plain rfl rfl ?_
    refine Sq.nil ?_
    refine Eq.goes (fun h => absurd h (by decide)) ?_
    refine Gq.done (by kernel_rfl) ?_
    refine Eq.next ?_
    refine Cq.seq ?_
    refine Cq.region ?_
    refine Sq.assign .plain rfl rfl ?_
    refine Sq.nil ?_
    refine Eq.next ?_
    refine Cq.block ?_
    obtain ⟨q, hq⟩ : ∃ q, (bfs (goA a) 0 (letters a.al) i.toNat)[i.toNat]? = some q := ⟨_, List.getElem?_eq_getElem (by omega)⟩
    have hqe : (bfs (goA a) 0 (letters a.al) i.toNat).getD i.toNat 0 = q := by rw [List.getD_eq_getElem?_getD, hq]; rfl
    rw [hqe] at hqi hr25
    have hvr := valid_row hv (k := q.toNat) (by omega)
    refine Cq.loop (fun nn w ls => ∃ (k : Int), ∃ (nv2 : Value), ls = [(1, Value.pointer (some ⟨b1, 0, none⟩)), (3, nv2), (4, Value.int .i64 i), (5, r24), (6, Value.int .i64 k)] ∧ (0 ≤ k ∧ k ≤ (letters a.al).length) ∧ Own w w0.heap.size 3 nv2 ((mid (goA a) 0 (letters a.al) i.toNat q k.toNat).map (Value.int .i64)) ∧ Ext w0 w ∧ Blk w b1 25 [Value.int .i64 a.al, nx, ac] ∧ nn = ((letters a.al).length - k).toNat) _ _ ⟨0, _, rfl, by omega, hno, E, hB4, rfl⟩ (.cons rfl (.cons rfl (.cons rfl (.cons rfl (.cons rfl (.nil)))))) ?_
    rintro nn wl2 ls ⟨k, nv2, rfl, hk, hno, E, hB4, rfl⟩
    have hs26 := Below.size E
    have hbl2 := trim_bfs_len hv (i.toNat + 1)
    have hmh := (mid_prefix (f := goA a) (s := 0) (L := letters a.al) (k := k.toNat) hq).length_le
    have hrg : k < (letters a.al).length → _ := fun h => row_go hv (q := q.toNat) (k := k.toNat) (by omega) (by omega)
    have hml := (mid_prefix0 (f := goA a) (s := 0) (L := letters a.al) i.toNat q k.toNat).length_le
    refine Cq.seq ?_
    refine Cq.seq ?_
    refine Cq.region ?_
    refine Sq.move .plain rfl rfl ?_
    refine Sq.move .plain rfl rfl ?_
    refine Sq.lenInts (hr25.ext E) .plain rfl und41 rfl ?_
    refine Sq.lss .plain rfl rfl rfl ?_
    refine Sq.part (fun c27 => ?_) (fun c27 => ?_)
    · refine Sq.nil ?_
      refine Eq.next ?_
      refine Cq.thn rfl ?_
      refine Cq.skip ?_
      refine Eq.next ?_
      refine Cq.seq ?_
      refine Cq.block ?_
      refine Cq.seq ?_
      refine Cq.region ?_
      refine Sq.move .plain rfl rfl ?_
      refine Sq.move .plain rfl rfl ?_
      refine Sq.move .plain rfl rfl ?_
      refine Sq.idxInts sl41 one3 (hr25.ext E) .plain rfl rfl rfl .plain rfl rfl (by omega) (by omega) ?_
      refine Sq.call fn100 .plain rfl rfl (l4In_c _ ((mid (goA a) 0 (letters a.al) i.toNat q k.toNat)) _ (Own.row hno) ((a.next.getD q.toNat []).getD k.toNat 0) (by omega)) ?_
      rintro _ _ ⟨rfl, rfl⟩
      refine Sq.part (fun hin => ?_) (fun hin => ?_)
      · refine Sq.notT .plain rfl rfl ?_
        refine Sq.nil ?_
        refine Eq.next ?_
        refine Cq.els rfl ?_
        refine Cq.skip ?_
        refine Eq.end ?_
        refine Eq.next ?_
        refine Cq.region ?_
        refine Sq.move .plain rfl rfl ?_
        refine Sq.add .plain rfl rfl rfl (by omega) ?_
        refine Sq.assign .plain rfl rfl ?_
        refine Sq.nil ?_
        have e2 := toNat_succ hk.1
        have e5 := mid_succ (f := goA a) (s := 0) (i := i.toNat) (q := q) (k := k.toNat) (L := letters a.al) (by omega)
        have e6 := hrg (by omega)
        rw [Int.toNat_of_nonneg (hqi (by omega)).1] at e6
        rw [e6] at hin
        rw [addNode_T hin] at e5
        refine Eq.round _ _ ⟨k + 1, _, rfl, by omega, by rw [e2, e5]; exact hno, E, hB4, rfl⟩ (by omega) (.cons rfl (.cons rfl (.cons rfl (.cons rfl (.cons rfl (.nil))))))
      refine Sq.notF .plain rfl rfl ?_
      refine Sq.nil ?_
      refine Eq.next ?_
      refine Cq.thn rfl ?_
      refine Cq.region ?_
      refine Sq.move .plain rfl rfl ?_
      refine Sq.move .plain rfl rfl ?_
      refine Sq.move .plain rfl rfl ?_
      refine Sq.idxInts sl41 one3 (hr25.ext E) .plain rfl rfl rfl .plain rfl rfl (by omega) (by omega) ?_
      refine Sq.app1 sl41 hno (by omega) (by rw [List.length_map]; omega) .plain rfl rfl rfl rfl rfl rfl rfl (fun v28 w29 ho31 g30 _ => ?_)
      have hs32 := g30.size
      replace E := E.owned hno g30 (by omega)
      replace hB4 := hB4.owned hno g30 (by decide)
      refine Sq.assign .plain rfl rfl ?_
      refine Sq.nil ?_
      refine Eq.end ?_
      refine Eq.next ?_
      refine Cq.region ?_
      refine Sq.move .plain rfl rfl ?_
      refine Sq.add .plain rfl rfl rfl (by omega) ?_
      refine Sq.assign .plain rfl rfl ?_
      refine Sq.nil ?_
      have e2 := toNat_succ hk.1
      have e5 := mid_succ (f := goA a) (s := 0) (i := i.toNat) (q := q) (k := k.toNat) (L := letters a.al) (by omega)
      have e6 := hrg (by omega)
      rw [Int.toNat_of_nonneg (hqi (by omega)).1] at e6
      rw [e6] at hin
      rw [addNode_F hin] at e5
      rw [e6] at ho31
      refine Eq.round _ _ ⟨k + 1, _, rfl, by omega, by rw [e2, e5]; exact Own.snocI ho31, E, hB4, rfl⟩ (by omega) (.cons rfl (.cons rfl (.cons rfl (.cons rfl (.cons rfl (.nil))))))
    refine Sq.nil ?_
    refine Eq.next ?_
    refine Cq.els rfl ?_
    refine Cq.exit ?_
    refine Eq.past ?_
    refine Eq.past ?_
    refine Eq.hit ?_
    refine Eq.end ?_
    refine Eq.next ?_
    refine Cq.region ?_
    refine Sq.move .plain rfl rfl ?_
    refine Sq.add .plain rfl rfl rfl (by omega) ?_
    refine Sq.assign .plain rfl rfl ?_
    refine Sq.nil ?_
    have e1 := toNat_succ hi.1
    have e3 := mid_done (f := goA a) (s := 0) (L := letters a.al) (k := k.toNat) (by omega) hq
    have e4 := (bfs_prefix1 (f := goA a) (s := 0) (L := letters a.al) i.toNat).length_le
    refine Eq.round _ _ ⟨i + 1, _, rfl, by rw [e1]; omega, by rw [e1, ← e3]; exact hno, E, hB4, rfl⟩ (by omega) (.cons rfl (.cons rfl (.cons rfl (.nil))))
  refine Sq.nil ?_
  refine Eq.next ?_
  refine Cq.els rfl ?_
  refine Cq.exit ?_
  refine Eq.past ?_
  refine Eq.past ?_
  refine Eq.hit ?_
  refine Eq.next ?_
  refine Cq.seq ?_
  refine Cq.region ?_
  refine Sq.move .plain rfl rfl ?_
  refine Sq.assign .plain rfl rfl ?_
  refine Sq.nil ?_
  refine Eq.next ?_
  refine Cq.ret ?_
  refine Eq.ret1 rfl rfl ?_
  rw [ord_done (f := goA a) (s := 0) (L := letters a.al) (i := i.toNat) (by omega) (by omega)] at hno
  exact ⟨hno, E⟩
end Go.Proofs.YtnckpafknojdhaaDoor
set_option linter.unusedSimpArgs false
set_option linter.unusedVariables false
namespace Go.Proofs.YtnckpafknojdhaaDoor
open Go.RowKit
set_option maxRecDepth 100000 in
theorem minimize_c (w0 : World) (a : A) (nx ac : Value) (hnx : Rows w0 41 3 nx a.next) (hac : Bools w0 4 ac a.acc) (hv : validA a = true) : Ret Tryd.prog 41 #[Value.agg #[Value.int .i64 a.al, nx, ac]] w0 (fun v w => OwnA w w0.heap.size v (minA a) ∧ Ext w0 w) := by
  have E := Ext.refl w0
  have hvs := validA_spec.1 hv
  have hv1 := hvs.2.1
  have hv2 := hvs.2.2.1
  have hcl := classes_length hv
  have hl6 := letters_len6 a.al
  refine Ret.of (args := [Value.agg #[Value.int .i64 a.al, nx, ac]]) Tryd.func41 rfl rfl rfl ?_
  rintro _ rfl
  show Cq _ _ _ _ [(0, Value.agg #[Value.int .i64 a.al, nx, ac])] _
  refine Cq.seq ?_
  refine Cq.region ?_
  refine Sq.box .plain rfl rfl (fun b1 w2 e3 hB4 hlo5 => ?_)
  have hd6 := Nat.le_trans (Below.size E) hlo5
  have hs7 := Below.size e3
  replace E := E.trans e3
  refine Sq.alloc zero25 .plain rfl (fun b8 w9 e10 hB11 hlo12 => ?_)
  have hd13 := Nat.le_trans (Below.size E) hlo12
  have hd14 := Nat.lt_of_lt_of_le hB4.lt hlo12
  have hs15 := Below.size e10
  replace E := E.trans e10
  replace hB4 := hB4.ext e10
  refine Sq.nil ?_
  refine Eq.next ?_
  refine Cq.seq ?_
  refine Cq.region ?_
  refine Sq.loadAgg agg25 .plain rfl rfl hB4 rfl ?_
  have hd20 := hB4.lt
  have hd21 := hB11.lt
  refine Sq.call fn66 .plain rfl rfl (classesOf_c _ a _ _ (hnx.ext E) (hac.ext E) hv) ?_
  rintro v16 w17 ⟨hl19, e18⟩
  have hs22 := Below.size E
  have hs23 := Below.size e18
  replace E := E.trans e18
  replace hB4 := hB4.ext e18
  replace hB11 := hB11.ext e18
  refine Sq.assign .plain rfl rfl ?_
  refine Sq.nil ?_
  refine Eq.next ?_
  refine Cq.seq ?_
  refine Cq.region ?_
  refine Sq.fieldAddr fld25_0 .plain rfl rfl ?_
  refine Sq.loadB one3 .plain rfl rfl hB4 rfl ?_
  refine Sq.build st25 rfl rfl .plain rfl rfl (one_cons rfl one_nil) rfl ?_
  refine Sq.alloc zero25 .plain rfl (fun b24 w25 e26 hB27 hlo28 => ?_)
  have hd29 := Nat.le_trans (Below.size E) hlo28
  have hd30 := Nat.lt_of_lt_of_le hB4.lt hlo28
  have hd31 := Nat.lt_of_lt_of_le hB11.lt hlo28
  have hs32 := Below.size e26
  replace E := E.trans e26
  replace hB4 := hB4.ext e26
  replace hB11 := hB11.ext e26
  replace hl19 := hl19.ext e26
  refine Sq.storeAgg agg25 .plain rfl rfl (one_cons rfl (one_cons rfl (one_cons rfl one_nil))) hB27 rfl rfl (fun w33 g34 hB35 => ?_)
  have hs36 := World.grownBy.size g34
  replace E := E.grown g34 (fun k hk => by injection hk with hk; subst hk; omega)
  replace hB4 := hB4.grown g34 (by intro h; injection h with h; omega)
  replace hB11 := hB11.grown g34 (by intro h; injection h with h; omega)
  replace hl19 := hl19.stored g34 hB27 (by decide)
  replace hB27 := hB35
  refine Sq.nil ?_
  refine Eq.next ?_
  refine Cq.seq ?_
  refine Cq.seq ?_
  refine Cq.region ?_
  refine Sq.move .plain rfl rfl ?_
  refine Sq.lenInts (Own.row hl19) .plain rfl und41 rfl ?_
  refine Sq.move .plain rfl rfl ?_
  refine Sq.nil ?_
  refine Eq.next ?_
  refine Cq.block ?_
  refine Cq.loop (fun nn w ls => ∃ (i : Int), ∃ (nxv : Value), ∃ (acv : Value), ∃ (xss : List (List Int)), ∃ (ys : List Bool), ls = [(1, Value.pointer (some ⟨b1, 0, none⟩)), (2, Value.pointer (some ⟨b8, 0, none⟩)), (3, v16), (4, Value.pointer (some ⟨b24, 0, none⟩)), (15, v16), (16, Value.int .i64 ((List.length (classes a) : Int))), (17, Value.int .i64 i)] ∧ (0 ≤ i ∧ i ≤ a.next.length) ∧ Blk w b24 25 [Value.int .i64 a.al, nxv, acv] ∧ OwnRows w w0.heap.size w.heap.size 41 3 nxv xss ∧ Own w w0.heap.size 4 acv (ys.map Value.bool) ∧ xss = (qRows a (newTo a i.toNat)) ∧ ys = (qAccs a (newTo a i.toNat)) ∧ Ext w0 w ∧ Blk w b1 25 [Value.int .i64 a.al, nx, ac] ∧ Blk w b8 25 [Value.int .i64 0, Value.slice none 0 0, Value.slice none 0 0] ∧ Own w w9.heap.size 3 v16 ((classes a).map (Value.int .i64)) ∧ nn = ((a.next.length : Int) - i).toNat) _ _ ⟨0, _, _, [], [], rfl, by omega, hB27, OwnRows.nil _ _ _ _ _, Own.nil _ _ _, rfl, rfl, E, hB4, hB11, hl19, rfl⟩ (.cons rfl (.cons rfl (.cons rfl (.cons rfl (.cons rfl (.cons rfl (.cons rfl (.nil)))))))) ?_
  rintro nn wl1 ls ⟨i, nxv, acv, xss, ys, rfl, hi, hBr, hor, hoa, hxs, hys, E, hB4, hB11, hl19, rfl⟩
  have hs37 := Below.size E
  have hlow := Own.low hl19
  have hnl := newTo_le a i.toNat
  have hxl : xss.length = (newTo a i.toNat) := by rw [hxs]; exact qRows_length _
  have hyl : ys.length = (newTo a i.toNat) := by rw [hys]; exact qAccs_length _
  refine Cq.seq ?_
  refine Cq.region ?_
  refine Sq.lss .plain rfl rfl rfl ?_
  refine Sq.part (fun c38 => ?_) (fun c38 => ?_)
  · refine Sq.nil ?_
    refine Eq.next ?_
    refine Cq.seq ?_
    refine Cq.thn rfl ?_
    refine Cq.skip ?_
    refine Eq.next ?_
    refine Cq.seq ?_
    refine Cq.block ?_
    refine Cq.seq ?_
    refine Cq.region ?_
    have hco := classes_order hv (k := i.toNat) (by omega)
    refine Sq.move .plain rfl rfl ?_
    refine Sq.idxInts sl41 one3 (Own.row hl19) .plain rfl rfl rfl .plain rfl rfl (by omega) (by omega) ?_
    refine Sq.assign .plain rfl rfl ?_
    refine Sq.assign .plain rfl rfl ?_
    refine Sq.nil ?_
    refine Eq.next ?_
    refine Cq.seq ?_
    refine Cq.seq ?_
    refine Cq.region ?_
    refine Sq.move .plain rfl rfl ?_
    refine Sq.fieldAddr fld25_1 .plain rfl rfl ?_
    refine Sq.loadB one22 .plain rfl rfl hBr rfl ?_
    refine Sq.lenRows (OwnRows.rows hor) .plain rfl und22 rfl ?_
    refine Sq.lss .plain rfl rfl rfl ?_
    refine Sq.part (fun c39 => ?_) (fun c39 => ?_)
    · refine Sq.nil ?_
      refine Eq.next ?_
      refine Cq.thn rfl ?_
      refine Cq.exit ?_
      refine Eq.past ?_
      refine Eq.hit ?_
      refine Eq.next ?_
      refine Cq.region ?_
      refine Sq.add .plain rfl rfl rfl (by omega) ?_
      refine Sq.move .plain rfl rfl ?_
      refine Sq.nil ?_
      have e1 := toNat_succ hi.1
      have h3 := hco.2.2
      rw [if_neg (by omega)] at h3
      refine Eq.round _ _ ⟨i + 1, _, _, _, _, rfl, by omega, hBr, OwnRows.now hor, hoa, by rw [e1, h3]; exact hxs, by rw [e1, h3]; exact hys, E, hB4, hB11, hl19, rfl⟩ (by omega) (.cons rfl (.cons rfl (.cons rfl (.cons rfl (.cons rfl (.cons rfl (.cons rfl (.nil))))))))
    refine Sq.nil ?_
    refine Eq.next ?_
    refine Cq.els rfl ?_
    refine Cq.skip ?_
    refine Eq.next ?_
    refine Cq.seq ?_
    refine Cq.region ?_
    refine Sq.assign .plain rfl rfl ?_
    refine Sq.nil ?_
    refine Eq.next ?_
    refine Cq.seq ?_
    refine Cq.seq ?_
    refine Cq.region ?_
    refine Sq.fieldAddr fld25_1 .plain rfl rfl ?_
    refine Sq.loadB one22 .plain rfl rfl hB4 rfl ?_
    refine Sq.move .plain rfl rfl ?_
    obtain ⟨p40, r42, hp41, hr43⟩ := Rows.at hnx (i := i) (by omega) (by omega)
    replace hp41 := hp41.ext E
    refine Sq.val .plain rfl rfl (Still.at' sl22 hp41 rfl rfl) ?_
    refine Sq.val .plain rfl rfl (Still.loadA one41 rfl hp41.1) ?_
    refine Sq.lenInts (hr43.ext E) .plain rfl und41 rfl ?_
    refine Sq.move .plain rfl rfl ?_
    refine Sq.nil ?_
    refine Eq.next ?_
    refine Cq.block ?_
    have hvr := valid_row hv (k := i.toNat) (by omega)
    refine Cq.loop (fun nn w ls => ∃ (k : Int), ∃ (rv : Value), ∃ (row : List Int), ls = [(1, Value.pointer (some ⟨b1, 0, none⟩)), (2, Value.pointer (some ⟨b8, 0, none⟩)), (3, v16), (4, Value.pointer (some ⟨b24, 0, none⟩)), (5, Value.int .i64 i), (7, rv), (15, v16), (16, Value.int .i64 ((List.length (classes a) : Int))), (17, Value.int .i64 i), (31, r42), (32, Value.int .i64 ((List.length (a.next.getD i.toNat []) : Int))), (33, Value.int .i64 k)] ∧ (0 ≤ k ∧ k ≤ (a.next.getD i.toNat []).length) ∧ wl1.heap.size ≤ w.heap.size ∧ Own w wl1.heap.size 3 rv (row.map (Value.int .i64)) ∧ row = rowQTo a (classes a) i.toNat k.toNat ∧ Ext w0 w ∧ Blk w b1 25 [Value.int .i64 a.al, nx, ac] ∧ Blk w b8 25 [Value.int .i64 0, Value.slice none 0 0, Value.slice none 0 0] ∧ Own w w9.heap.size 3 v16 ((classes a).map (Value.int .i64)) ∧ Blk w b24 25 [Value.int .i64 a.al, nxv, acv] ∧ OwnRows w w0.heap.size wl1.heap.size 41 3 nxv xss ∧ Own w w0.heap.size 4 acv (ys.map Value.bool) ∧ nn = (((a.next.getD i.toNat []).length : Int) - k).toNat) _ _ ⟨0, _, [], rfl, by omega, by omega, Own.nil _ _ _, rfl, E, hB4, hB11, hl19, hBr, hor, hoa, rfl⟩ (.cons rfl (.cons rfl (.cons rfl (.cons rfl (.cons rfl (.cons rfl (.cons rfl (.cons rfl (.cons rfl (.cons rfl (.cons rfl (.cons rfl (.nil))))))))))))) ?_
    rintro nn wl2 ls ⟨k, rv, row, rfl, hk, hsz, hro, hrow, E, hB4, hB11, hl19, hBr, hor, hoa, rfl⟩
    have hs44 := Below.size E
    have hrl : row.length ≤ 6 := by rw [hrow]; exact rowQTo_len hv _ (by omega) _
    have hvt := valid_at hv (k := i.toNat) (j := k.toNat)
    refine Cq.seq ?_
    refine Cq.region ?_
    refine Sq.lss .plain rfl rfl rfl ?_
    refine Sq.part (fun c45 => ?_) (fun c45 => ?_)
    · refine Sq.nil ?_
      refine Eq.next ?_
      refine Cq.seq ?_
      refine Cq.thn rfl ?_
      refine Cq.skip ?_
      refine Eq.next ?_
      refine Cq.seq ?_
      refine Cq.block ?_
      refine Cq.seq ?_
      refine Cq.region ?_
      refine Sq.idxInts sl41 one3 (hr43.ext E) .plain rfl rfl rfl .plain rfl rfl (by omega) (by omega) ?_
      refine Sq.assign .plain rfl rfl ?_
      refine Sq.nil ?_
      refine Eq.next ?_
      refine Cq.region ?_
      refine Sq.move .plain rfl rfl ?_
      refine Sq.move .plain rfl rfl ?_
      refine Sq.move .plain rfl rfl ?_
      refine Sq.idxInts sl41 one3 (Own.row hl19) .plain rfl rfl rfl .plain rfl rfl (by have := hvt (by omega) (by omega); omega) (by have := hvt (by omega) (by omega); omega) ?_
      refine Sq.app1 sl41 hro (by omega) (by first | omega | (simp; omega)) .plain rfl rfl rfl rfl rfl rfl rfl (fun v46 w47 ho49 g48 _ => ?_)
      have hs50 := g48.size
      replace E := E.owned hro g48 (by omega)
      replace hB4 := hB4.owned hro g48 (by decide)
      replace hB11 := hB11.owned hro g48 (by decide)
      replace hl19 := hl19.apart hlow hro g48 (by omega)
      replace hBr := hBr.owned hro g48 (by decide)
      replace hor := hor.apart hro g48 (by omega) (by decide)
      replace hoa := hoa.owned hro g48 (by decide)
      refine Sq.assign .plain rfl rfl ?_
      refine Sq.nil ?_
      refine Eq.end ?_
      refine Eq.next ?_
      refine Cq.region ?_
      refine Sq.add .plain rfl rfl rfl (by omega) ?_
      refine Sq.move .plain rfl rfl ?_
      refine Sq.nil ?_
      have e2 := toNat_succ hk.1
      refine Eq.round _ _ ⟨k + 1, _, _, rfl, by omega, by omega, Own.snocI ho49, by rw [e2, rowQTo_succ (by omega), ← hrow], E, hB4, hB11, hl19, hBr, hor, hoa, rfl⟩ (by omega) (.cons rfl (.cons rfl (.cons rfl (.cons rfl (.cons rfl (.cons rfl (.cons rfl (.cons rfl (.cons rfl (.cons rfl (.cons rfl (.cons rfl (.nil)))))))))))))
    refine Sq.nil ?_
    refine Eq.next ?_
    refine Cq.seq ?_
    refine Cq.els rfl ?_
    refine Cq.exit ?_
    refine Eq.past ?_
    refine Eq.past ?_
    refine Eq.hit ?_
    refine Eq.next ?_
    refine Cq.seq ?_
    refine Cq.region ?_
    refine Sq.fieldAddr fld25_1 .plain rfl rfl ?_
    refine Sq.loadB one22 .plain rfl rfl hBr rfl ?_
    refine Sq.move .plain rfl rfl ?_
    obtain ⟨rs55, q56, q57, q58⟩ := OwnRows.open hor (by decide)
    have q58x := Ext.refl wl2
    refine Sq.app1 sl22 q56 (by omega) (by rw [q57]; first | omega | (simp; omega)) .plain rfl rfl rfl rfl rfl rfl (Row.one (Own.row hro)) (fun v51 w52 ho54 g53 _ => ?_)
    have hs59 := g53.size
    have ho54r := q58 _ row _ _ _ (Ext.refl _) (Own.mono hro (by omega)) (by omega) ho54 g53
    replace E := E.owned q56 g53 (by omega)
    replace hB4 := hB4.owned q56 g53 (by decide)
    replace hB11 := hB11.owned q56 g53 (by decide)
    replace hl19 := hl19.owned q56 g53 (by decide)
    replace hBr := hBr.owned q56 g53 (by decide)
    replace hoa := hoa.owned q56 g53 (by decide)
    refine Sq.fieldAddr fld25_1 .plain rfl rfl ?_
    refine Sq.store one22 .plain rfl rfl (Rows.one (OwnRows.rows ho54r)) hBr (by simp) (fun w60 g61 hB62 => ?_)
    have hs63 := World.grownBy.size g61
    replace E := E.grown g61 (fun k hk => by injection hk with hk; subst hk; omega)
    replace hB4 := hB4.grown g61 (by intro h; injection h with h; omega)
    replace hB11 := hB11.grown g61 (by intro h; injection h with h; omega)
    replace hl19 := hl19.stored g61 hBr (by decide)
    replace hoa := hoa.stored g61 hBr (by decide)
    replace ho54r := ho54r.stored g61 hBr (by decide) (by decide)
    replace hBr := hB62
    refine Sq.nil ?_
    refine Eq.next ?_
    refine Cq.drawS 9 (fun w' => Blk w' b1 25 [Value.int .i64 a.al, nx, ac] ∧ Blk w' b24 25 [Value.int .i64 a.al, v51, acv] ∧ Ext w0 w') mixed (⟨hB4, hBr, E⟩) (fun w64 e65 hS => ?_)
    clear hS
    have hs66 := Below.size e65
    replace E := E.trans e65
    replace hB4 := hB4.ext e65
    replace hB11 := hB11.ext e65
    replace hl19 := hl19.ext e65
    replace hBr := hBr.ext e65
    replace hoa := hoa.ext e65
    replace ho54r := ho54r.ext e65
    refine Gq.st 0 rfl (by kernel_rfl) rfl .plain rfl (fun _ _ _ h => h) ⟨hB4, hBr, E⟩ (fun w' x => Still.fieldAddr fld25_2 rfl) ?_
    refine Gq.st 1 rfl (by kernel_rfl) rfl .plain rfl (fun _ _ _ h => h) ⟨hB4, hBr, E⟩ (fun w' x => Still.loadB one23 rfl x.2.1 rfl) ?_
    refine Gq.st 2 rfl (by kernel_rfl) rfl .plain rfl (fun _ _ _ h => h) ⟨hB4, hBr, E⟩ (fun w' x => Still.fieldAddr fld25_2 rfl) ?_
    refine Gq.st 3 rfl (by kernel_rfl) rfl .plain rfl (fun _ _ _ h => h) ⟨hB4, hBr, E⟩ (fun w' x => Still.loadB one23 rfl x.1 rfl) ?_
    refine Gq.st 4 rfl (by kernel_rfl) rfl .plain rfl (fun _ _ _ h => h) ⟨hB4, hBr, E⟩ (fun w' x => Still.move rfl) ?_
    obtain ⟨p67, hp68_w64⟩ := Bools.at hac (i := i) (by omega) (by omega)
    refine Gq.st 5 rfl (by kernel_rfl) rfl .plain rfl (fun _ _ _ h => h) ⟨hB4, hBr, E⟩ (fun w' x => Still.at' sl23 hp68_w64 rfl rfl) ?_
    refine Gq.st 6 rfl (by kernel_rfl) rfl .plain rfl (fun _ _ _ h => h) ⟨hB4, hBr, E⟩ (fun w' x => Still.loadA one4 rfl (hp68_w64.ext (x.2.2)).1) ?_
    refine Gq.one 7 rfl (by kernel_rfl) ?_
    refine Sq.lit sl23 rfl rfl .plain rfl rfl (one_cons rfl one_nil) (fun b69 w70 e71 hlo72 ho73 _ => ?_)
    replace ho73 := ho73 w64.heap.size (Nat.le_refl _)
    have hs75 := Below.size e71
    replace E := E.trans e71
    replace hB4 := hB4.ext e71
    replace hB11 := hB11.ext e71
    replace hl19 := hl19.ext e71
    replace hBr := hBr.ext e71
    replace hoa := hoa.ext e71
    replace ho54r := ho54r.ext e71
    refine Sq.nil ?_
    refine Eq.goes (fun _ => ⟨hB4, hBr, E⟩) ?_
    refine Gq.one 8 rfl (by kernel_rfl) ?_
    refine Sq.app sl23 hoa (by omega) (Own.row ho73) (one_cons rfl one_nil) (by first | omega | (simp; omega)) .plain rfl rfl rfl rfl (fun v76 w77 ho79 g78 => ?_)
    have hs80 := g78.size
    replace E := E.owned hoa g78 (by omega)
    replace hB4 := hB4.owned hoa g78 (by decide)
    replace hB11 := hB11.owned hoa g78 (by decide)
    replace hl19 := hl19.owned hoa g78 (by decide)
    replace hBr := hBr.owned hoa g78 (by decide)
    replace ho54r := ho54r.owned hoa g78 (by decide) (by decide)
    refine Sq.nil ?_
    refine Eq.goes (fun _ => ⟨hB4, hBr, E⟩) ?_
    refine Gq.one 9 rfl (by kernel_rfl) ?_
    refine Sq.fieldAddr fld25_2 .plain rfl rfl ?_
    refine Sq.nil ?_
    refine Eq.goes (fun h => absurd h (by decide)) ?_
    refine Gq.one 10 rfl (by kernel_rfl) ?_
    refine Sq.store one23 .plain rfl rfl (Row.one (Own.row ho79)) hBr (by simp) (fun w81 g82 hB83 => ?_)
    have hs84 := World.grownBy.size g82
    replace E := E.grown g82 (fun k hk => by injection hk with hk; subst hk; omega)
    replace hB4 := hB4.grown g82 (by intro h; injection h with h; omega)
    replace hB11 := hB11.grown g82 (by intro h; injection h with h; omega)
    replace hl19 := hl19.stored g82 hBr (by decide)
    replace ho54r := ho54r.stored g82 hBr (by decide) (by decide)
    replace ho79 := ho79.stored g82 hBr (by decide)
    replace hBr := hB83
    refine Sq.nil ?_
    refine Eq.goes (fun h => absurd h (by decide)) ?_
    refine Gq.done (by kernel_rfl) ?_
    refine Eq.end ?_
    refine Eq.next ?_
    refine Cq.region ?_
    refine Sq.add .plain rfl rfl rfl (by omega) ?_
    refine Sq.move .plain rfl rfl ?_
    refine Sq.nil ?_
    have e1 := toNat_succ hi.1
    have h3 := hco.2.2
    rw [if_pos (by omega)] at h3
    have hrn := rep_new hv (k := i.toNat) (by omega) (by omega)
    refine Eq.round _ _ ⟨i + 1, _, _, _, _, rfl, by omega, hBr, OwnRows.now ho54r, Own.snocB ho79, by rw [e1, h3, qRows_succ, hrn, ← rowQTo_done (j := k.toNat) (by omega), ← hrow, ← hxs], by rw [e1, h3, qAccs_succ, hrn, ← hys], E, hB4, hB11, hl19, rfl⟩ (by omega) (.cons rfl (.cons rfl (.cons rfl (.cons rfl (.cons rfl (.cons rfl (.cons rfl (.nil))))))))
  refine Sq.nil ?_
  refine Eq.next ?_
  refine Cq.seq ?_
  refine Cq.els rfl ?_
  refine Cq.exit ?_
  refine Eq.past ?_
  refine Eq.past ?_
  refine Eq.hit ?_
  refine Eq.next ?_
  refine Cq.seq ?_
  refine Cq.region ?_
  have hnn := newTo_all hv (k := i.toNat) (by omega)
  rw [hxs, hnn, qRows_all hv] at hor
  rw [hys, hnn, qAccs_all hv] at hoa
  have hqv := quo_valid hv
  refine Sq.loadAgg agg25 .plain rfl rfl hBr rfl ?_
  have hd92 := hB4.lt
  have hd93 := hB11.lt
  have hd94 := hBr.lt
  refine Sq.call fn67 .plain rfl rfl (trim_c _ ((quo a (classes a))) _ _ (OwnRows.rows hor) (Own.row hoa) hqv) ?_
  rintro _ w86 ⟨⟨nx88, ac89, rfl, hn90, ha91⟩, e87⟩
  have hs95 := Below.size E
  have hs96 := Below.size e87
  replace E := E.trans e87
  replace hB11 := hB11.ext e87
  refine Sq.storeAgg agg25 .plain rfl rfl (one_cons rfl (one_cons (Rows.one (OwnRows.rows hn90)) (one_cons (Row.one (Own.row ha91)) one_nil))) hB11 rfl rfl (fun w97 g98 hB99 => ?_)
  have hs100 := World.grownBy.size g98
  replace E := E.grown g98 (fun k hk => by injection hk with hk; subst hk; omega)
  replace hn90 := hn90.stored g98 hB11 (by decide) (by decide)
  replace ha91 := ha91.stored g98 hB11 (by decide)
  replace hB11 := hB99
  refine Sq.nil ?_
  refine Eq.next ?_
  refine Cq.ret ?_
  refine Eq.retCell rfl rfl agg25 hB11 rfl ?_
  exact ⟨⟨_, _, rfl, OwnRows.now (OwnRows.mono hn90 (by omega)), Own.mono ha91 (by omega)⟩, E⟩
end Go.Proofs.YtnckpafknojdhaaDoor
set_option linter.unusedSimpArgs false
set_option linter.unusedVariables false
namespace Go.Proofs.YtnckpafknojdhaaDoor
open Go.RowKit
set_option maxRecDepth 100000 in
theorem l5Same_c (w0 : World) (a : A) (nx ac : Value) (hnx : Rows w0 41 3 nx a.next) (hac : Bools w0 4 ac a.acc) (hv : validA a = true) (cv : Value) (cs : List Int) (hcv : Ints w0 3 cv cs) (hcl : cs.length = a.next.length) (i j : Int) (hi : 0 ≤ i ∧ i < a.next.length) (hj : 0 ≤ j ∧ j < a.next.length) : Ret Tryd.prog 101 #[Value.agg #[Value.int .i64 a.al, nx, ac], cv, Value.int .i64 i, Value.int .i64 j] w0 (fun v w => v = .bool (decide (keyQ a cs i.toNat = keyQ a cs j.toNat)) ∧ Ext w0 w) := by
  have E := Ext.refl w0
  have hvs := validA_spec.1 hv
  have hv1 := hvs.2.1
  have hv2 := hvs.2.2.1
  have hki := keyQ_iff hv (cs := cs) (i := i.toNat) (j := j.toNat) (by omega) (by omega)
  refine Ret.of (args := [Value.agg #[Value.int .i64 a.al, nx, ac], cv, Value.int .i64 i, Value.int .i64 j]) Tryd.func101 rfl rfl rfl ?_
  rintro _ rfl
  show Cq _ _ _ _ [(0, Value.agg #[Value.int .i64 a.al, nx, ac]), (1, cv), (2, Value.int .i64 i), (3, Value.int .i64 j)] _
  refine Cq.seq ?_
  refine Cq.region ?_
  refine Sq.box .plain rfl rfl (fun b1 w2 e3 hB4 hlo5 => ?_)
  have hd6 := Nat.le_trans (Below.size E) hlo5
  have hs7 := Below.size e3
  replace E := E.trans e3
  refine Sq.assign .plain rfl rfl ?_
  refine Sq.nil ?_
  refine Eq.next ?_
  refine Cq.seq ?_
  refine Cq.seq ?_
  obtain ⟨pI, hpI⟩ := Ints.at hcv (i := i) (by omega) (by omega)
  obtain ⟨pJ, hpJ⟩ := Ints.at hcv (i := j) (by omega) (by omega)
  replace hpI := hpI.ext E
  replace hpJ := hpJ.ext E
  refine Cq.drawS 9 (fun w' => At w' 3 cv i pI (.int .i64 (cs.getD i.toNat 0)) ∧ At w' 3 cv j pJ (.int .i64 (cs.getD j.toNat 0))) mixed (⟨hpI, hpJ⟩) (fun w8 e9 hS => ?_)
  clear hS
  have hs10 := Below.size e9
  replace E := E.trans e9
  replace hB4 := hB4.ext e9
  replace hpI := hpI.ext e9
  replace hpJ := hpJ.ext e9
  refine Gq.st 0 rfl (by kernel_rfl) rfl .plain rfl (fun _ _ _ h => h) ⟨hpI, hpJ⟩ (fun w' x => Still.move rfl) ?_
  refine Gq.st 1 rfl (by kernel_rfl) rfl .plain rfl (fun _ _ _ h => h) ⟨hpI, hpJ⟩ (fun w' x => Still.move rfl) ?_
  refine Gq.st 2 rfl (by kernel_rfl) rfl .plain rfl (fun _ _ _ h => h) ⟨hpI, hpJ⟩ (fun w' x => Still.at' sl41 hpI rfl rfl) ?_
  refine Gq.st 3 rfl (by kernel_rfl) rfl .plain rfl (fun _ _ _ h => h) ⟨hpI, hpJ⟩ (fun w' x => Still.loadA one3 rfl (x.1).1) ?_
  refine Gq.st 4 rfl (by kernel_rfl) rfl .plain rfl (fun _ _ _ h => h) ⟨hpI, hpJ⟩ (fun w' x => Still.move rfl) ?_
  refine Gq.st 5 rfl (by kernel_rfl) rfl .plain rfl (fun _ _ _ h => h) ⟨hpI, hpJ⟩ (fun w' x => Still.move rfl) ?_
  refine Gq.st 6 rfl (by kernel_rfl) rfl .plain rfl (fun _ _ _ h => h) ⟨hpI, hpJ⟩ (fun w' x => Still.at' sl41 hpJ rfl rfl) ?_
  refine Gq.st 7 rfl (by kernel_rfl) rfl .plain rfl (fun _ _ _ h => h) ⟨hpI, hpJ⟩ (fun w' x => Still.loadA one3 rfl (x.2).1) ?_
  refine Gq.st 8 rfl (by kernel_rfl) rfl .plain rfl (fun _ _ _ h => h) ⟨hpI, hpJ⟩ (fun w' x => Still.neq rfl rfl) ?_
  refine Gq.part (fun h1 => ?_) (fun h1 => ?_)
  · refine Gq.done (by kernel_rfl) ?_
    refine Eq.next ?_
    refine Cq.thn rfl ?_
    refine Cq.seq ?_
    refine Cq.region ?_
    refine Sq.assign .plain rfl rfl ?_
    refine Sq.nil ?_
    refine Eq.next ?_
    refine Cq.ret ?_
    refine Eq.pastRet ?_
    refine Eq.ret1 rfl rfl ?_
    exact ⟨by rw [decide_eq_false (fun hc => h1 (hki.1 hc).1)], E⟩
  refine Gq.done (by kernel_rfl) ?_
  refine Eq.next ?_
  refine Cq.els rfl ?_
  refine Cq.skip ?_
  refine Eq.next ?_
  refine Cq.seq ?_
  refine Cq.seq ?_
  refine Cq.region ?_
  refine Sq.assign .plain rfl rfl ?_
  refine Sq.nil ?_
  refine Eq.next ?_
  refine Cq.block ?_
  refine Cq.loop (fun nn w ls => ∃ (k : Int), ls = [(1, cv), (2, Value.int .i64 i), (3, Value.int .i64 j), (4, Value.pointer (some ⟨b1, 0, none⟩)), (9, Value.int .i64 k)] ∧ (0 ≤ k ∧ k ≤ (a.next.getD i.toNat []).length) ∧ (∀ m, m < k.toNat → cs.getD ((a.next.getD i.toNat []).getD m 0).toNat 0 = cs.getD ((a.next.getD j.toNat []).getD m 0).toNat 0) ∧ Ext w0 w ∧ Blk w b1 25 [Value.int .i64 a.al, nx, ac] ∧ nn = (((a.next.getD i.toNat []).length : Int) - k).toNat) _ _ ⟨0, rfl, by omega, fun m hm => by omega, E, hB4, rfl⟩ (.cons rfl (.cons rfl (.cons rfl (.cons rfl (.cons rfl (.nil)))))) ?_
  rintro nn wl1 ls ⟨k, rfl, hk, hal, E, hB4, rfl⟩
  have hs11 := Below.size E
  have hrl0 := valid_row hv (k := i.toNat) (by omega)
  have hl6 := letters_len6 a.al
  refine Cq.seq ?_
  refine Cq.seq ?_
  refine Cq.region ?_
  refine Sq.move .plain rfl rfl ?_
  refine Sq.fieldAddr fld25_1 .plain rfl rfl ?_
  refine Sq.loadB one22 .plain rfl rfl hB4 rfl ?_
  refine Sq.move .plain rfl rfl ?_
  refine Sq.idxRows sl22 one41 (hnx.ext E) .plain rfl rfl rfl .plain rfl rfl (by omega) (by omega) (fun r12 hr13 => ?_)
  refine Sq.lenInts hr13 .plain rfl und41 rfl ?_
  refine Sq.lss .plain rfl rfl rfl ?_
  refine Sq.part (fun c14 => ?_) (fun c14 => ?_)
  · refine Sq.nil ?_
    refine Eq.next ?_
    refine Cq.thn rfl ?_
    refine Cq.skip ?_
    refine Eq.next ?_
    refine Cq.seq ?_
    refine Cq.block ?_
    refine Cq.seq ?_
    have ht1 := valid_at hv (k := i.toNat) (j := k.toNat) (by omega) (by omega)
    have hrl1 := valid_row hv (k := i.toNat) (by omega)
    have hrl2 := valid_row hv (k := j.toNat) (by omega)
    have ht2 := valid_at hv (k := j.toNat) (j := k.toNat) (by omega) (by omega)
    obtain ⟨pRX, rRX, hpRX, hrRX⟩ := Rows.at hnx (i := i) (by omega) (by omega)
    obtain ⟨pTX, hpTX⟩ := Ints.at hrRX (i := k) (by omega) (by omega)
    obtain ⟨pCX, hpCX⟩ := Ints.at hcv (i := ((a.next.getD i.toNat []).getD k.toNat 0)) (by omega) (by omega)
    replace hpRX := hpRX.ext E
    replace hpTX := hpTX.ext E
    replace hpCX := hpCX.ext E
    obtain ⟨pRY, rRY, hpRY, hrRY⟩ := Rows.at hnx (i := j) (by omega) (by omega)
    obtain ⟨pTY, hpTY⟩ := Ints.at hrRY (i := k) (by omega) (by omega)
    obtain ⟨pCY, hpCY⟩ := Ints.at hcv (i := ((a.next.getD j.toNat []).getD k.toNat 0)) (by omega) (by omega)
    replace hpRY := hpRY.ext E
    replace hpTY := hpTY.ext E
    replace hpCY := hpCY.ext E
    refine Cq.drawS 23 (fun w' => Blk w' b1 25 [Value.int .i64 a.al, nx, ac] ∧ At w' 41 nx i pRX rRX ∧ At w' 3 rRX k pTX (.int .i64 ((a.next.getD i.toNat []).getD k.toNat 0)) ∧ At w' 3 cv ((a.next.getD i.toNat []).getD k.toNat 0) pCX (.int .i64 (cs.getD ((a.next.getD i.toNat []).getD k.toNat 0).toNat 0)) ∧ At w' 41 nx j pRY rRY ∧ At w' 3 rRY k pTY (.int .i64 ((a.next.getD j.toNat []).getD k.toNat 0)) ∧ At w' 3 cv ((a.next.getD j.toNat []).getD k.toNat 0) pCY (.int .i64 (cs.getD ((a.next.getD j.toNat []).getD k.toNat 0).toNat 0))) mixed (⟨hB4, hpRX, hpTX, hpCX, hpRY, hpTY, hpCY⟩) (fun w15 e16 hS => ?_)
    clear hS
    have hs17 := Below.size e16
    replace E := E.trans e16
    replace hB4 := hB4.ext e16
    replace hpRX := hpRX.ext e16
    replace hpTX := hpTX.ext e16
    replace hpCX := hpCX.ext e16
    replace hpRY := hpRY.ext e16
    replace hpTY := hpTY.ext e16
    replace hpCY := hpCY.ext e16
    refine Gq.st 0 rfl (by kernel_rfl) rfl .plain rfl (fun _ _ _ h => h) ⟨hB4, hpRX, hpTX, hpCX, hpRY, hpTY, hpCY⟩ (fun w' x => Still.move rfl) ?_
    refine Gq.st 1 rfl (by kernel_rfl) rfl .plain rfl (fun _ _ _ h => h) ⟨hB4, hpRX, hpTX, hpCX, hpRY, hpTY, hpCY⟩ (fun w' x => Still.fieldAddr fld25_1 rfl) ?_
    refine Gq.st 2 rfl (by kernel_rfl) rfl .plain rfl (fun _ _ _ h => h) ⟨hB4, hpRX, hpTX, hpCX, hpRY, hpTY, hpCY⟩ (fun w' x => Still.loadB one22 rfl x.1 rfl) ?_
    refine Gq.st 3 rfl (by kernel_rfl) rfl .plain rfl (fun _ _ _ h => h) ⟨hB4, hpRX, hpTX, hpCX, hpRY, hpTY, hpCY⟩ (fun w' x => Still.move rfl) ?_
    refine Gq.st 4 rfl (by kernel_rfl) rfl .plain rfl (fun _ _ _ h => h) ⟨hB4, hpRX, hpTX, hpCX, hpRY, hpTY, hpCY⟩ (fun w' x => Still.at' sl22 hpRX rfl rfl) ?_
    refine Gq.st 5 rfl (by kernel_rfl) rfl .plain rfl (fun _ _ _ h => h) ⟨hB4, hpRX, hpTX, hpCX, hpRY, hpTY, hpCY⟩ (fun w' x => Still.loadA one41 rfl (x.2.1).1) ?_
    refine Gq.st 6 rfl (by kernel_rfl) rfl .plain rfl (fun _ _ _ h => h) ⟨hB4, hpRX, hpTX, hpCX, hpRY, hpTY, hpCY⟩ (fun w' x => Still.move rfl) ?_
    refine Gq.st 7 rfl (by kernel_rfl) rfl .plain rfl (fun _ _ _ h => h) ⟨hB4, hpRX, hpTX, hpCX, hpRY, hpTY, hpCY⟩ (fun w' x => Still.at' sl41 hpTX rfl rfl) ?_
    refine Gq.st 8 rfl (by kernel_rfl) rfl .plain rfl (fun _ _ _ h => h) ⟨hB4, hpRX, hpTX, hpCX, hpRY, hpTY, hpCY⟩ (fun w' x => Still.loadA one3 rfl (x.2.2.1).1) ?_
    refine Gq.st 9 rfl (by kernel_rfl) rfl .plain rfl (fun _ _ _ h => h) ⟨hB4, hpRX, hpTX, hpCX, hpRY, hpTY, hpCY⟩ (fun w' x => Still.at' sl41 hpCX rfl rfl) ?_
    refine Gq.st 10 rfl (by kernel_rfl) rfl .plain rfl (fun _ _ _ h => h) ⟨hB4, hpRX, hpTX, hpCX, hpRY, hpTY, hpCY⟩ (fun w' x => Still.loadA one3 rfl (x.2.2.2.1).1) ?_
    refine Gq.st 11 rfl (by kernel_rfl) rfl .plain rfl (fun _ _ _ h => h) ⟨hB4, hpRX, hpTX, hpCX, hpRY, hpTY, hpCY⟩ (fun w' x => Still.move rfl) ?_
    refine Gq.st 12 rfl (by kernel_rfl) rfl .plain rfl (fun _ _ _ h => h) ⟨hB4, hpRX, hpTX, hpCX, hpRY, hpTY, hpCY⟩ (fun w' x => Still.fieldAddr fld25_1 rfl) ?_
    refine Gq.st 13 rfl (by kernel_rfl) rfl .plain rfl (fun _ _ _ h => h) ⟨hB4, hpRX, hpTX, hpCX, hpRY, hpTY, hpCY⟩ (fun w' x => Still.loadB one22 rfl x.1 rfl) ?_
    refine Gq.st 14 rfl (by kernel_rfl) rfl .plain rfl (fun _ _ _ h => h) ⟨hB4, hpRX, hpTX, hpCX, hpRY, hpTY, hpCY⟩ (fun w' x => Still.move rfl) ?_
    refine Gq.st 15 rfl (by kernel_rfl) rfl .plain rfl (fun _ _ _ h => h) ⟨hB4, hpRX, hpTX, hpCX, hpRY, hpTY, hpCY⟩ (fun w' x => Still.at' sl22 hpRY rfl rfl) ?_
    refine Gq.st 16 rfl (by kernel_rfl) rfl .plain rfl (fun _ _ _ h => h) ⟨hB4, hpRX, hpTX, hpCX, hpRY, hpTY, hpCY⟩ (fun w' x => Still.loadA one41 rfl (x.2.2.2.2.1).1) ?_
    refine Gq.st 17 rfl (by kernel_rfl) rfl .plain rfl (fun _ _ _ h => h) ⟨hB4, hpRX, hpTX, hpCX, hpRY, hpTY, hpCY⟩ (fun w' x => Still.move rfl) ?_
    refine Gq.st 18 rfl (by kernel_rfl) rfl .plain rfl (fun _ _ _ h => h) ⟨hB4, hpRX, hpTX, hpCX, hpRY, hpTY, hpCY⟩ (fun w' x => Still.at' sl41 hpTY rfl rfl) ?_
    refine Gq.st 19 rfl (by kernel_rfl) rfl .plain rfl (fun _ _ _ h => h) ⟨hB4, hpRX, hpTX, hpCX, hpRY, hpTY, hpCY⟩ (fun w' x => Still.loadA one3 rfl (x.2.2.2.2.2.1).1) ?_
    refine Gq.st 20 rfl (by kernel_rfl) rfl .plain rfl (fun _ _ _ h => h) ⟨hB4, hpRX, hpTX, hpCX, hpRY, hpTY, hpCY⟩ (fun w' x => Still.at' sl41 hpCY rfl rfl) ?_
    refine Gq.st 21 rfl (by kernel_rfl) rfl .plain rfl (fun _ _ _ h => h) ⟨hB4, hpRX, hpTX, hpCX, hpRY, hpTY, hpCY⟩ (fun w' x => Still.loadA one3 rfl (x.2.2.2.2.2.2).1) ?_
    refine Gq.st 22 rfl (by kernel_rfl) rfl .plain rfl (fun _ _ _ h => h) ⟨hB4, hpRX, hpTX, hpCX, hpRY, hpTY, hpCY⟩ (fun w' x => Still.neq rfl rfl) ?_
    refine Gq.part (fun h2 => ?_) (fun h2 => ?_)
    · refine Gq.done (by kernel_rfl) ?_
      refine Eq.next ?_
      refine Cq.thn rfl ?_
      refine Cq.seq ?_
      refine Cq.region ?_
      refine Sq.assign .plain rfl rfl ?_
      refine Sq.nil ?_
      refine Eq.next ?_
      refine Cq.ret ?_
      refine Eq.outRet ?_
      refine Eq.pastRet ?_
      refine Eq.pastRet ?_
      refine Eq.outRet ?_
      refine Eq.pastRet ?_
      refine Eq.ret1 rfl rfl ?_
      exact ⟨by rw [decide_eq_false (fun hc => h2 ((hki.1 hc).2 k.toNat (by omega)))], E⟩
    refine Gq.done (by kernel_rfl) ?_
    refine Eq.next ?_
    refine Cq.els rfl ?_
    refine Cq.skip ?_
    refine Eq.end ?_
    refine Eq.next ?_
    refine Cq.region ?_
    refine Sq.move .plain rfl rfl ?_
    refine Sq.add .plain rfl rfl rfl (by omega) ?_
    refine Sq.assign .plain rfl rfl ?_
    refine Sq.nil ?_
    have e1 := toNat_succ hk.1
    refine Eq.round _ _ ⟨k + 1, rfl, by omega, fun m hm => by rcases Nat.lt_or_ge m k.toNat with h | h; exact hal m h; rw [show m = k.toNat by omega]; exact Classical.not_not.1 h2, E, hB4, rfl⟩ (by omega) (.cons rfl (.cons rfl (.cons rfl (.cons rfl (.cons rfl (.nil))))))
  refine Sq.nil ?_
  refine Eq.next ?_
  refine Cq.els rfl ?_
  refine Cq.exit ?_
  refine Eq.past ?_
  refine Eq.past ?_
  refine Eq.hit ?_
  refine Eq.next ?_
  refine Cq.seq ?_
  refine Cq.region ?_
  refine Sq.assign .plain rfl rfl ?_
  refine Sq.nil ?_
  refine Eq.next ?_
  refine Cq.ret ?_
  refine Eq.ret1 rfl rfl ?_
  exact ⟨by rw [decide_eq_true (hki.2 ⟨Classical.not_not.1 h1, fun m hm => hal m (by omega)⟩)], E⟩
set_option maxRecDepth 100000 in
theorem l5Refine_c (w0 : World) (a : A) (nx ac : Value) (hnx : Rows w0 41 3 nx a.next) (hac : Bools w0 4 ac a.acc) (hv : validA a = true) (cv : Value) (cs : List Int) (hcv : Ints w0 3 cv cs) (hcl : cs.length = a.next.length) : Ret Tryd.prog 80 #[Value.agg #[Value.int .i64 a.al, nx, ac], cv] w0 (fun v w => (∃ nv, v = .tuple #[nv, .int .i64 ((dd (keys a cs)).length : Int)] ∧ Own w w0.heap.size 3 nv ((refine' a cs).map (Value.int .i64))) ∧ Ext w0 w) := by
  have E := Ext.refl w0
  have hvs := validA_spec.1 hv
  have hv1 := hvs.2.1
  have hv2 := hvs.2.2.1
  have hrl := ref_length (a := a) cs
  refine Ret.of (args := [Value.agg #[Value.int .i64 a.al, nx, ac], cv]) Tryd.func80 rfl rfl rfl ?_
  rintro _ rfl
  show Cq _ _ _ _ [(0, Value.agg #[Value.int .i64 a.al, nx, ac]), (1, cv)] _
  refine Cq.seq ?_
  refine Cq.region ?_
  refine Sq.box .plain rfl rfl (fun b1 w2 e3 hB4 hlo5 => ?_)
  have hd6 := Nat.le_trans (Below.size E) hlo5
  have hs7 := Below.size e3
  replace E := E.trans e3
  refine Sq.assign .plain rfl rfl ?_
  refine Sq.assign .plain rfl rfl ?_
  refine Sq.nil ?_
  refine Eq.next ?_
  refine Cq.seq ?_
  refine Cq.region ?_
  refine Sq.lit sl41 rfl rfl .plain rfl rfl one_nil (fun b8 w9 e10 hlo11 ho12 _ => ?_)
  replace ho12 := ho12 w2.heap.size (Nat.le_refl _)
  have hs14 := Below.size e10
  replace E := E.trans e10
  replace hB4 := hB4.ext e10
  refine Sq.assign .plain rfl rfl ?_
  refine Sq.nil ?_
  refine Eq.next ?_
  refine Cq.seq ?_
  refine Cq.region ?_
  refine Sq.assign .plain rfl rfl ?_
  refine Sq.nil ?_
  refine Eq.next ?_
  refine Cq.seq ?_
  refine Cq.seq ?_
  refine Cq.region ?_
  refine Sq.assign .plain rfl rfl ?_
  refine Sq.nil ?_
  refine Eq.next ?_
  refine Cq.block ?_
  refine Cq.loop (fun nn w ls => ∃ (i : Int), ∃ (c : Int), ∃ (nv : Value), ls = [(1, cv), (2, Value.pointer (some ⟨b1, 0, none⟩)), (6, nv), (7, Value.int .i64 c), (8, Value.int .i64 i)] ∧ (0 ≤ i ∧ i ≤ a.next.length) ∧ c = (cntK a cs i.toNat : Int) ∧ Own w w0.heap.size 3 nv (((refine' a cs).take i.toNat).map (Value.int .i64)) ∧ Ext w0 w ∧ Blk w b1 25 [Value.int .i64 a.al, nx, ac] ∧ nn = ((a.next.length : Int) - i).toNat) _ _ ⟨0, 0, _, rfl, by omega, rfl, by exact Own.mono ho12 (by omega), E, hB4, rfl⟩ (.cons rfl (.cons rfl (.cons rfl (.cons rfl (.cons rfl (.nil)))))) ?_
  rintro nn wl1 ls ⟨i, c, nv, rfl, hi, hc, hn0, E, hB4, rfl⟩
  have hs15 := Below.size E
  have hcb := cntK_le (a := a) cs i.toNat
  have htl : ((refine' a cs).take i.toNat).length = i.toNat := by rw [List.length_take]; omega
  refine Cq.seq ?_
  refine Cq.seq ?_
  refine Cq.region ?_
  refine Sq.move .plain rfl rfl ?_
  refine Sq.move .plain rfl rfl ?_
  refine Sq.lenInts (hcv.ext E) .plain rfl und41 rfl ?_
  refine Sq.lss .plain rfl rfl rfl ?_
  refine Sq.part (fun c16 => ?_) (fun c16 => ?_)
  · refine Sq.nil ?_
    refine Eq.next ?_
    refine Cq.thn rfl ?_
    refine Cq.skip ?_
    refine Eq.next ?_
    refine Cq.seq ?_
    refine Cq.block ?_
    refine Cq.seq ?_
    refine Cq.region ?_
    refine Sq.assign .plain rfl rfl ?_
    refine Sq.nil ?_
    refine Eq.next ?_
    refine Cq.seq ?_
    refine Cq.seq ?_
    refine Cq.region ?_
    refine Sq.assign .plain rfl rfl ?_
    refine Sq.nil ?_
    refine Eq.next ?_
    refine Cq.block ?_
    refine Cq.loop (fun nn w ls => ∃ (j : Int), ∃ (id : Int), ls = [(1, cv), (2, Value.pointer (some ⟨b1, 0, none⟩)), (6, nv), (7, Value.int .i64 c), (8, Value.int .i64 i), (9, Value.int .i64 id), (10, Value.int .i64 j)] ∧ (0 ≤ j ∧ j ≤ i) ∧ ((id = -1 ∧ ∀ m, m < j.toNat → keyQ a cs i.toNat ≠ keyQ a cs m) ∨ (id = (refine' a cs).getD i.toNat 0 ∧ ∃ m, m < i.toNat ∧ keyQ a cs i.toNat = keyQ a cs m)) ∧ Ext w0 w ∧ Blk w b1 25 [Value.int .i64 a.al, nx, ac] ∧ Own w w0.heap.size 3 nv (((refine' a cs).take i.toNat).map (Value.int .i64)) ∧ nn = (i - j).toNat) _ _ ⟨0, -1, rfl, by omega, .inl ⟨rfl, fun m hm => by omega⟩, E, hB4, hn0, rfl⟩ (.cons rfl (.cons rfl (.cons rfl (.cons rfl (.cons rfl (.cons rfl (.cons rfl (.nil)))))))) ?_
    rintro nn wl2 ls ⟨j, id, rfl, hj, hid, E, hB4, hn0, rfl⟩
    have hs17 := Below.size E
    have hri : 0 ≤ (refine' a cs).getD i.toNat 0 := by rw [ref_at (by omega)]; exact Int.natCast_nonneg _
    refine Cq.seq ?_
    refine Cq.seq ?_
    refine Cq.region ?_
    refine Sq.move .plain rfl rfl ?_
    refine Sq.move .plain rfl rfl ?_
    refine Sq.lss .plain rfl rfl rfl ?_
    refine Sq.part (fun hjl => ?_) (fun hjl => ?_)
    · refine Sq.move .plain rfl rfl ?_
      refine Sq.move (.met rfl rfl rfl) rfl rfl ?_
      refine Sq.lss (.met rfl rfl rfl) rfl rfl rfl ?_
      refine Sq.part (fun hn => ?_) (fun hn => ?_)
      · refine Sq.pickT .plain rfl rfl rfl ?_
        refine Sq.nil ?_
        refine Eq.next ?_
        refine Cq.thn rfl ?_
        refine Cq.skip ?_
        refine Eq.next ?_
        refine Cq.seq ?_
        refine Cq.block ?_
        refine Cq.seq ?_
        refine Cq.region ?_
        refine Sq.loadAgg agg25 .plain rfl rfl hB4 rfl ?_
        refine Sq.move .plain rfl rfl ?_
        refine Sq.move .plain rfl rfl ?_
        refine Sq.move .plain rfl rfl ?_
        have hd21 := hB4.lt
        refine Sq.call fn101 .plain rfl rfl (l5Same_c _ a _ _ (hnx.ext E) (hac.ext E) hv cv cs (hcv.ext E) (by omega) i j (by omega) (by omega)) ?_
        rintro _ w19 ⟨rfl, e20⟩
        have hs22 := Below.size E
        have hs23 := Below.size e20
        replace E := E.trans e20
        replace hB4 := hB4.ext e20
        replace hn0 := hn0.ext e20
        refine Sq.partB (fun hsm => ?_) (fun hsm => ?_)
        · refine Sq.nil ?_
          refine Eq.next ?_
          refine Cq.thn rfl ?_
          refine Cq.region ?_
          refine Sq.move .plain rfl rfl ?_
          refine Sq.move .plain rfl rfl ?_
          refine Sq.idxInts sl41 one3 (Own.row hn0) .plain rfl rfl rfl .plain rfl rfl (by omega) (by omega) ?_
          refine Sq.assign .plain rfl rfl ?_
          refine Sq.nil ?_
          refine Eq.end ?_
          refine Eq.next ?_
          refine Cq.region ?_
          refine Sq.move .plain rfl rfl ?_
          refine Sq.add .plain rfl rfl rfl (by omega) ?_
          refine Sq.assign .plain rfl rfl ?_
          refine Sq.nil ?_
          have e2 := toNat_succ hj.1
          refine Eq.round _ _ ⟨j + 1, _, rfl, by omega, .inr ⟨by rw [getD_take (by omega)]; exact (ref_old (a := a) (cs := cs) (i := i.toNat) (m := j.toNat) (by omega) (by omega) (of_decide_eq_true hsm)).1, j.toNat, by omega, of_decide_eq_true hsm⟩, E, hB4, hn0, rfl⟩ (by omega) (.cons rfl (.cons rfl (.cons rfl (.cons rfl (.cons rfl (.cons rfl (.cons rfl (.nil))))))))
        refine Sq.nil ?_
        refine Eq.next ?_
        refine Cq.els rfl ?_
        refine Cq.skip ?_
        refine Eq.end ?_
        refine Eq.next ?_
        refine Cq.region ?_
        refine Sq.move .plain rfl rfl ?_
        refine Sq.add .plain rfl rfl rfl (by omega) ?_
        refine Sq.assign .plain rfl rfl ?_
        refine Sq.nil ?_
        have e2 := toNat_succ hj.1
        refine Eq.round _ _ ⟨j + 1, _, rfl, by omega, .inl ⟨(hid.resolve_right (fun hc2 => by omega)).1, fun m hm => by rcases Nat.lt_or_ge m j.toNat with h | h; exact (hid.resolve_right (fun hc2 => by omega)).2 m h; rw [show m = j.toNat by omega]; exact of_decide_eq_false hsm⟩, E, hB4, hn0, rfl⟩ (by omega) (.cons rfl (.cons rfl (.cons rfl (.cons rfl (.cons rfl (.cons rfl (.cons rfl (.nil))))))))
      refine Sq.pickT .plain rfl rfl rfl ?_
      refine Sq.nil ?_
      refine Eq.next ?_
      refine Cq.els rfl ?_
      refine Cq.exit ?_
      refine Eq.past ?_
      refine Eq.past ?_
      refine Eq.hit ?_
      refine Eq.next ?_
      refine Cq.seq ?_
      refine Cq.seq ?_
      refine Cq.region ?_
      refine Sq.move .plain rfl rfl ?_
      refine Sq.lss .plain rfl rfl rfl ?_
      refine Sq.part (fun hneg => ?_) (fun hneg => ?_)
      · refine Sq.nil ?_
        refine Eq.next ?_
        refine Cq.thn rfl ?_
        refine Cq.seq ?_
        refine Cq.region ?_
        refine Sq.move .plain rfl rfl ?_
        refine Sq.assign .plain rfl rfl ?_
        refine Sq.nil ?_
        refine Eq.next ?_
        refine Cq.region ?_
        refine Sq.move .plain rfl rfl ?_
        refine Sq.add .plain rfl rfl rfl (by omega) ?_
        refine Sq.assign .plain rfl rfl ?_
        refine Sq.nil ?_
        refine Eq.next ?_
        refine Cq.region ?_
        refine Sq.move .plain rfl rfl ?_
        refine Sq.move .plain rfl rfl ?_
        refine Sq.app1 sl41 hn0 (by omega) (by first | omega | (simp; omega)) .plain rfl rfl rfl rfl rfl rfl rfl (fun v24 w25 ho27 g26 _ => ?_)
        have hs28 := g26.size
        replace E := E.owned hn0 g26 (by omega)
        replace hB4 := hB4.owned hn0 g26 (by decide)
        refine Sq.assign .plain rfl rfl ?_
        refine Sq.nil ?_
        refine Eq.end ?_
        refine Eq.next ?_
        refine Cq.region ?_
        refine Sq.move .plain rfl rfl ?_
        refine Sq.add .plain rfl rfl rfl (by omega) ?_
        refine Sq.assign .plain rfl rfl ?_
        refine Sq.nil ?_
        have e1 := toNat_succ hi.1
        have hrn := ref_new (a := a) (cs := cs) (i := i.toNat) (by omega) (fun m hm => (hid.resolve_right (by omega)).2 m (by omega))
        refine Eq.round _ _ ⟨i + 1, _, _, rfl, by omega, by rw [e1, hrn.2]; omega, by rw [e1, take_snoc (d := 0) (by omega), hrn.1, ← hc]; exact Own.snocI ho27, E, hB4, rfl⟩ (by omega) (.cons rfl (.cons rfl (.cons rfl (.cons rfl (.cons rfl (.nil))))))
      refine Sq.nil ?_
      refine Eq.next ?_
      refine Cq.els rfl ?_
      refine Cq.skip ?_
      refine Eq.next ?_
      refine Cq.region ?_
      refine Sq.move .plain rfl rfl ?_
      refine Sq.move .plain rfl rfl ?_
      refine Sq.app1 sl41 hn0 (by omega) (by first | omega | (simp; omega)) .plain rfl rfl rfl rfl rfl rfl rfl (fun v29 w30 ho32 g31 _ => ?_)
      have hs33 := g31.size
      replace E := E.owned hn0 g31 (by omega)
      replace hB4 := hB4.owned hn0 g31 (by decide)
      refine Sq.assign .plain rfl rfl ?_
      refine Sq.nil ?_
      refine Eq.end ?_
      refine Eq.next ?_
      refine Cq.region ?_
      refine Sq.move .plain rfl rfl ?_
      refine Sq.add .plain rfl rfl rfl (by omega) ?_
      refine Sq.assign .plain rfl rfl ?_
      refine Sq.nil ?_
      have e1 := toNat_succ hi.1
      obtain ⟨hid1, m, hm1, hm2⟩ := (hid.resolve_left (by omega))
      have hro := ref_old (a := a) (cs := cs) (i := i.toNat) (by omega) hm1 hm2
      refine Eq.round _ _ ⟨i + 1, _, _, rfl, by omega, by rw [e1, hro.2]; exact hc, by rw [e1, take_snoc (d := 0) (by omega), ← hid1]; exact Own.snocI ho32, E, hB4, rfl⟩ (by omega) (.cons rfl (.cons rfl (.cons rfl (.cons rfl (.cons rfl (.nil))))))
    refine Sq.move .plain rfl rfl ?_
    refine Sq.off rfl rfl rfl rfl rfl rfl ?_
    refine Sq.off rfl rfl rfl rfl rfl rfl ?_
    refine Sq.pickF .plain rfl rfl rfl ?_
    refine Sq.nil ?_
    refine Eq.next ?_
    refine Cq.els rfl ?_
    refine Cq.exit ?_
    refine Eq.past ?_
    refine Eq.past ?_
    refine Eq.hit ?_
    refine Eq.next ?_
    refine Cq.seq ?_
    refine Cq.seq ?_
    refine Cq.region ?_
    refine Sq.move .plain rfl rfl ?_
    refine Sq.lss .plain rfl rfl rfl ?_
    refine Sq.part (fun hneg => ?_) (fun hneg => ?_)
    · refine Sq.nil ?_
      refine Eq.next ?_
      refine Cq.thn rfl ?_
      refine Cq.seq ?_
      refine Cq.region ?_
      refine Sq.move .plain rfl rfl ?_
      refine Sq.assign .plain rfl rfl ?_
      refine Sq.nil ?_
      refine Eq.next ?_
      refine Cq.region ?_
      refine Sq.move .plain rfl rfl ?_
      refine Sq.add .plain rfl rfl rfl (by omega) ?_
      refine Sq.assign .plain rfl rfl ?_
      refine Sq.nil ?_
      refine Eq.next ?_
      refine Cq.region ?_
      refine Sq.move .plain rfl rfl ?_
      refine Sq.move .plain rfl rfl ?_
      refine Sq.app1 sl41 hn0 (by omega) (by first | omega | (simp; omega)) .plain rfl rfl rfl rfl rfl rfl rfl (fun v34 w35 ho37 g36 _ => ?_)
      have hs38 := g36.size
      replace E := E.owned hn0 g36 (by omega)
      replace hB4 := hB4.owned hn0 g36 (by decide)
      refine Sq.assign .plain rfl rfl ?_
      refine Sq.nil ?_
      refine Eq.end ?_
      refine Eq.next ?_
      refine Cq.region ?_
      refine Sq.move .plain rfl rfl ?_
      refine Sq.add .plain rfl rfl rfl (by omega) ?_
      refine Sq.assign .plain rfl rfl ?_
      refine Sq.nil ?_
      have e1 := toNat_succ hi.1
      have hrn := ref_new (a := a) (cs := cs) (i := i.toNat) (by omega) (fun m hm => (hid.resolve_right (by omega)).2 m (by omega))
      refine Eq.round _ _ ⟨i + 1, _, _, rfl, by omega, by rw [e1, hrn.2]; omega, by rw [e1, take_snoc (d := 0) (by omega), hrn.1, ← hc]; exact Own.snocI ho37, E, hB4, rfl⟩ (by omega) (.cons rfl (.cons rfl (.cons rfl (.cons rfl (.cons rfl (.nil))))))
    refine Sq.nil ?_
    refine Eq.next ?_
    refine Cq.els rfl ?_
    refine Cq.skip ?_
    refine Eq.next ?_
    refine Cq.region ?_
    refine Sq.move .plain rfl rfl ?_
    refine Sq.move .plain rfl rfl ?_
    refine Sq.app1 sl41 hn0 (by omega) (by first | omega | (simp; omega)) .plain rfl rfl rfl rfl rfl rfl rfl (fun v39 w40 ho42 g41 _ => ?_)
    have hs43 := g41.size
    replace E := E.owned hn0 g41 (by omega)
    replace hB4 := hB4.owned hn0 g41 (by decide)
    refine Sq.assign .plain rfl rfl ?_
    refine Sq.nil ?_
    refine Eq.end ?_
    refine Eq.next ?_
    refine Cq.region ?_
    refine Sq.move .plain rfl rfl ?_
    refine Sq.add .plain rfl rfl rfl (by omega) ?_
    refine Sq.assign .plain rfl rfl ?_
    refine Sq.nil ?_
    have e1 := toNat_succ hi.1
    obtain ⟨hid1, m, hm1, hm2⟩ := (hid.resolve_left (by omega))
    have hro := ref_old (a := a) (cs := cs) (i := i.toNat) (by omega) hm1 hm2
    refine Eq.round _ _ ⟨i + 1, _, _, rfl, by omega, by rw [e1, hro.2]; exact hc, by rw [e1, take_snoc (d := 0) (by omega), ← hid1]; exact Own.snocI ho42, E, hB4, rfl⟩ (by omega) (.cons rfl (.cons rfl (.cons rfl (.cons rfl (.cons rfl (.nil))))))
  refine Sq.nil ?_
  refine Eq.next ?_
  refine Cq.els rfl ?_
  refine Cq.exit ?_
  refine Eq.past ?_
  refine Eq.past ?_
  refine Eq.hit ?_
  refine Eq.next ?_
  refine Cq.seq ?_
  refine Cq.region ?_
  refine Sq.move .plain rfl rfl ?_
  refine Sq.move .plain rfl rfl ?_
  refine Sq.assign .plain rfl rfl ?_
  refine Sq.assign .plain rfl rfl ?_
  refine Sq.nil ?_
  refine Eq.next ?_
  refine Cq.ret ?_
  refine Eq.ret2 rfl rfl rfl ?_
  exact ⟨⟨_, by rw [hc, cntK_all _ (by omega)], by rw [← List.take_of_length_le (l := (refine' a cs)) (i := i.toNat) (by omega)]; exact hn0⟩, E⟩
end Go.Proofs.YtnckpafknojdhaaDoor
set_option linter.unusedSimpArgs false
set_option linter.unusedVariables false
namespace Go.Proofs.YtnckpafknojdhaaDoor
open Go.RowKit
set_option maxRecDepth 100000 in
theorem l5Classes_c (w0 : World) (a : A) (nx ac : Value) (hnx : Rows w0 41 3 nx a.next) (hac : Bools w0 4 ac a.acc) (hv : validA a = true) : Ret Tryd.prog 64 #[Value.agg #[Value.int .i64 a.al, nx, ac]] w0 (fun v w => (∃ nv, v = .tuple #[nv, .int .i64 (nCls a : Int)] ∧ Own w w0.heap.size 3 nv ((classes a).map (Value.int .i64))) ∧ Ext w0 w) := by
  have E := Ext.refl w0
  have hvs := validA_spec.1 hv
  have hv1 := hvs.2.1
  have hv2 := hvs.2.2.1
  refine Ret.of (args := [Value.agg #[Value.int .i64 a.al, nx, ac]]) Tryd.func64 rfl rfl rfl ?_
  rintro _ rfl
  show Cq _ _ _ _ [(0, Value.agg #[Value.int .i64 a.al, nx, ac])] _
  refine Cq.seq ?_
  refine Cq.region ?_
  refine Sq.box .plain rfl rfl (fun b1 w2 e3 hB4 hlo5 => ?_)
  have hd6 := Nat.le_trans (Below.size E) hlo5
  have hs7 := Below.size e3
  replace E := E.trans e3
  refine Sq.assign .plain rfl rfl ?_
  refine Sq.assign .plain rfl rfl ?_
  refine Sq.nil ?_
  refine Eq.next ?_
  refine Cq.seq ?_
  refine Cq.region ?_
  refine Sq.lit sl41 rfl rfl .plain rfl rfl one_nil (fun b8 w9 e10 hlo11 ho12 _ => ?_)
  replace ho12 := ho12 w2.heap.size (Nat.le_refl _)
  have hs14 := Below.size e10
  replace E := E.trans e10
  replace hB4 := hB4.ext e10
  refine Sq.assign .plain rfl rfl ?_
  refine Sq.nil ?_
  refine Eq.next ?_
  refine Cq.seq ?_
  refine Cq.seq ?_
  refine Cq.region ?_
  refine Sq.assign .plain rfl rfl ?_
  refine Sq.nil ?_
  refine Eq.next ?_
  refine Cq.block ?_
  refine Cq.loop (fun nn w ls => ∃ (k : Int), ∃ (cv : Value), ls = [(1, Value.pointer (some ⟨b1, 0, none⟩)), (2, Value.slice none 0 0), (3, Value.int .i64 0), (4, cv), (5, Value.int .i64 k)] ∧ (0 ≤ k ∧ k ≤ a.next.length) ∧ Own w w0.heap.size 3 cv (((cls0 a).take k.toNat).map (Value.int .i64)) ∧ Ext w0 w ∧ Blk w b1 25 [Value.int .i64 a.al, nx, ac] ∧ nn = ((a.next.length : Int) - k).toNat) _ _ ⟨0, _, rfl, by omega, by exact Own.mono ho12 (by omega), E, hB4, rfl⟩ (.cons rfl (.cons rfl (.cons rfl (.cons rfl (.cons rfl (.nil)))))) ?_
  rintro nn wl1 ls ⟨k, cv, rfl, hk, hc0, E, hB4, rfl⟩
  have hs15 := Below.size E
  have hzl := cls0_length (a := a)
  have htl : ((cls0 a).take k.toNat).length = k.toNat := by rw [List.length_take]; omega
  refine Cq.seq ?_
  refine Cq.seq ?_
  refine Cq.region ?_
  refine Sq.move .plain rfl rfl ?_
  refine Sq.fieldAddr fld25_2 .plain rfl rfl ?_
  refine Sq.loadB one23 .plain rfl rfl hB4 rfl ?_
  refine Sq.lenBools (hac.ext E) .plain rfl und23 rfl ?_
  refine Sq.lss .plain rfl rfl rfl ?_
  refine Sq.part (fun c16 => ?_) (fun c16 => ?_)
  · refine Sq.nil ?_
    refine Eq.next ?_
    refine Cq.thn rfl ?_
    refine Cq.skip ?_
    refine Eq.next ?_
    refine Cq.seq ?_
    refine Cq.block ?_
    refine Cq.seq ?_
    refine Cq.region ?_
    refine Sq.assign .plain rfl rfl ?_
    refine Sq.nil ?_
    refine Eq.next ?_
    refine Cq.seq ?_
    refine Cq.seq ?_
    refine Cq.region ?_
    refine Sq.fieldAddr fld25_2 .plain rfl rfl ?_
    refine Sq.loadB one23 .plain rfl rfl hB4 rfl ?_
    refine Sq.move .plain rfl rfl ?_
    refine Sq.idxBools sl23 one4 (hac.ext E) .plain rfl rfl rfl .plain rfl rfl (by omega) (by omega) ?_
    refine Sq.partB (fun hac => ?_) (fun hac => ?_)
    · refine Sq.nil ?_
      refine Eq.next ?_
      refine Cq.thn rfl ?_
      refine Cq.region ?_
      refine Sq.assign .plain rfl rfl ?_
      refine Sq.nil ?_
      refine Eq.next ?_
      refine Cq.region ?_
      refine Sq.move .plain rfl rfl ?_
      refine Sq.move .plain rfl rfl ?_
      refine Sq.app1 sl41 hc0 (by omega) (by first | omega | (simp; omega)) .plain rfl rfl rfl rfl rfl rfl rfl (fun v17 w18 ho20 g19 _ => ?_)
      have hs21 := g19.size
      replace E := E.owned hc0 g19 (by omega)
      replace hB4 := hB4.owned hc0 g19 (by decide)
      refine Sq.assign .plain rfl rfl ?_
      refine Sq.nil ?_
      refine Eq.end ?_
      refine Eq.next ?_
      refine Cq.region ?_
      refine Sq.move .plain rfl rfl ?_
      refine Sq.add .plain rfl rfl rfl (by omega) ?_
      refine Sq.assign .plain rfl rfl ?_
      refine Sq.nil ?_
      have e1 := toNat_succ hk.1
      refine Eq.round _ _ ⟨k + 1, _, rfl, by omega, by rw [e1, take_snoc (d := 0) (by omega), cls0_at (by omega), if_pos hac]; exact Own.snocI ho20, E, hB4, rfl⟩ (by omega) (.cons rfl (.cons rfl (.cons rfl (.cons rfl (.cons rfl (.nil))))))
    refine Sq.nil ?_
    refine Eq.next ?_
    refine Cq.els rfl ?_
    refine Cq.skip ?_
    refine Eq.next ?_
    refine Cq.region ?_
    refine Sq.move .plain rfl rfl ?_
    refine Sq.move .plain rfl rfl ?_
    refine Sq.app1 sl41 hc0 (by omega) (by first | omega | (simp; omega)) .plain rfl rfl rfl rfl rfl rfl rfl (fun v22 w23 ho25 g24 _ => ?_)
    have hs26 := g24.size
    replace E := E.owned hc0 g24 (by omega)
    replace hB4 := hB4.owned hc0 g24 (by decide)
    refine Sq.assign .plain rfl rfl ?_
    refine Sq.nil ?_
    refine Eq.end ?_
    refine Eq.next ?_
    refine Cq.region ?_
    refine Sq.move .plain rfl rfl ?_
    refine Sq.add .plain rfl rfl rfl (by omega) ?_
    refine Sq.assign .plain rfl rfl ?_
    refine Sq.nil ?_
    have e1 := toNat_succ hk.1
    refine Eq.round _ _ ⟨k + 1, _, rfl, by omega, by rw [e1, take_snoc (d := 0) (by omega), cls0_at (by omega), if_neg (by rw [hac]; decide)]; exact Own.snocI ho25, E, hB4, rfl⟩ (by omega) (.cons rfl (.cons rfl (.cons rfl (.cons rfl (.cons rfl (.nil))))))
  refine Sq.nil ?_
  refine Eq.next ?_
  refine Cq.els rfl ?_
  refine Cq.exit ?_
  refine Eq.past ?_
  refine Eq.past ?_
  refine Eq.hit ?_
  refine Eq.next ?_
  refine Cq.seq ?_
  refine Cq.region ?_
  rw [List.take_of_length_le (by rw [cls0_length]; omega), show cls0 a = clsN a 0 from rfl] at hc0
  have hcl0 := clsN_length hv 0
  refine Sq.assign .plain rfl rfl ?_
  refine Sq.nil ?_
  refine Eq.next ?_
  refine Cq.seq ?_
  refine Cq.region ?_
  refine Sq.loadAgg agg25 .plain rfl rfl hB4 rfl ?_
  refine Sq.move .plain rfl rfl ?_
  have hd32 := hB4.lt
  refine Sq.call fn80 .plain rfl rfl (l5Refine_c _ a _ _ (hnx.ext E) (hac.ext E) hv cv (clsN a 0) (Own.row hc0) (by omega)) ?_
  rintro _ w28 ⟨⟨nv30, rfl, hl31⟩, e29⟩
  have hs33 := Below.size E
  have hs34 := Below.size e29
  replace E := E.trans e29
  replace hB4 := hB4.ext e29
  refine Sq.move .plain rfl rfl ?_
  refine Sq.extract .plain rfl rfl rfl ?_
  refine Sq.extract .plain rfl rfl rfl ?_
  refine Sq.assign .plain rfl rfl ?_
  refine Sq.assign .plain rfl rfl ?_
  refine Sq.nil ?_
  refine Eq.next ?_
  refine Cq.seq ?_
  refine Cq.block ?_
  refine Cq.loop (fun nn w ls => ∃ (r : Nat), ∃ (cv2 : Value), ∃ (p : Int), ∃ (m : Int), ls = [(1, Value.pointer (some ⟨b1, 0, none⟩)), (2, Value.slice none 0 0), (3, Value.int .i64 0), (4, cv2), (7, Value.int .i64 p), (8, Value.int .i64 m)] ∧ p = (mN a r : Int) ∧ m = (mN a (r + 1) : Int) ∧ Own w w0.heap.size 3 cv2 ((clsN a (r + 1)).map (Value.int .i64)) ∧ Ext w0 w ∧ Blk w b1 25 [Value.int .i64 a.al, nx, ac] ∧ nn = (a.next.length + 1 - mN a r)) _ _ ⟨0, _, 0, _, rfl, rfl, rfl, Own.mono hl31 (by omega), E, hB4, rfl⟩ (.cons rfl (.cons rfl (.cons rfl (.cons rfl (.cons rfl (.cons rfl (.nil))))))) ?_
  rintro nn wl2 ls ⟨r, cv2, p, m, rfl, hp, hm, hcv, E, hB4, rfl⟩
  have hs35 := Below.size E
  have hmm := mN_mono hv r
  have hml := mN_le (a := a) (r + 1)
  have hcl := clsN_length hv (r + 1)
  refine Cq.seq ?_
  refine Cq.seq ?_
  refine Cq.region ?_
  refine Sq.move .plain rfl rfl ?_
  refine Sq.move .plain rfl rfl ?_
  refine Sq.gtr .plain rfl rfl rfl ?_
  refine Sq.part (fun c36 => ?_) (fun c36 => ?_)
  · refine Sq.nil ?_
    refine Eq.next ?_
    refine Cq.thn rfl ?_
    refine Cq.skip ?_
    refine Eq.next ?_
    refine Cq.block ?_
    refine Cq.seq ?_
    refine Cq.region ?_
    refine Sq.move .plain rfl rfl ?_
    refine Sq.assign .plain rfl rfl ?_
    refine Sq.nil ?_
    refine Eq.next ?_
    refine Cq.region ?_
    refine Sq.loadAgg agg25 .plain rfl rfl hB4 rfl ?_
    refine Sq.move .plain rfl rfl ?_
    have hd42 := hB4.lt
    refine Sq.call fn80 .plain rfl rfl (l5Refine_c _ a _ _ (hnx.ext E) (hac.ext E) hv cv2 ((clsN a (r + 1))) (Own.row hcv) (by omega)) ?_
    rintro _ w38 ⟨⟨nv40, rfl, hl41⟩, e39⟩
    have hs43 := Below.size E
    have hs44 := Below.size e39
    replace E := E.trans e39
    replace hB4 := hB4.ext e39
    refine Sq.move .plain rfl rfl ?_
    refine Sq.extract .plain rfl rfl rfl ?_
    refine Sq.extract .plain rfl rfl rfl ?_
    refine Sq.assign .plain rfl rfl ?_
    refine Sq.assign .plain rfl rfl ?_
    refine Sq.nil ?_
    refine Eq.end ?_
    refine Eq.round _ _ ⟨r + 1, _, _, _, rfl, hm, rfl, Own.mono hl41 (by omega), E, hB4, rfl⟩ (by omega) (.cons rfl (.cons rfl (.cons rfl (.cons rfl (.cons rfl (.cons rfl (.nil)))))))
  refine Sq.nil ?_
  refine Eq.next ?_
  refine Cq.els rfl ?_
  refine Cq.exit ?_
  refine Eq.past ?_
  refine Eq.past ?_
  refine Eq.hit ?_
  refine Eq.next ?_
  refine Cq.seq ?_
  refine Cq.region ?_
  refine Sq.move .plain rfl rfl ?_
  refine Sq.move .plain rfl rfl ?_
  refine Sq.assign .plain rfl rfl ?_
  refine Sq.assign .plain rfl rfl ?_
  refine Sq.nil ?_
  refine Eq.next ?_
  refine Cq.ret ?_
  refine Eq.ret2 rfl rfl rfl ?_
  have hf := classes_found hv (r := r) (by omega)
  have hcN : (nCls a : Int) = p := by rw [nCls, ← hf, mN_cls]; omega
  exact ⟨⟨_, by rw [hcN], by rw [← hf]; exact hcv⟩, E⟩
end Go.Proofs.YtnckpafknojdhaaDoor
set_option linter.unusedSimpArgs false
set_option linter.unusedVariables false
namespace Go.Proofs.YtnckpafknojdhaaDoor
open Go.RowKit
set_option maxRecDepth 100000 in
theorem l5Trim_c (w0 : World) (a : A) (nx ac : Value) (hnx : Rows w0 41 3 nx a.next) (hac : Bools w0 4 ac a.acc) (hv : validA a = true) : Ret Tryd.prog 63 #[Value.agg #[Value.int .i64 a.al, nx, ac]] w0 (fun v w => OwnA w w0.heap.size v (trim a) ∧ Ext w0 w) := by
  have E := Ext.refl w0
  have hvs := validA_spec.1 hv
  have hvn := hvs.2.1
  have hlet := letters_len6 a.al
  have htl := trim_len hv
  have hall := ord_all (f := goA a) (s := 0) (L := letters a.al) (P := fun q => 0 ≤ q ∧ q < (a.next.length : Int)) (zero_in hv) (fun q hq x hx => goA_in hv hq ⟨(mem_letters hx).1, (mem_letters hx).2.1⟩)
  refine Ret.of (args := [Value.agg #[Value.int .i64 a.al, nx, ac]]) Tryd.func63 rfl rfl rfl ?_
  rintro _ rfl
  show Cq _ _ _ _ [(0, Value.agg #[Value.int .i64 a.al, nx, ac])] _
  refine Cq.seq ?_
  refine Cq.region ?_
  refine Sq.box .plain rfl rfl (fun b1 w2 e3 hB4 hlo5 => ?_)
  have hd6 := Nat.le_trans (Below.size E) hlo5
  have hs7 := Below.size e3
  replace E := E.trans e3
  refine Sq.alloc zero25 .plain rfl (fun b8 w9 e10 hB11 hlo12 => ?_)
  have hd13 := Nat.le_trans (Below.size E) hlo12
  have hd14 := Nat.lt_of_lt_of_le hB4.lt hlo12
  have hs15 := Below.size e10
  replace E := E.trans e10
  replace hB4 := hB4.ext e10
  refine Sq.nil ?_
  refine Eq.next ?_
  refine Cq.seq ?_
  refine Cq.region ?_
  refine Sq.loadAgg agg25 .plain rfl rfl hB4 rfl ?_
  have hd20 := hB4.lt
  have hd21 := hB11.lt
  refine Sq.call fn79 .plain rfl rfl (l5Order_c _ a _ _ (hnx.ext E) (hac.ext E) hv) ?_
  rintro v16 w17 ⟨ho19, e18⟩
  have hs22 := Below.size E
  have hs23 := Below.size e18
  replace E := E.trans e18
  replace hB4 := hB4.ext e18
  replace hB11 := hB11.ext e18
  refine Sq.assign .plain rfl rfl ?_
  refine Sq.nil ?_
  refine Eq.next ?_
  refine Cq.seq ?_
  refine Cq.region ?_
  refine Sq.fieldAddr fld25_0 .plain rfl rfl ?_
  refine Sq.loadB one3 .plain rfl rfl hB4 rfl ?_
  refine Sq.build st25 rfl rfl .plain rfl rfl (one_cons rfl one_nil) rfl ?_
  refine Sq.alloc zero25 .plain rfl (fun b24 w25 e26 hB27 hlo28 => ?_)
  have hd29 := Nat.le_trans (Below.size E) hlo28
  have hd30 := Nat.lt_of_lt_of_le hB4.lt hlo28
  have hd31 := Nat.lt_of_lt_of_le hB11.lt hlo28
  have hs32 := Below.size e26
  replace E := E.trans e26
  replace hB4 := hB4.ext e26
  replace hB11 := hB11.ext e26
  replace ho19 := ho19.ext e26
  refine Sq.storeAgg agg25 .plain rfl rfl (one_cons rfl (one_cons rfl (one_cons rfl one_nil))) hB27 rfl rfl (fun w33 g34 hB35 => ?_)
  have hs36 := World.grownBy.size g34
  replace E := E.grown g34 (fun k hk => by injection hk with hk; subst hk; omega)
  replace hB4 := hB4.grown g34 (by intro h; injection h with h; omega)
  replace hB11 := hB11.grown g34 (by intro h; injection h with h; omega)
  replace ho19 := ho19.stored g34 hB27 (by decide)
  replace hB27 := hB35
  refine Sq.nil ?_
  refine Eq.next ?_
  refine Cq.seq ?_
  refine Cq.seq ?_
  refine Cq.region ?_
  refine Sq.assign .plain rfl rfl ?_
  refine Sq.nil ?_
  refine Eq.next ?_
  refine Cq.block ?_
  refine Cq.loop (fun nn w ls => ∃ (i : Int), ∃ (nxv : Value), ∃ (acv : Value), ∃ (xss : List (List Int)), ∃ (ys : List Bool), ls = [(1, Value.pointer (some ⟨b1, 0, none⟩)), (2, Value.pointer (some ⟨b8, 0, none⟩)), (3, v16), (4, Value.pointer (some ⟨b24, 0, none⟩)), (5, Value.int .i64 i)] ∧ (0 ≤ i ∧ i ≤ (ord (goA a) 0 (letters a.al)).length) ∧ Blk w b24 25 [Value.int .i64 a.al, nxv, acv] ∧ OwnRows w w0.heap.size w.heap.size 41 3 nxv xss ∧ Own w w0.heap.size 4 acv (ys.map Value.bool) ∧ xss = ((ord (goA a) 0 (letters a.al)).take i.toNat).map (rowAt (goA a) (letters a.al) (ord (goA a) 0 (letters a.al))) ∧ ys = ((ord (goA a) 0 (letters a.al)).take i.toNat).map (accA a) ∧ Ext w0 w ∧ Blk w b1 25 [Value.int .i64 a.al, nx, ac] ∧ Blk w b8 25 [Value.int .i64 0, Value.slice none 0 0, Value.slice none 0 0] ∧ Own w w9.heap.size 3 v16 ((ord (goA a) 0 (letters a.al)).map (Value.int .i64)) ∧ nn = (((ord (goA a) 0 (letters a.al)).length : Int) - i).toNat) _ _ ⟨0, _, _, [], [], rfl, by omega, hB27, OwnRows.nil _ _ _ _ _, Own.nil _ _ _, rfl, rfl, E, hB4, hB11, ho19, rfl⟩ (.cons rfl (.cons rfl (.cons rfl (.cons rfl (.cons rfl (.nil)))))) ?_
  rintro nn wl1 ls ⟨i, nxv, acv, xss, ys, rfl, hi, hBr, hor, hoa, hxs, hys, E, hB4, hB11, ho19, rfl⟩
  have hs37 := Below.size E
  have hlow := Own.low ho19
  have hat : i < (ord (goA a) 0 (letters a.al)).length → 0 ≤ ((ord (goA a) 0 (letters a.al)).getD i.toNat 0) ∧ ((ord (goA a) 0 (letters a.al)).getD i.toNat 0) < a.next.length := fun h => hall _ (getD_mem (by omega))
  have hxl : xss.length ≤ 20 := by rw [hxs, List.length_map, List.length_take]; omega
  have hyl : ys.length ≤ 20 := by rw [hys, List.length_map, List.length_take]; omega
  refine Cq.seq ?_
  refine Cq.seq ?_
  refine Cq.region ?_
  refine Sq.move .plain rfl rfl ?_
  refine Sq.move .plain rfl rfl ?_
  refine Sq.lenInts (Own.row ho19) .plain rfl und41 rfl ?_
  refine Sq.lss .plain rfl rfl rfl ?_
  refine Sq.part (fun c38 => ?_) (fun c38 => ?_)
  · refine Sq.nil ?_
    refine Eq.next ?_
    refine Cq.thn rfl ?_
    refine Cq.skip ?_
    refine Eq.next ?_
    refine Cq.seq ?_
    refine Cq.block ?_
    refine Cq.seq ?_
    refine Cq.region ?_
    refine Sq.lit sl41 rfl rfl .plain rfl rfl one_nil (fun b39 w40 e41 hlo42 ho43 _ => ?_)
    replace ho43 := ho43 wl1.heap.size (Nat.le_refl _)
    have hs45 := Below.size e41
    replace E := E.trans e41
    replace hB4 := hB4.ext e41
    replace hB11 := hB11.ext e41
    replace ho19 := ho19.ext e41
    replace hBr := hBr.ext e41
    replace hor := hor.ext e41
    replace hoa := hoa.ext e41
    refine Sq.assign .plain rfl rfl ?_
    refine Sq.nil ?_
    refine Eq.next ?_
    refine Cq.seq ?_
    refine Cq.seq ?_
    refine Cq.region ?_
    refine Sq.assign .plain rfl rfl ?_
    refine Sq.nil ?_
    refine Eq.next ?_
    refine Cq.block ?_
    have hq0 := hat (by omega)
    have hvr := valid_row hv (k := ((ord (goA a) 0 (letters a.al)).getD i.toNat 0).toNat) (by omega)
    refine Cq.loop (fun nn w ls => ∃ (k : Int), ∃ (rv : Value), ∃ (row : List Int), ls = [(1, Value.pointer (some ⟨b1, 0, none⟩)), (2, Value.pointer (some ⟨b8, 0, none⟩)), (3, v16), (4, Value.pointer (some ⟨b24, 0, none⟩)), (5, Value.int .i64 i), (6, rv), (7, Value.int .i64 k)] ∧ (0 ≤ k ∧ k ≤ (letters a.al).length) ∧ wl1.heap.size ≤ w.heap.size ∧ Own w wl1.heap.size 3 rv (row.map (Value.int .i64)) ∧ row = rowTo (goA a) (letters a.al) (ord (goA a) 0 (letters a.al)) ((ord (goA a) 0 (letters a.al)).getD i.toNat 0) k.toNat ∧ Ext w0 w ∧ Blk w b1 25 [Value.int .i64 a.al, nx, ac] ∧ Blk w b8 25 [Value.int .i64 0, Value.slice none 0 0, Value.slice none 0 0] ∧ Own w w9.heap.size 3 v16 ((ord (goA a) 0 (letters a.al)).map (Value.int .i64)) ∧ Blk w b24 25 [Value.int .i64 a.al, nxv, acv] ∧ OwnRows w w0.heap.size wl1.heap.size 41 3 nxv xss ∧ Own w w0.heap.size 4 acv (ys.map Value.bool) ∧ nn = ((letters a.al).length - k).toNat) _ _ ⟨0, _, [], rfl, by omega, by omega, ho43, rfl, E, hB4, hB11, ho19, hBr, hor, hoa, rfl⟩ (.cons rfl (.cons rfl (.cons rfl (.cons rfl (.cons rfl (.cons rfl (.cons rfl (.nil)))))))) ?_
    rintro nn wl2 ls ⟨k, rv, row, rfl, hk, hsz, hro, hrow, E, hB4, hB11, ho19, hBr, hor, hoa, rfl⟩
    have hs46 := Below.size E
    have hrl : row.length ≤ 6 := by rw [hrow, rowTo, List.length_map, List.length_take]; omega
    refine Cq.seq ?_
    refine Cq.seq ?_
    refine Cq.draw 11 none mixed (fun w47 e48 => ?_)
    have hs49 := Below.size e48
    replace E := E.trans e48
    replace hB4 := hB4.ext e48
    replace hB11 := hB11.ext e48
    replace ho19 := ho19.ext e48
    replace hBr := hBr.ext e48
    replace hor := hor.ext e48
    replace hoa := hoa.ext e48
    replace hro := hro.ext e48
    have E_w47 := E
    have hB4_w47 := hB4
    have ho19_w47 := ho19
    refine Gq.st 0 rfl (by kernel_rfl) rfl .plain rfl (fun _ _ _ h => h) (World.grownBy.refl w47 _) (fun w' x => Still.move rfl) ?_
    refine Gq.st 1 rfl (by kernel_rfl) rfl .plain rfl (fun _ _ _ h => h) (World.grownBy.refl w47 _) (fun w' x => Still.fieldAddr fld25_1 rfl) ?_
    refine Gq.st 2 rfl (by kernel_rfl) rfl .plain rfl (fun _ _ _ h => h) (World.grownBy.refl w47 _) (fun w' x => Still.loadB one22 rfl (hB4_w47.ext (Ext.of_grown x)) rfl) ?_
    refine Gq.st 3 rfl (by kernel_rfl) rfl .plain rfl (fun _ _ _ h => h) (World.grownBy.refl w47 _) (fun w' x => Still.move rfl) ?_
    refine Gq.st 4 rfl (by kernel_rfl) rfl .plain rfl (fun _ _ _ h => h) (World.grownBy.refl w47 _) (fun w' x => Still.move rfl) ?_
    obtain ⟨p50, hp51_w47⟩ := Ints.at (Own.row ho19_w47) (i := i) (by omega) (by omega)
    have hp51o := AtO.of ho19_w47 hp51_w47
    refine Gq.st 5 rfl (by kernel_rfl) rfl .plain rfl (fun _ _ _ h => h) (World.grownBy.refl w47 _) (fun w' x => Still.at' sl41 hp51_w47 rfl rfl) ?_
    refine Gq.st 6 rfl (by kernel_rfl) rfl .plain rfl (fun _ _ _ h => h) (World.grownBy.refl w47 _) (fun w' x => Still.loadA one3 rfl (hp51_w47.ext (Ext.of_grown x)).1) ?_
    obtain ⟨p52, r54, hp53_w47, hr55⟩ := Rows.at hnx (i := (ord (goA a) 0 (letters a.al)).getD i.toNat 0) (by omega) (by omega)
    refine Gq.st 7 rfl (by kernel_rfl) rfl .plain rfl (fun _ _ _ h => h) (World.grownBy.refl w47 _) (fun w' x => Still.at' sl22 hp53_w47 rfl rfl) ?_
    refine Gq.st 8 rfl (by kernel_rfl) rfl .plain rfl (fun _ _ _ h => h) (World.grownBy.refl w47 _) (fun w' x => Still.loadA one41 rfl (hp53_w47.ext (E_w47.trans (Ext.of_grown x))).1) ?_
    refine Gq.st 9 rfl (by kernel_rfl) rfl .plain rfl (fun _ _ _ h => h) (World.grownBy.refl w47 _) (fun w' x => Still.lenInts (hr55.ext (E_w47.trans (Ext.of_grown x))) und41 rfl) ?_
    refine Gq.st 10 rfl (by kernel_rfl) rfl .plain rfl (fun _ _ _ h => h) (World.grownBy.refl w47 _) (fun w' x => Still.lss rfl rfl) ?_
    refine Gq.part (fun c56 => ?_) (fun c56 => ?_)
    · refine Gq.done (by kernel_rfl) ?_
      refine Eq.next ?_
      refine Cq.thn rfl ?_
      refine Cq.skip ?_
      refine Eq.next ?_
      refine Cq.seq ?_
      refine Cq.block ?_
      have hq0 := hat (by omega)
      obtain ⟨pO, hpO⟩ := Ints.at (Own.row ho19) (i := i) (by omega) (by omega)
      obtain ⟨pR, rR, hpR, hrR⟩ := Rows.at hnx (i := ((ord (goA a) 0 (letters a.al)).getD i.toNat 0)) (by omega) (by omega)
      obtain ⟨pK, hpK⟩ := Ints.at hrR (i := k) (by omega) (by omega)
      have hlowR := Ints.low hrR (by omega)
      replace hpR := hpR.ext E
      replace hpK := hpK.ext E
      have hrg := row_go hv (q := ((ord (goA a) 0 (letters a.al)).getD i.toNat 0).toNat) (k := k.toNat) (by omega) (by omega)
      rw [Int.toNat_of_nonneg hq0.1] at hrg
      have hisin : ((a.next.getD ((ord (goA a) 0 (letters a.al)).getD i.toNat 0).toNat []).getD k.toNat 0) ∈ (ord (goA a) 0 (letters a.al)) := by rw [hrg]; exact ord_closed (by omega) (getD_mem (by omega)) _ (getD_mem (by omega))
      refine Cq.drawS 16 (fun w' => Blk w' b1 25 [Value.int .i64 a.al, nx, ac] ∧ At w' 3 v16 i pO (.int .i64 ((ord (goA a) 0 (letters a.al)).getD i.toNat 0)) ∧ At w' 41 nx ((ord (goA a) 0 (letters a.al)).getD i.toNat 0) pR rR ∧ At w' 3 rR k pK (.int .i64 ((a.next.getD ((ord (goA a) 0 (letters a.al)).getD i.toNat 0).toNat []).getD k.toNat 0))) mixed (⟨hB4, hpO, hpR, hpK⟩) (fun w57 e58 hS => ?_)
      clear hS
      have hs59 := Below.size e58
      replace E := E.trans e58
      replace hB4 := hB4.ext e58
      replace hB11 := hB11.ext e58
      replace ho19 := ho19.ext e58
      replace hBr := hBr.ext e58
      replace hor := hor.ext e58
      replace hoa := hoa.ext e58
      replace hro := hro.ext e58
      replace hpO := hpO.ext e58
      replace hpR := hpR.ext e58
      replace hpK := hpK.ext e58
      refine Gq.st 0 rfl (by kernel_rfl) rfl .plain rfl (fun _ _ _ h => h) ⟨hB4, hpO, hpR, hpK⟩ (fun w' x => Still.move rfl) ?_
      refine Gq.st 1 rfl (by kernel_rfl) rfl .plain rfl (fun _ _ _ h => h) ⟨hB4, hpO, hpR, hpK⟩ (fun w' x => Still.move rfl) ?_
      refine Gq.st 2 rfl (by kernel_rfl) rfl .plain rfl (fun _ _ _ h => h) ⟨hB4, hpO, hpR, hpK⟩ (fun w' x => Still.fieldAddr fld25_1 rfl) ?_
      refine Gq.st 3 rfl (by kernel_rfl) rfl .plain rfl (fun _ _ _ h => h) ⟨hB4, hpO, hpR, hpK⟩ (fun w' x => Still.loadB one22 rfl x.1 rfl) ?_
      refine Gq.st 4 rfl (by kernel_rfl) rfl .plain rfl (fun _ _ _ h => h) ⟨hB4, hpO, hpR, hpK⟩ (fun w' x => Still.move rfl) ?_
      refine Gq.st 5 rfl (by kernel_rfl) rfl .plain rfl (fun _ _ _ h => h) ⟨hB4, hpO, hpR, hpK⟩ (fun w' x => Still.move rfl) ?_
      refine Gq.st 6 rfl (by kernel_rfl) rfl .plain rfl (fun _ _ _ h => h) ⟨hB4, hpO, hpR, hpK⟩ (fun w' x => Still.at' sl41 hpO rfl rfl) ?_
      refine Gq.st 7 rfl (by kernel_rfl) rfl .plain rfl (fun _ _ _ h => h) ⟨hB4, hpO, hpR, hpK⟩ (fun w' x => Still.loadA one3 rfl (x.2.1).1) ?_
      refine Gq.st 8 rfl (by kernel_rfl) rfl .plain rfl (fun _ _ _ h => h) ⟨hB4, hpO, hpR, hpK⟩ (fun w' x => Still.at' sl22 hpR rfl rfl) ?_
      refine Gq.st 9 rfl (by kernel_rfl) rfl .plain rfl (fun _ _ _ h => h) ⟨hB4, hpO, hpR, hpK⟩ (fun w' x => Still.loadA one41 rfl (x.2.2.1).1) ?_
      refine Gq.st 10 rfl (by kernel_rfl) rfl .plain rfl (fun _ _ _ h => h) ⟨hB4, hpO, hpR, hpK⟩ (fun w' x => Still.move rfl) ?_
      refine Gq.st 11 rfl (by kernel_rfl) rfl .plain rfl (fun _ _ _ h => h) ⟨hB4, hpO, hpR, hpK⟩ (fun w' x => Still.at' sl41 hpK rfl rfl) ?_
      refine Gq.st 12 rfl (by kernel_rfl) rfl .plain rfl (fun _ _ _ h => h) ⟨hB4, hpO, hpR, hpK⟩ (fun w' x => Still.loadA one3 rfl (x.2.2.2).1) ?_
      refine Gq.one 13 rfl (by kernel_rfl) ?_
      refine Sq.call fn65 .plain rfl rfl (l5Index_c _ ((ord (goA a) 0 (letters a.al))) _ (Own.row ho19) (((a.next.getD ((ord (goA a) 0 (letters a.al)).getD i.toNat 0).toNat []).getD k.toNat 0)) (by omega) (hisin)) ?_
      rintro _ _ ⟨rfl, rfl⟩
      refine Sq.nil ?_
      refine Eq.goes (fun _ => ⟨hB4, hpO, hpR, hpK⟩) ?_
      refine Gq.one 14 rfl (by kernel_rfl) ?_
      refine Sq.lit sl41 rfl rfl .plain rfl rfl (one_cons rfl one_nil) (fun b60 w61 e62 hlo63 ho64 _ => ?_)
      replace ho64 := ho64 w57.heap.size (Nat.le_refl _)
      have hs66 := Below.size e62
      replace E := E.trans e62
      replace hB4 := hB4.ext e62
      replace hB11 := hB11.ext e62
      replace ho19 := ho19.ext e62
      replace hBr := hBr.ext e62
      replace hor := hor.ext e62
      replace hoa := hoa.ext e62
      replace hro := hro.ext e62
      replace hpO := hpO.ext e62
      replace hpR := hpR.ext e62
      replace hpK := hpK.ext e62
      refine Sq.nil ?_
      refine Eq.goes (fun _ => ⟨hB4, hpO, hpR, hpK⟩) ?_
      refine Gq.one 15 rfl (by kernel_rfl) ?_
      refine Sq.app sl41 hro (by omega) (Own.row ho64) (one_cons rfl one_nil) (by first | omega | (simp; omega)) .plain rfl rfl rfl rfl (fun v67 w68 ho70 g69 => ?_)
      have hs71 := g69.size
      replace E := E.owned hro g69 (by omega)
      replace hB4 := hB4.owned hro g69 (by decide)
      replace hB11 := hB11.owned hro g69 (by decide)
      replace ho19 := ho19.apart hlow hro g69 (by omega)
      replace hBr := hBr.owned hro g69 (by decide)
      replace hor := hor.apart hro g69 (by omega) (by decide)
      replace hoa := hoa.owned hro g69 (by decide)
      replace hpO := hpO.apart hlow hro g69 (by omega)
      replace hpR := hpR.owned hro g69 (by decide)
      replace hpK := hpK.apart hlowR hro g69 (by omega)
      refine Sq.nil ?_
      refine Eq.goes (fun _ => ⟨hB4, hpO, hpR, hpK⟩) ?_
      refine Gq.one 16 rfl (by kernel_rfl) ?_
      refine Sq.assign .plain rfl rfl ?_
      refine Sq.nil ?_
      refine Eq.goes (fun h => absurd h (by decide)) ?_
      refine Gq.done (by kernel_rfl) ?_
      refine Eq.end ?_
      refine Eq.next ?_
      refine Cq.region ?_
      refine Sq.move .plain rfl rfl ?_
      refine Sq.add .plain rfl rfl rfl (by omega) ?_
      refine Sq.assign .plain rfl rfl ?_
      refine Sq.nil ?_
      have e2 := toNat_succ hk.1
      refine Eq.round _ _ ⟨k + 1, _, _, rfl, by omega, by omega, Own.snocI ho70, by rw [e2, rowTo_succ (by omega), ← hrow, hrg], E, hB4, hB11, ho19, hBr, hor, hoa, rfl⟩ (by omega) (.cons rfl (.cons rfl (.cons rfl (.cons rfl (.cons rfl (.cons rfl (.cons rfl (.nil))))))))
    refine Gq.done (by kernel_rfl) ?_
    refine Eq.next ?_
    refine Cq.els rfl ?_
    refine Cq.exit ?_
    refine Eq.past ?_
    refine Eq.past ?_
    refine Eq.hit ?_
    refine Eq.next ?_
    refine Cq.seq ?_
    refine Cq.region ?_
    refine Sq.fieldAddr fld25_1 .plain rfl rfl ?_
    refine Sq.loadB one22 .plain rfl rfl hBr rfl ?_
    refine Sq.move .plain rfl rfl ?_
    obtain ⟨rs76, q77, q78, q79⟩ := OwnRows.open hor (by decide)
    have q79x := Ext.refl w47
    refine Sq.app1 sl22 q77 (by omega) (by rw [q78]; first | omega | (simp; omega)) .plain rfl rfl rfl rfl rfl rfl (Row.one (Own.row hro)) (fun v72 w73 ho75 g74 _ => ?_)
    have hs80 := g74.size
    have ho75r := q79 _ row _ _ _ (Ext.refl _) (Own.mono hro (by omega)) (by omega) ho75 g74
    replace E := E.owned q77 g74 (by omega)
    replace hB4 := hB4.owned q77 g74 (by decide)
    replace hB11 := hB11.owned q77 g74 (by decide)
    replace ho19 := ho19.owned q77 g74 (by decide)
    replace hBr := hBr.owned q77 g74 (by decide)
    replace hoa := hoa.owned q77 g74 (by decide)
    refine Sq.fieldAddr fld25_1 .plain rfl rfl ?_
    refine Sq.store one22 .plain rfl rfl (Rows.one (OwnRows.rows ho75r)) hBr (by simp) (fun w81 g82 hB83 => ?_)
    have hs84 := World.grownBy.size g82
    replace E := E.grown g82 (fun k hk => by injection hk with hk; subst hk; omega)
    replace hB4 := hB4.grown g82 (by intro h; injection h with h; omega)
    replace hB11 := hB11.grown g82 (by intro h; injection h with h; omega)
    replace ho19 := ho19.stored g82 hBr (by decide)
    replace hoa := hoa.stored g82 hBr (by decide)
    replace ho75r := ho75r.stored g82 hBr (by decide) (by decide)
    replace hBr := hB83
    refine Sq.nil ?_
    refine Eq.next ?_
    have hq0 := hat (by omega)
    obtain ⟨pO, hpO⟩ := Ints.at (Own.row ho19) (i := i) (by omega) (by omega)
    refine Cq.drawS 12 (fun w' => Blk w' b1 25 [Value.int .i64 a.al, nx, ac] ∧ Blk w' b24 25 [Value.int .i64 a.al, v72, acv] ∧ At w' 3 v16 i pO (.int .i64 ((ord (goA a) 0 (letters a.al)).getD i.toNat 0)) ∧ Ext w0 w') mixed (⟨hB4, hBr, hpO, E⟩) (fun w85 e86 hS => ?_)
    clear hS
    have hs87 := Below.size e86
    replace E := E.trans e86
    replace hB4 := hB4.ext e86
    replace hB11 := hB11.ext e86
    replace ho19 := ho19.ext e86
    replace hBr := hBr.ext e86
    replace hoa := hoa.ext e86
    replace ho75r := ho75r.ext e86
    replace hpO := hpO.ext e86
    refine Gq.st 0 rfl (by kernel_rfl) rfl .plain rfl (fun _ _ _ h => h) ⟨hB4, hBr, hpO, E⟩ (fun w' x => Still.fieldAddr fld25_2 rfl) ?_
    refine Gq.st 1 rfl (by kernel_rfl) rfl .plain rfl (fun _ _ _ h => h) ⟨hB4, hBr, hpO, E⟩ (fun w' x => Still.loadB one23 rfl x.2.1 rfl) ?_
    refine Gq.st 2 rfl (by kernel_rfl) rfl .plain rfl (fun _ _ _ h => h) ⟨hB4, hBr, hpO, E⟩ (fun w' x => Still.fieldAddr fld25_2 rfl) ?_
    refine Gq.st 3 rfl (by kernel_rfl) rfl .plain rfl (fun _ _ _ h => h) ⟨hB4, hBr, hpO, E⟩ (fun w' x => Still.loadB one23 rfl x.1 rfl) ?_
    refine Gq.st 4 rfl (by kernel_rfl) rfl .plain rfl (fun _ _ _ h => h) ⟨hB4, hBr, hpO, E⟩ (fun w' x => Still.move rfl) ?_
    refine Gq.st 5 rfl (by kernel_rfl) rfl .plain rfl (fun _ _ _ h => h) ⟨hB4, hBr, hpO, E⟩ (fun w' x => Still.move rfl) ?_
    refine Gq.st 6 rfl (by kernel_rfl) rfl .plain rfl (fun _ _ _ h => h) ⟨hB4, hBr, hpO, E⟩ (fun w' x => Still.at' sl41 hpO rfl rfl) ?_
    refine Gq.st 7 rfl (by kernel_rfl) rfl .plain rfl (fun _ _ _ h => h) ⟨hB4, hBr, hpO, E⟩ (fun w' x => Still.loadA one3 rfl (x.2.2.1).1) ?_
    obtain ⟨p88, hp89_w85⟩ := Bools.at hac (i := ((ord (goA a) 0 (letters a.al)).getD i.toNat 0)) (by omega) (by omega)
    refine Gq.st 8 rfl (by kernel_rfl) rfl .plain rfl (fun _ _ _ h => h) ⟨hB4, hBr, hpO, E⟩ (fun w' x => Still.at' sl23 hp89_w85 rfl rfl) ?_
    refine Gq.st 9 rfl (by kernel_rfl) rfl .plain rfl (fun _ _ _ h => h) ⟨hB4, hBr, hpO, E⟩ (fun w' x => Still.loadA one4 rfl (hp89_w85.ext (x.2.2.2)).1) ?_
    refine Gq.one 10 rfl (by kernel_rfl) ?_
    refine Sq.lit sl23 rfl rfl .plain rfl rfl (one_cons rfl one_nil) (fun b90 w91 e92 hlo93 ho94 _ => ?_)
    replace ho94 := ho94 w85.heap.size (Nat.le_refl _)
    have hs96 := Below.size e92
    replace E := E.trans e92
    replace hB4 := hB4.ext e92
    replace hB11 := hB11.ext e92
    replace ho19 := ho19.ext e92
    replace hBr := hBr.ext e92
    replace hoa := hoa.ext e92
    replace ho75r := ho75r.ext e92
    replace hpO := hpO.ext e92
    refine Sq.nil ?_
    refine Eq.goes (fun _ => ⟨hB4, hBr, hpO, E⟩) ?_
    refine Gq.one 11 rfl (by kernel_rfl) ?_
    refine Sq.app sl23 hoa (by omega) (Own.row ho94) (one_cons rfl one_nil) (by first | omega | (simp; omega)) .plain rfl rfl rfl rfl (fun v97 w98 ho100 g99 => ?_)
    have hs101 := g99.size
    replace E := E.owned hoa g99 (by omega)
    replace hB4 := hB4.owned hoa g99 (by decide)
    replace hB11 := hB11.owned hoa g99 (by decide)
    replace ho19 := ho19.owned hoa g99 (by decide)
    replace hBr := hBr.owned hoa g99 (by decide)
    replace ho75r := ho75r.owned hoa g99 (by decide) (by decide)
    replace hpO := hpO.owned hoa g99 (by decide)
    refine Sq.nil ?_
    refine Eq.goes (fun _ => ⟨hB4, hBr, hpO, E⟩) ?_
    refine Gq.one 12 rfl (by kernel_rfl) ?_
    refine Sq.fieldAddr fld25_2 .plain rfl rfl ?_
    refine Sq.nil ?_
    refine Eq.goes (fun h => absurd h (by decide)) ?_
    refine Gq.one 13 rfl (by kernel_rfl) ?_
    refine Sq.store one23 .plain rfl rfl (Row.one (Own.row ho100)) hBr (by simp) (fun w102 g103 hB104 => ?_)
    have hs105 := World.grownBy.size g103
    replace E := E.grown g103 (fun k hk => by injection hk with hk; subst hk; omega)
    replace hB4 := hB4.grown g103 (by intro h; injection h with h; omega)
    replace hB11 := hB11.grown g103 (by intro h; injection h with h; omega)
    replace ho19 := ho19.stored g103 hBr (by decide)
    replace ho75r := ho75r.stored g103 hBr (by decide) (by decide)
    replace ho100 := ho100.stored g103 hBr (by decide)
    replace hBr := hB104
    refine Sq.nil ?_
    refine Eq.goes (fun h => absurd h (by decide)) ?_
    refine Gq.done (by kernel_rfl) ?_
    refine Eq.end ?_
    refine Eq.next ?_
    refine Cq.region ?_
    refine Sq.move .plain rfl rfl ?_
    refine Sq.add .plain rfl rfl rfl (by omega) ?_
    refine Sq.assign .plain rfl rfl ?_
    refine Sq.nil ?_
    have e1 := toNat_succ hi.1
    refine Eq.round _ _ ⟨i + 1, _, _, _, _, rfl, by omega, hBr, OwnRows.now ho75r, Own.snocB ho100, by rw [e1, take_snoc 0 (by omega), List.map_append, ← hxs, hrow, rowTo_done (k := k.toNat) (by omega)]; rfl, by rw [e1, take_snoc 0 (by omega), List.map_append, ← hys]; rfl, E, hB4, hB11, ho19, rfl⟩ (by omega) (.cons rfl (.cons rfl (.cons rfl (.cons rfl (.cons rfl (.nil))))))
  refine Sq.nil ?_
  refine Eq.next ?_
  refine Cq.els rfl ?_
  refine Cq.exit ?_
  refine Eq.past ?_
  refine Eq.past ?_
  refine Eq.hit ?_
  refine Eq.next ?_
  refine Cq.seq ?_
  refine Cq.region ?_
  refine Sq.loadAgg agg25 .plain rfl rfl hBr rfl ?_
  refine Sq.storeAgg agg25 .plain rfl rfl (one_cons rfl (one_cons (Rows.one (OwnRows.rows hor)) (one_cons (Row.one (Own.row hoa)) one_nil))) hB11 rfl rfl (fun w106 g107 hB108 => ?_)
  have hs109 := World.grownBy.size g107
  replace E := E.grown g107 (fun k hk => by injection hk with hk; subst hk; omega)
  replace hor := hor.stored g107 hB11 (by decide) (by decide)
  replace hoa := hoa.stored g107 hB11 (by decide)
  replace hB11 := hB108
  refine Sq.nil ?_
  refine Eq.next ?_
  refine Cq.ret ?_
  refine Eq.retCell rfl rfl agg25 hB11 rfl ?_
  have e : ys = (trim a).acc := by rw [hys, List.take_of_length_le (by omega)]; rfl
  have e2 : xss = (trim a).next := by rw [hxs, List.take_of_length_le (by omega)]; rfl
  rw [e] at hoa
  rw [e2] at hor
  exact ⟨⟨_, _, rfl, OwnRows.now hor, hoa⟩, E⟩
end Go.Proofs.YtnckpafknojdhaaDoor
