/-
  The texts of this proof, joined (wip/merge.py): the calculus of slots, plain mathematics, walks.
-/
import Derived.Test.YtoboklelbbgcnaaDoorGa2
set_option linter.unusedSimpArgs false
set_option linter.unusedVariables false
namespace Go.Proofs.YtoboklelbbgcnaaDoor
open Go.RowKit
def OwnRowsZ (w : World) (B U : Nat) (e e' : TypeId) (v : Value) (xss : List (List Int)) (z : Value) : Prop :=
  ∃ rs, Own w B e v rs ∧ rs.length = xss.length ∧ (∀ i r, rs[i]? = some r → Own w B e' r ((xss.getD i []).map (Value.int .i64)) ∧ ∀ k, r.ownBlock = some k → k < U ∧ z.ownBlock ≠ some k) ∧
    ∀ (i j : Nat) (r r' : Value), rs[i]? = some r → rs[j]? = some r' → i ≠ j → ∀ k, r.ownBlock = some k → r'.ownBlock ≠ some k
section
variable {w w' : World} {B U : Nat} {e e' : TypeId} {v z : Value} {xss : List (List Int)}
theorem OwnRowsZ.nil (w : World) (B U : Nat) (e e' : TypeId) (z : Value) : OwnRowsZ w B U e e' (.slice none 0 0) [] z := ⟨[], Own.nil _ _ _, rfl, by simp, by simp⟩
theorem OwnRowsZ.ext (h : OwnRowsZ w B U e e' v xss z) (x : Ext w w') : OwnRowsZ w' B U e e' v xss z := by
  obtain ⟨rs, h1, h2, h3, h4⟩ := h
  exact ⟨rs, h1.ext x, h2, fun i r hr => ⟨(h3 i r hr).1.ext x, (h3 i r hr).2⟩, h4⟩
theorem OwnRowsZ.up {U' : Nat} (h : OwnRowsZ w B U e e' v xss z) (hU : U ≤ U') : OwnRowsZ w B U' e e' v xss z := by
  obtain ⟨rs, h1, h2, h3, h4⟩ := h
  exact ⟨rs, h1, h2, fun i r hr => ⟨(h3 i r hr).1, fun k hk => ⟨Nat.lt_of_lt_of_le ((h3 i r hr).2 k hk).1 hU, ((h3 i r hr).2 k hk).2⟩⟩, h4⟩
theorem OwnRowsZ.now (h : OwnRowsZ w B U e e' v xss z) : OwnRowsZ w B w.heap.size e e' v xss z := by
  obtain ⟨rs, h1, h2, h3, h4⟩ := h
  exact ⟨rs, h1, h2, fun i r hr => ⟨(h3 i r hr).1, fun k hk => ⟨((h3 i r hr).1.lt k hk).2, ((h3 i r hr).2 k hk).2⟩⟩, h4⟩
theorem OwnRowsZ.mapped {κ : Type} {enc : κ → Value} {b : Nat} {xs : List κ} (h : OwnRowsZ w B U e e' v xss z) (hm : MapN enc w b xs) (hg : w.grownBy w' (some b)) : OwnRowsZ w' B U e e' v xss z := by
  obtain ⟨rs, h1, h2, h3, h4⟩ := h
  exact ⟨rs, h1.mapped hm hg, h2, fun i r hr => ⟨(h3 i r hr).1.mapped hm hg, (h3 i r hr).2⟩, h4⟩
theorem OwnRowsZ.apart {B' : Nat} {u : Value} {us : List Value} (h : OwnRowsZ w B U e e' v xss z) (ho : Own w B' e' u us) (hg : w.grownBy w' u.ownBlock) (hB : U ≤ B') (hne : e' ≠ e) : OwnRowsZ w' B U e e' v xss z := by
  obtain ⟨rs, h1, h2, h3, h4⟩ := h
  refine ⟨rs, h1.owned ho hg hne, h2, fun i r hr => ⟨(h3 i r hr).1.grown hg (fun k hk hc => ?_), (h3 i r hr).2⟩, h4⟩
  have := ((h3 i r hr).2 k hk).1
  have := (ho.lt k hc).1
  omega
theorem OwnRowsZ.open (h : OwnRowsZ w B U e e' v xss z) (hne : e ≠ e') : ∃ rs, Own w B e v rs ∧ rs.length = xss.length ∧
    ∀ r xs w1 v' w', Ext w w1 → Own w1 U e' r (xs.map (Value.int .i64)) → Apart z r → B ≤ U → Own w' B e v' (rs ++ [r]) → w1.grownBy w' v.ownBlock → OwnRowsZ w' B w'.heap.size e e' v' (xss ++ [xs]) z := by
  obtain ⟨rs, h1, h2, h3, h4⟩ := h
  refine ⟨rs, h1, h2, fun r xs w1 v' w' x hr ha hBU hv hg => ?_⟩
  have hv1 := h1.ext x
  have hr' := hr.owned hv1 hg hne
  have hrow : ∀ i q, (rs ++ [r])[i]? = some q → (rs[i]? = some q ∧ i < rs.length) ∨ (i = rs.length ∧ q = r) := by
    intro i q hq
    rw [List.getElem?_append] at hq
    split at hq
    · exact .inl ⟨hq, by assumption⟩
    · right
      have : i - rs.length = 0 := by
        rcases Nat.eq_zero_or_pos (i - rs.length) with h | h
        · exact h
        · rw [List.getElem?_eq_none (by simp; omega)] at hq; cases hq
      rw [this] at hq
      simp at hq
      exact ⟨by omega, hq.symm⟩
  refine ⟨rs ++ [r], hv, by simp [h2], fun i q hq => ?_, fun i j q q' hq hq' hij k hk hk' => ?_⟩
  · rcases hrow i q hq with ⟨hq, hlt⟩ | ⟨rfl, rfl⟩
    · have e1 : (xss ++ [xs]).getD i [] = xss.getD i [] := by
        simp [List.getElem?_append, show i < xss.length by omega]
      rw [e1]
      have ho := ((h3 i q hq).1.ext x).owned hv1 hg hne
      exact ⟨ho, fun k hk => ⟨(ho.lt k hk).2, ((h3 i q hq).2 k hk).2⟩⟩
    · have e1 : (xss ++ [xs]).getD rs.length [] = xs := by
        simp [List.getElem?_append, h2]
      rw [e1]
      exact ⟨hr'.mono hBU, fun k hk => ⟨(hr'.lt k hk).2, fun hc => ha k hc hk⟩⟩
  · rcases hrow i q hq with ⟨hq1, _⟩ | ⟨hi1, hq1⟩ <;> rcases hrow j q' hq' with ⟨hq2, _⟩ | ⟨hj1, hq2⟩
    · exact h4 i j q q' hq1 hq2 hij k hk hk'
    · have a1 := ((h3 i q hq1).2 k hk).1
      have a2 := (hr.lt k (hq2 ▸ hk')).1
      omega
    · have a1 := ((h3 j q' hq2).2 k hk').1
      have a2 := (hr.lt k (hq1 ▸ hk)).1
      omega
    · exact hij (by omega)
end
theorem row_go {a : A} (hv : validA a = true) {q : Nat} (hq : q < a.next.length) {k : Nat} (hk : k < (letters a.al).length) : (a.next.getD q []).getD k 0 = goA a q ((letters a.al).getD k 0) := by
  obtain ⟨h1, h2⟩ := place_at (validA_spec.1 hv).1 hk
  rw [goA_yes h1, h2, Int.toNat_natCast]
theorem Ints.low {w : World} {e : TypeId} {v : Value} {xs : List Int} (h : Ints w e v xs) (hx : 0 < xs.length) : ∀ k, v.ownBlock = some k → k < w.heap.size := by
  intro k hk
  rcases h with ⟨h0, _⟩ | ⟨b, o, c, cur, fr, rfl, hb, _⟩
  · rw [List.map_eq_nil_iff] at h0; subst h0; simp at hx
  · simp [Value.ownBlock] at hk
    subst hk
    exact lt_of_block hb
theorem getD_app {α : Type} {xs ys : List α} {d : α} {k : Nat} (h : k < xs.length) : (xs ++ ys).getD k d = xs.getD k d := by
  rw [List.getD_eq_getElem?_getD, List.getElem?_append_left h, ← List.getD_eq_getElem?_getD]
theorem Small.push2 {n m : Nat} {a : A} {row : List Int} {b : Bool} (h : Small n a) (hm : n + 1 ≤ m) (hr : row.length ≤ m) : Small m ⟨a.al, a.next ++ [row], a.acc ++ [b]⟩ := by
  have h1 := h.2.1
  have h2 := h.2.2.1
  refine ⟨h.1, by simp only [List.length_append, List.length_singleton]; omega, by simp only [List.length_append, List.length_singleton]; omega, fun r hr' => ?_⟩
  rcases List.mem_append.1 hr' with h3 | h3
  · have := h.2.2.2 r h3; omega
  · rw [List.mem_singleton.1 h3]; exact hr
theorem Small.accs {n m : Nat} {a : A} {ys : List Bool} (h : Small n a) (hm : n ≤ m) (hy : ys.length = a.acc.length) : Small m ⟨a.al, a.next, ys⟩ :=
  ⟨h.1, Nat.le_trans h.2.1 hm, by have := h.2.2.1; show ys.length ≤ m; omega, fun r hr => Nat.le_trans (h.2.2.2 r hr) hm⟩
section three
variable {P : Program} {N : Nat} {ops : Array Oper} {Q : Exit → Act → World → Prop} {S : World → Prop} {k fuel : Nat} {listed : Array Bool} {l : Slots} {w : World}
theorem Gq.three {o o' o'' : Oper} (i j m : Nat) (hi : ops[i]? = some o) (hj : ops[j]? = some o') (hm : ops[m]? = some o'') (hr : (Region.ready .any ops listed == [i, j, m]) = true) (h : Sq P N ops (AfterG P ops Q S k fuel i listed) [o] l w) (h' : Sq P N ops (AfterG P ops Q S k fuel j listed) [o'] l w) (h'' : Sq P N ops (AfterG P ops Q S k fuel m listed) [o''] l w) : Gq P N ops Q S k (fuel + 1) listed l w := by
  intro a ha
  have hr' : Region.ready .any ops listed = [i, j, m] := by simpa using hr
  refine ⟨fun h0 => absurd (hr' ▸ h0) (by simp), fun n hn => ?_⟩
  rw [hr'] at hn
  rcases List.mem_cons.1 hn with rfl | hn
  · exact wpOp_of_list (Q' := AfterG P ops Q S k fuel _ listed) hi (fun _ _ => rfl) (fun _ _ _ => rfl) (fun _ _ => rfl) (h a ha)
  · rcases List.mem_cons.1 hn with rfl | hn
    · exact wpOp_of_list (Q' := AfterG P ops Q S k fuel _ listed) hj (fun _ _ => rfl) (fun _ _ _ => rfl) (fun _ _ => rfl) (h' a ha)
    · obtain rfl : n = m := by simpa using hn
      exact wpOp_of_list (Q' := AfterG P ops Q S k fuel _ listed) hm (fun _ _ => rfl) (fun _ _ _ => rfl) (fun _ _ => rfl) (h'' a ha)
end three
def idxG {α : Type} [DecidableEq α] (ps : List α) (p : α) : Nat := ps.idxOf p
theorem idxG_lt {α : Type} [DecidableEq α] {xs : List α} {x : α} (h : x ∈ xs) : idxG xs x < xs.length := List.idxOf_lt_length_iff.2 h
section wid2
variable {w : World} {B : Nat} {e : TypeId} {v : Value} {ps : List (Int × Int)}
theorem Wid.shape {n : Nat} {rows : List (List Value)} (h : Wid w B e n v rows) : ∃ p c, v = .slice p rows.length c := by
  rcases h.cases with ⟨rfl, rfl⟩ | ⟨g, cap, cs, rfl, _⟩
  · exact ⟨none, 0, rfl⟩
  · exact ⟨_, _, rfl⟩
end wid2
section wid3
variable {P : Program} {N : Nat} {ops : Array Oper} {Q : Exit → Act → World → Prop} {rest : List Oper} {l : Slots} {w : World}
variable {d : Nat} {ty : TypeId} {pos : String} {after : Array Edge} {g : Option (Nat × Bool)}
theorem Still.ixV {t e : TypeId} {z : Value} {n gb len c : Nat} {x ix : Operand} {k : IntKind} {i : Int} {v : Value} (hs : SlW P t e z n) (hv : v = .slice (some ⟨gb, 0, none⟩) len c) (hx : ev l x = some v) (hix : ev l ix = some (.int k i)) (hi : 0 ≤ i ∧ i < (len : Int)) :
    Still P N l ⟨some d, .indexAddr t x ix, ty, pos, after, g⟩ (.pointer (some ⟨gb, i.toNat * n, none⟩)) w := Still.ixW hs (by rw [hx, hv]) hix hi
theorem Sq.lenWid {t e : TypeId} {n B : Nat} {x : Operand} {v : Value} {rows : List (List Value)} (hr : Wid w B e n v rows) (hg : On ops l g) (hN : Nat.blt d N = true) (ht : P.underlying t = some (.slice (P.elem t))) (hx : ev l x = some v)
    (h : Sq P N ops Q rest ((d, .int .i64 rows.length) :: l) w) : Sq P N ops Q (⟨some d, .call ⟨.builtin .len, #[x], #[t]⟩, ty, pos, after, g⟩ :: rest) l w := by
  obtain ⟨p, c, rfl⟩ := hr.shape
  exact .len hg hN ht hx h
end wid3
theorem addAll_le {α : Type} [DecidableEq α] : ∀ (xs ns : List α), (addAll ns xs).length ≤ ns.length + xs.length
  | [], ns => Nat.le_refl _
  | x :: xs, ns => by
    rw [addAll_cons]
    have h := addAll_le xs (addNode ns x)
    have h2 : (addNode ns x).length ≤ ns.length + 1 := by
      unfold addNode
      split
      · omega
      · simp
    simp only [List.length_cons]
    omega
theorem Wid.low {w : World} {B n : Nat} {e : TypeId} {v : Value} {rows : List (List Value)} (h : Wid w B e n v rows) : ∀ k, v.ownBlock = some k → k < w.heap.size := fun k hk => (h.lt k hk).2
theorem mul144 {a b : A} (hv : validA a = true) (hv' : validA b = true) : -9223372036854775808 ≤ (a.next.length : Int) * (b.next.length : Int) ∧ (a.next.length : Int) * (b.next.length : Int) ≤ 9223372036854775807 := by
  have h := le144 hv hv'
  have h2 : ((a.next.length * b.next.length : Nat) : Int) ≤ 144 := by omega
  rw [Int.natCast_mul] at h2
  have h3 : 0 ≤ (a.next.length : Int) * (b.next.length : Int) := Int.mul_nonneg (by omega) (by omega)
  omega
end Go.Proofs.YtoboklelbbgcnaaDoor
set_option linter.unusedSimpArgs false
set_option linter.unusedVariables false
namespace Go.Proofs.YtoboklelbbgcnaaDoor
def lexLt : List Int → List Int → Prop
  | [], [] => False
  | [], _ :: _ => True
  | _ :: _, [] => False
  | x :: v, y :: w => x < y ∨ (x = y ∧ lexLt v w)
def sl (v w : List Int) : Prop := v.length < w.length ∨ (v.length = w.length ∧ lexLt v w)
def sle (v w : List Int) : Prop := v = w ∨ sl v w
theorem lexLt_trans : ∀ {u v w : List Int}, lexLt u v → lexLt v w → lexLt u w
  | [], [], _, h, _ => h.elim
  | [], _ :: _, [], _, h => h.elim
  | [], _ :: _, _ :: _, _, _ => trivial
  | _ :: _, [], _, h, _ => h.elim
  | _ :: _, _ :: _, [], _, h => h.elim
  | x :: u, y :: v, z :: w, h, h' => by
    rcases h with h | ⟨rfl, h⟩
    · rcases h' with h' | ⟨rfl, h'⟩
      · exact .inl (by omega)
      · exact .inl h
    · rcases h' with h' | ⟨rfl, h'⟩
      · exact .inl h'
      · exact .inr ⟨rfl, lexLt_trans h h'⟩
theorem lexLt_snoc : ∀ {v w : List Int} (x y : Int), v.length = w.length → lexLt v w → lexLt (v ++ [x]) (w ++ [y])
  | [], [], _, _, _, h => h.elim
  | [], _ :: _, _, _, h, _ => by simp at h
  | _ :: _, [], _, _, h, _ => by simp at h
  | a :: v, b :: w, x, y, h, h' => by
    rcases h' with h' | ⟨rfl, h'⟩
    · exact .inl h'
    · exact .inr ⟨rfl, lexLt_snoc x y (by simpa using h) h'⟩
theorem lexLt_last : ∀ (v : List Int) {x y : Int}, x < y → lexLt (v ++ [x]) (v ++ [y])
  | [], _, _, h => .inl h
  | a :: v, _, _, h => .inr ⟨rfl, lexLt_last v h⟩
theorem sl_trans {u v w : List Int} (h : sl u v) (h' : sl v w) : sl u w := by
  rcases h with h | ⟨h1, h2⟩ <;> rcases h' with h' | ⟨h3, h4⟩
  · exact .inl (by omega)
  · exact .inl (by omega)
  · exact .inl (by omega)
  · exact .inr ⟨by omega, lexLt_trans h2 h4⟩
theorem sl_snoc {v w : List Int} (x y : Int) (h : sl v w) : sl (v ++ [x]) (w ++ [y]) := by
  rcases h with h | ⟨h1, h2⟩
  · exact .inl (by simpa using h)
  · exact .inr ⟨by simpa using h1, lexLt_snoc x y h1 h2⟩
theorem sl_last (v : List Int) {x y : Int} (h : x < y) : sl (v ++ [x]) (v ++ [y]) := .inr ⟨by simp, lexLt_last v h⟩
theorem sl_nil (v : List Int) (x : Int) : sl [] (v ++ [x]) := .inl (by simp)
theorem sle_trans {u v w : List Int} (h : sle u v) (h' : sle v w) : sle u w := by
  rcases h with rfl | h
  · exact h'
  · rcases h' with rfl | h'
    · exact .inr h
    · exact .inr (sl_trans h h')
theorem sle_snoc {v w : List Int} (x : Int) (h : sle v w) : sle (v ++ [x]) (w ++ [x]) := by
  rcases h with rfl | h
  · exact .inl rfl
  · exact .inr (sl_snoc x x h)
def nodeOf {α : Type} (f : α → Int → α) (s : α) (w : List Int) : α := w.foldl f s
theorem nodeOf_snoc {α : Type} (f : α → Int → α) (s : α) (w : List Int) (x : Int) : nodeOf f s (w ++ [x]) = f (nodeOf f s w) x := by
  unfold nodeOf
  rw [List.foldl_append]
  rfl
section
variable {α : Type} [DecidableEq α]
def wadd (f : α → Int → α) (s : α) (ws : List (List Int)) (v : List Int) : List (List Int) := if nodeOf f s v ∈ ws.map (nodeOf f s) then ws else ws ++ [v]
def wround (f : α → Int → α) (s : α) (w : List Int) (ws : List (List Int)) (Ls : List Int) : List (List Int) := Ls.foldl (fun ws l => wadd f s ws (w ++ [l])) ws
def bfsw (f : α → Int → α) (s : α) (L : List Int) : Nat → List (List Int)
  | 0 => [[]]
  | i + 1 => match (bfsw f s L i)[i]? with
    | some w => wround f s w (bfsw f s L i) L
    | none => bfsw f s L i
variable {f : α → Int → α} {s : α} {L : List Int}
theorem wadd_map (ws : List (List Int)) (v : List Int) : (wadd f s ws v).map (nodeOf f s) = addNode (ws.map (nodeOf f s)) (nodeOf f s v) := by
  unfold wadd addNode
  split
  · rfl
  · rw [List.map_append]; rfl
theorem wround_map (w : List Int) : ∀ (Ls : List Int) (ws : List (List Int)), (wround f s w ws Ls).map (nodeOf f s) = addAll (ws.map (nodeOf f s)) (Ls.map (f (nodeOf f s w)))
  | [], ws => rfl
  | l :: Ls, ws => by
    show (wround f s w (wadd f s ws (w ++ [l])) Ls).map (nodeOf f s) = _
    rw [wround_map w Ls, wadd_map, nodeOf_snoc]
    rfl
theorem bfsw_map (i : Nat) : (bfsw f s L i).map (nodeOf f s) = bfs f s L i := by
  induction i with
  | zero => rfl
  | succ i ih =>
    rw [bfsw, bfs, ← ih, List.getElem?_map]
    cases hq : (bfsw f s L i)[i]? with
    | none => rfl
    | some w => exact wround_map w L _
theorem bfsw_length (i : Nat) : (bfsw f s L i).length = (bfs f s L i).length := by rw [← bfsw_map, List.length_map]
theorem wadd_prefix (ws : List (List Int)) (v : List Int) : ws <+: wadd f s ws v := by
  unfold wadd
  split
  · exact List.prefix_refl _
  · exact List.prefix_append _ _
theorem wadd_mem {ws : List (List Int)} {u v : List Int} (h : v ∈ wadd f s ws u) : v ∈ ws ∨ v = u := by
  unfold wadd at h
  split at h
  · exact .inl h
  · rcases List.mem_append.1 h with h | h
    · exact .inl h
    · exact .inr (List.mem_singleton.1 h)
theorem wadd_self {ws : List (List Int)} {u : List Int} (h : nodeOf f s u ∉ ws.map (nodeOf f s)) : u ∈ wadd f s ws u := by
  unfold wadd
  rw [if_neg h]
  simp
theorem wadd_sorted {ws : List (List Int)} {u : List Int} (h : ws.Pairwise sl) (hb : ∀ v ∈ ws, sl v u) : (wadd f s ws u).Pairwise sl := by
  unfold wadd
  split
  · exact h
  · refine List.pairwise_append.2 ⟨h, by simp, fun v hv u' hu => ?_⟩
    rw [List.mem_singleton.1 hu]
    exact hb v hv
theorem wround_prefix (w : List Int) : ∀ (Ls : List Int) (ws : List (List Int)), ws <+: wround f s w ws Ls
  | [], ws => List.prefix_refl _
  | l :: Ls, ws => (wadd_prefix ws (w ++ [l])).trans (wround_prefix w Ls _)
theorem bfsw_prefix1 (i : Nat) : bfsw f s L i <+: bfsw f s L (i + 1) := by
  rw [bfsw]
  split
  · exact wround_prefix _ _ _
  · exact List.prefix_refl _
theorem wround_mem (w : List Int) : ∀ (Ls : List Int) (ws : List (List Int)) {v : List Int}, v ∈ wround f s w ws Ls → v ∈ ws ∨ ∃ l ∈ Ls, v = w ++ [l]
  | [], ws, v, h => .inl h
  | l :: Ls, ws, v, h => by
    rcases wround_mem w Ls (wadd f s ws (w ++ [l])) h with h1 | ⟨l', h1, h2⟩
    · rcases wadd_mem h1 with h1 | h1
      · exact .inl h1
      · exact .inr ⟨l, by simp, h1⟩
    · exact .inr ⟨l', by simp [h1], h2⟩
theorem wround_sorted (w : List Int) : ∀ (Ls : List Int) (ws : List (List Int)), Ls.Pairwise (· < ·) → ws.Pairwise sl → (∀ v ∈ ws, ∀ l ∈ Ls, sl v (w ++ [l])) → (wround f s w ws Ls).Pairwise sl
  | [], ws, _, h, _ => h
  | l :: Ls, ws, hL, h, hb => by
    obtain ⟨h1, h2⟩ := List.pairwise_cons.1 hL
    refine wround_sorted w Ls (wadd f s ws (w ++ [l])) h2 (wadd_sorted h fun v hv => hb v hv l (by simp)) ?_
    intro v hv l' hl'
    rcases wadd_mem hv with hv | rfl
    · exact hb v hv l' (by simp [hl'])
    · exact sl_last w (h1 l' hl')
theorem wround_cover (w : List Int) : ∀ (Ls : List Int) (ws : List (List Int)), Ls.Pairwise (· < ·) → (∀ v ∈ ws, ∀ l ∈ Ls, sl v (w ++ [l])) → ∀ l ∈ Ls, ∃ v ∈ wround f s w ws Ls, nodeOf f s v = nodeOf f s (w ++ [l]) ∧ sle v (w ++ [l])
  | [], ws, _, _, l, hl => by cases hl
  | l0 :: Ls, ws, hL, hb, l, hl => by
    obtain ⟨h1, h2⟩ := List.pairwise_cons.1 hL
    have hb' : ∀ v ∈ wadd f s ws (w ++ [l0]), ∀ l ∈ Ls, sl v (w ++ [l]) := by
      intro v hv l' hl'
      rcases wadd_mem hv with hv | rfl
      · exact hb v hv l' (by simp [hl'])
      · exact sl_last w (h1 l' hl')
    rcases List.mem_cons.1 hl with rfl | hl
    · by_cases hin : nodeOf f s (w ++ [l]) ∈ ws.map (nodeOf f s)
      · obtain ⟨v, hv, e⟩ := List.mem_map.1 hin
        exact ⟨v, (wround_prefix w (l :: Ls) ws).subset hv, e, .inr (hb v hv l (by simp))⟩
      · exact ⟨w ++ [l], (wround_prefix w Ls (wadd f s ws (w ++ [l]))).subset (wadd_self hin), rfl, .inl rfl⟩
    · exact wround_cover w Ls (wadd f s ws (w ++ [l0])) h2 hb' l hl
theorem bfsw_inv (hL : L.Pairwise (· < ·)) (i : Nat) : (bfsw f s L i).Pairwise sl ∧ (∀ w, (bfsw f s L i)[i]? = some w → ∀ v ∈ bfsw f s L i, ∀ x, sl v (w ++ [x])) ∧
    (∀ j w, j < i → (bfsw f s L i)[j]? = some w → ∀ l ∈ L, ∃ v ∈ bfsw f s L i, nodeOf f s v = nodeOf f s (w ++ [l]) ∧ sle v (w ++ [l])) ∧ ∀ v ∈ bfsw f s L i, (∀ x ∈ v, x ∈ L) ∧ (v = [] ∨ ∃ u ∈ bfsw f s L i, ∃ l ∈ L, v = u ++ [l]) := by
  induction i with
  | zero =>
    refine ⟨by simp [bfsw], fun w hw v hv x => ?_, fun j w hj => by omega, fun v hv => ?_⟩
    · simp only [bfsw, List.mem_singleton] at hv
      subst hv
      exact sl_nil w x
    · simp only [bfsw, List.mem_singleton] at hv
      subst hv
      exact ⟨by simp, .inl rfl⟩
  | succ i ih =>
    obtain ⟨h1, h2, h3, h4⟩ := ih
    have hp := bfsw_prefix1 (f := f) (s := s) (L := L) i
    cases hq : (bfsw f s L i)[i]? with
    | none =>
      have e : bfsw f s L (i + 1) = bfsw f s L i := by rw [bfsw, hq]
      have hl : (bfsw f s L i).length ≤ i := by
        rcases Nat.lt_or_ge i (bfsw f s L i).length with h | h
        · rw [List.getElem?_eq_getElem h] at hq; cases hq
        · exact h
      rw [e]
      refine ⟨h1, fun w hw => ?_, fun j w hj hw => ?_, h4⟩
      · rw [List.getElem?_eq_none (by omega)] at hw; cases hw
      · rcases Nat.lt_or_ge j i with h | h
        · exact h3 j w h hw
        · rw [List.getElem?_eq_none (by omega)] at hw; cases hw
    | some w =>
      have e : bfsw f s L (i + 1) = wround f s w (bfsw f s L i) L := by rw [bfsw, hq]
      have hb := h2 w hq
      have hi := (List.getElem?_eq_some_iff.1 hq).1
      have hs : (bfsw f s L (i + 1)).Pairwise sl := by rw [e]; exact wround_sorted w L _ hL h1 (fun v hv l _ => hb v hv l)
      have hat : ∀ j, j < (bfsw f s L i).length → (bfsw f s L (i + 1))[j]? = (bfsw f s L i)[j]? := by
        intro j hj
        obtain ⟨t, ht⟩ := hp
        rw [← ht, List.getElem?_append_left hj]
      have hwi : (bfsw f s L (i + 1))[i]? = some w := by rw [hat i hi, hq]
      have hmem : ∀ v ∈ bfsw f s L (i + 1), v ∈ bfsw f s L i ∨ ∃ l ∈ L, v = w ++ [l] := fun v hv => by rw [e] at hv; exact wround_mem w L _ hv
      refine ⟨hs, fun w' hw' v hv x => ?_, fun j u hj hu l hl => ?_, fun v hv => ?_⟩
      · have hlt : sl w w' := by
          obtain ⟨g1, g2⟩ := List.getElem?_eq_some_iff.1 hwi
          obtain ⟨g3, g4⟩ := List.getElem?_eq_some_iff.1 hw'
          rw [← g2, ← g4]
          exact List.pairwise_iff_getElem.1 hs i (i + 1) g1 g3 (by omega)
        rcases hmem v hv with h | ⟨l, hl, rfl⟩
        · exact sl_trans (hb v h x) (sl_snoc x x hlt)
        · exact sl_snoc l x hlt
      · rcases Nat.lt_or_ge j i with h | h
        · rw [hat j (by omega)] at hu
          obtain ⟨v, g1, g2, g3⟩ := h3 j u h hu l hl
          exact ⟨v, hp.subset g1, g2, g3⟩
        · obtain rfl : j = i := by omega
          rw [hwi] at hu
          obtain rfl := Option.some.inj hu
          obtain ⟨v, g1, g2, g3⟩ := wround_cover (f := f) (s := s) w L _ hL (fun v hv l _ => hb v hv l) l hl
          exact ⟨v, by rw [e]; exact g1, g2, g3⟩
      · rcases hmem v hv with h | ⟨l, hl, rfl⟩
        · refine ⟨(h4 v h).1, ?_⟩
          rcases (h4 v h).2 with h5 | ⟨u, h5, l, h6, h7⟩
          · exact .inl h5
          · exact .inr ⟨u, hp.subset h5, l, h6, h7⟩
        · have hw := List.mem_of_getElem? hq
          refine ⟨fun x hx => ?_, .inr ⟨w, hp.subset hw, l, hl, rfl⟩⟩
          rcases List.mem_append.1 hx with h | h
          · exact (h4 w hw).1 x h
          · rw [List.mem_singleton.1 h]; exact hl
def ordw (f : α → Int → α) (s : α) (L : List Int) : List (List Int) := bfsw f s L (many 0)
theorem ordw_length : (ordw f s L).length = (ord f s L).length := bfsw_length _
theorem ordw_sorted (hL : L.Pairwise (· < ·)) : (ordw f s L).Pairwise sl := (bfsw_inv hL _).1
theorem ordw_over (hL : L.Pairwise (· < ·)) {v : List Int} (hv : v ∈ ordw f s L) : ∀ x ∈ v, x ∈ L := ((bfsw_inv hL _).2.2.2 v hv).1
theorem ordw_nil : [] ∈ ordw f s L := by
  have : ∀ i, [] ∈ bfsw f s L i := by
    intro i
    induction i with
    | zero => simp [bfsw]
    | succ i ih => exact (bfsw_prefix1 i).subset ih
  exact this _
theorem ordw_cover (hL : L.Pairwise (· < ·)) (hlen : (ord f s L).length ≤ 200) : ∀ (n : Nat) (v : List Int), v.length = n → (∀ x ∈ v, x ∈ L) → ∃ w ∈ ordw f s L, nodeOf f s w = nodeOf f s v ∧ sle w v := by
  intro n
  induction n with
  | zero =>
    intro v hv _
    obtain rfl := List.eq_nil_of_length_eq_zero hv
    exact ⟨[], ordw_nil, rfl, .inl rfl⟩
  | succ n ih =>
    intro v hv hx
    rcases List.eq_nil_or_concat v with rfl | ⟨u, l, rfl⟩
    · simp at hv
    · rw [List.concat_eq_append] at hv hx ⊢
      obtain ⟨w, h1, h2, h3⟩ := ih u (by simpa using hv) (fun x h => hx x (by simp [h]))
      obtain ⟨j, hj, hw⟩ := List.mem_iff_getElem.1 h1
      have hj2 : j < many 0 := by
        have := ordw_length (f := f) (s := s) (L := L)
        rw [many_eq]
        omega
      obtain ⟨w', g1, g2, g3⟩ := (bfsw_inv (f := f) (s := s) hL (many 0)).2.2.1 j w hj2 (by rw [← hw]; exact List.getElem?_eq_getElem hj) l (hx l (by simp))
      refine ⟨w', g1, ?_, sle_trans g3 (sle_snoc l h3)⟩
      rw [g2, nodeOf_snoc, nodeOf_snoc, h2]
def firstOf (f : α → Int → α) (s : α) (L : List Int) (G : α → Bool) : Option (List Int) := (ordw f s L).find? fun w => G (nodeOf f s w)
theorem first_some (hL : L.Pairwise (· < ·)) (hlen : (ord f s L).length ≤ 200) {G : α → Bool} {w : List Int} (h : firstOf f s L G = some w) : w ∈ ordw f s L ∧ G (nodeOf f s w) = true ∧ ∀ v : List Int, (∀ x ∈ v, x ∈ L) → G (nodeOf f s v) = true → sle w v := by
  obtain ⟨hg, aas, bs, e, has⟩ := List.find?_eq_some_iff_append.1 h
  refine ⟨List.mem_of_find?_eq_some h, hg, fun v hv hgv => ?_⟩
  obtain ⟨w', h1, h2, h3⟩ := ordw_cover hL hlen _ v rfl hv
  refine sle_trans ?_ h3
  rw [e] at h1
  rcases List.mem_append.1 h1 with h1 | h1
  · have := has w' h1
    rw [h2, hgv] at this
    simp at this
  · rcases List.mem_cons.1 h1 with rfl | h1
    · exact .inl rfl
    · have hs := ordw_sorted (f := f) (s := s) hL
      rw [e] at hs
      exact .inr ((List.pairwise_cons.1 (List.pairwise_append.1 hs).2.1).1 w' h1)
theorem first_none (hL : L.Pairwise (· < ·)) (hlen : (ord f s L).length ≤ 200) {G : α → Bool} (h : firstOf f s L G = none) : ∀ v : List Int, (∀ x ∈ v, x ∈ L) → G (nodeOf f s v) = false := by
  intro v hv
  obtain ⟨w', h1, h2, _⟩ := ordw_cover hL hlen _ v rfl hv
  have := List.find?_eq_none.1 h w' h1
  rw [h2] at this
  simpa using this
end
theorem letters_sorted (b : Int) : (letters b).Pairwise (· < ·) := by
  unfold letters lettersTo
  refine List.Pairwise.filter _ ?_
  refine List.pairwise_map.2 (List.Pairwise.imp ?_ List.pairwise_lt_range)
  intro x y h
  omega
end Go.Proofs.YtoboklelbbgcnaaDoor
set_option linter.unusedSimpArgs false
set_option linter.unusedVariables false
namespace Go.Proofs.YtoboklelbbgcnaaDoor
open Go.RowKit
def txb (w : List Int) : List UInt8 := w.map fun x => UInt8.ofNat (97 + x).toNat
def txt (w : List Int) : ByteArray := ⟨(txb w).toArray⟩
theorem txb_rev (w : List Int) : (txb w.reverse).reverse = txb w := by simp [txb]
def stepV (r : Int × Int × Value) : List Value := [.int .i64 r.1, .int .i64 r.2.1, r.2.2]
def rows3 (rs : List (Int × Int × Value)) : List (List Value) := rs.map stepV
theorem rows3_length (rs : List (Int × Int × Value)) : (rows3 rs).length = rs.length := List.length_map _
theorem rows3_snoc (rs : List (Int × Int × Value)) (r : Int × Int × Value) : rows3 (rs ++ [r]) = rows3 rs ++ [[.int .i64 r.1, .int .i64 r.2.1, r.2.2]] := by simp [rows3, stepV]
section
variable {w w' : World} {B : Nat} {e : TypeId} {v : Value} {rs : List (Int × Int × Value)}
theorem Wid.triple (h : Wid w B e 3 v (rows3 rs)) {i : Int} {r : Int × Int × Value} (h0 : 0 ≤ i) (hr : rs[i.toNat]? = some r) : ∃ g c, v = .slice (some ⟨g, 0, none⟩) rs.length c ∧ (i.toNat < rs.length) ∧ w.cell? ⟨g, i.toNat * 3 + 0, none⟩ = some (.int .i64 r.1) ∧ w.cell? ⟨g, i.toNat * 3 + 1, none⟩ = some (.int .i64 r.2.1) ∧ w.cell? ⟨g, i.toNat * 3 + 2, none⟩ = some r.2.2 := by
  have hi := (List.getElem?_eq_some_iff.1 hr).1
  obtain ⟨g, c, hv, _, _, hc⟩ := h.at h0 (by rw [rows3_length]; omega)
  rw [rows3_length] at hv
  have e1 : (rows3 rs).getD i.toNat [] = stepV r := by
    unfold rows3
    rw [List.getD_eq_getElem?_getD, List.getElem?_map, hr]
    rfl
  rw [e1] at hc
  exact ⟨g, c, hv, hi, hc 0 (by decide), hc 1 (by decide), hc 2 (by decide)⟩
end
def Link (ws : List (List Int)) (p l : Int) (v : List Int) : Prop := (v = [] ∧ p = -1) ∨ ∃ u, v = u ++ [l] ∧ 0 ≤ p ∧ ws[p.toNat]? = some u
theorem Link.more {ws : List (List Int)} {p l : Int} {v : List Int} (h : Link ws p l v) (us : List (List Int)) : Link (ws ++ us) p l v := by
  rcases h with h | ⟨u, h1, h2, h3⟩
  · exact .inl h
  · exact .inr ⟨u, h1, h2, by rw [List.getElem?_append_left (List.getElem?_eq_some_iff.1 h3).1]; exact h3⟩
structure Trail (w : World) (I : TypeId) (f : Int → Int → Int) (s : Int) (ws : List (List Int)) (rs : List (Int × Int × Value)) : Prop where
  len : rs.length = ws.length
  row : ∀ (j : Nat) (v : List Int), ws[j]? = some v → ∃ p l fv, rs[j]? = some (p, l, fv) ∧ Link ws p l v ∧ Ints w I fv [nodeOf f s v]
  lets : ∀ v ∈ ws, ∀ x ∈ v, 0 ≤ x ∧ x < 6
section
variable {w w' : World} {I : TypeId} {f : Int → Int → Int} {s : Int} {ws : List (List Int)} {rs : List (Int × Int × Value)}
theorem Trail.map (h : Trail w I f s ws rs) (k : ∀ v xs, Ints w I v xs → Ints w' I v xs) : Trail w' I f s ws rs :=
  ⟨h.len, fun j v hv => by
    obtain ⟨p, l, fv, h1, h2, h3⟩ := h.row j v hv
    exact ⟨p, l, fv, h1, h2, k _ _ h3⟩, h.lets⟩
theorem Trail.ext (h : Trail w I f s ws rs) (x : Ext w w') : Trail w' I f s ws rs := h.map fun _ _ h => h.ext x
theorem Trail.owned {B : Nat} {t : TypeId} {u : Value} {us : List Value} (h : Trail w I f s ws rs) (ho : Own w B t u us) (hg : w.grownBy w' u.ownBlock) (hne : t ≠ I) : Trail w' I f s ws rs := h.map fun _ _ h => Row.owned h ho hg hne
theorem Trail.stored {g : Nat} {t : TypeId} {cs : List Value} (h : Trail w I f s ws rs) (hg : w.grownBy w' (some g)) (hb : Blk w g t cs) (hne : t ≠ I) : Trail w' I f s ws rs := h.map fun _ _ h => Row.stored h hg hb hne
theorem Trail.wid {B n : Nat} {e : TypeId} {u : Value} {rows : List (List Value)} (h : Trail w I f s ws rs) (ho : Wid w B e n u rows) (hg : w.grownBy w' u.ownBlock) (hne : e ≠ I) : Trail w' I f s ws rs := h.map fun _ _ h => Row.wid h ho hg hne
theorem Trail.nil (w : World) (I : TypeId) (f : Int → Int → Int) (s : Int) : Trail w I f s [] [] := ⟨rfl, by simp, by simp⟩
theorem Trail.snoc (h : Trail w I f s ws rs) {p l : Int} {fv : Value} {v : List Int} (hl : Link ws p l v) (hf : Ints w I fv [nodeOf f s v]) (hv : ∀ x ∈ v, 0 ≤ x ∧ x < 6) : Trail w I f s (ws ++ [v]) (rs ++ [(p, l, fv)]) := by
  refine ⟨by simp [h.len], fun j u hu => ?_, fun u hu => ?_⟩
  · rcases Nat.lt_or_ge j ws.length with hj | hj
    · rw [List.getElem?_append_left hj] at hu
      obtain ⟨p', l', fv', h1, h2, h3⟩ := h.row j u hu
      exact ⟨p', l', fv', by rw [List.getElem?_append_left (by rw [h.len]; exact hj)]; exact h1, h2.more _, h3⟩
    · have hj2 := (List.getElem?_eq_some_iff.1 hu).1
      rw [List.length_append, List.length_singleton] at hj2
      obtain rfl : j = ws.length := by omega
      rw [List.getElem?_append_right (Nat.le_refl _), Nat.sub_self] at hu
      have hu' : v = u := by simpa using hu
      subst hu'
      exact ⟨p, l, fv, by rw [List.getElem?_append_right (by rw [h.len]; exact Nat.le_refl _), h.len, Nat.sub_self]; rfl, hl.more _, hf⟩
  · rcases List.mem_append.1 hu with h' | h'
    · exact h.lets u h'
    · rw [List.mem_singleton.1 h']; exact hv
end
def seenOf (n : Nat) (ns : List Int) : List Bool := (List.range n).map fun (i : Nat) => decide ((i : Int) ∈ ns)
theorem seenOf_length (n : Nat) (ns : List Int) : (seenOf n ns).length = n := by simp [seenOf]
theorem seenOf_nil (n : Nat) : seenOf n [] = List.replicate n false := by
  apply List.ext_getElem <;> simp [seenOf]
theorem seenOf_at {n : Nat} {ns : List Int} {q : Int} (hq : 0 ≤ q ∧ q < n) : (seenOf n ns).getD q.toNat false = decide (q ∈ ns) := by
  have h : q.toNat < n := by omega
  have e : ((q.toNat : Nat) : Int) = q := Int.toNat_of_nonneg hq.1
  simp [seenOf, List.getD_eq_getElem?_getD, h, e]
theorem seenOf_set {n : Nat} {ns : List Int} {q : Int} (hq : 0 ≤ q) : (seenOf n ns).set q.toNat true = seenOf n (ns ++ [q]) := by
  apply List.ext_getElem
  · simp [seenOf]
  · intro i h1 h2
    rw [List.getElem_set]
    by_cases h : q.toNat = i
    · have : ((i : Nat) : Int) = q := by omega
      simp [seenOf, h, this]
    · have : ((i : Nat) : Int) ≠ q := by omega
      simp [seenOf, h, this]
theorem Own.seen0 {w : World} {B n : Nat} {e : TypeId} {v : Value} (h : Own w B e v (List.replicate n (Value.bool false))) : Own w B e v ((seenOf n []).map Value.bool) := by rw [seenOf_nil, List.map_replicate]; exact h
theorem seen_n {w : World} {B n : Nat} {e : TypeId} {v : Value} {m : Int} (hm : m = n) (h : Own w B e v (List.replicate m.toNat (Value.bool false))) : Own w B e v (List.replicate n (Value.bool false)) := by
  subst hm; exact h
def NClo (P : Program) (w0 : World) (I : TypeId) (fv : Value) (D : Int → Prop) (f : Int → Int → Int) : Prop :=
  ∃ k fn, ∃ cs : List Value, fv = .func (.func k) #[] cs.toArray ∧ Fn P k fn ∧ ∀ w q x, Ext w0 w → D q → 0 ≤ x ∧ x < 6 → Ret P k ([Value.int .i64 q, Value.int .i64 x, Value.slice none 0 0] ++ cs).toArray w fun v w' => Own w' w.heap.size I v [Value.int .i64 (f q x)] ∧ Ext w w'
def GClo (P : Program) (w0 : World) (gv : Value) (D : Int → Prop) (G : Int → Bool) : Prop :=
  ∃ k fn, ∃ cs : List Value, gv = .func (.func k) #[] cs.toArray ∧ Fn P k fn ∧ ∀ w q, Ext w0 w → D q → Ret P k ([Value.int .i64 q] ++ cs).toArray w fun v w' => v = .bool (G q) ∧ Ext w w'
theorem NClo.up {P : Program} {w0 w1 : World} {I : TypeId} {fv : Value} {D : Int → Prop} {f : Int → Int → Int} (h : NClo P w0 I fv D f) (x : Ext w0 w1) : NClo P w1 I fv D f := by
  obtain ⟨k, fn, cs, h1, h2, h3⟩ := h
  exact ⟨k, fn, cs, h1, h2, fun w q y hw hq hy => h3 w q y (x.trans hw) hq hy⟩
theorem GClo.up {P : Program} {w0 w1 : World} {gv : Value} {D : Int → Prop} {G : Int → Bool} (h : GClo P w0 gv D G) (x : Ext w0 w1) : GClo P w1 gv D G := by
  obtain ⟨k, fn, cs, h1, h2, h3⟩ := h
  exact ⟨k, fn, cs, h1, h2, fun w q hw hq => h3 w q (x.trans hw) hq⟩
def BClo (P : Program) (w0 : World) (gv : Value) (g : Bool → Bool → Bool) : Prop :=
  ∃ k fn, ∃ cs : List Value, gv = .func (.func k) #[] cs.toArray ∧ Fn P k fn ∧ ∀ w x y, Ext w0 w → Ret P k ([Value.bool x, Value.bool y] ++ cs).toArray w fun v w' => v = .bool (g x y) ∧ Ext w w'
theorem BClo.up {P : Program} {w0 w1 : World} {gv : Value} {g : Bool → Bool → Bool} (h : BClo P w0 gv g) (x : Ext w0 w1) : BClo P w1 gv g := by
  obtain ⟨k, fn, cs, h1, h2, h3⟩ := h
  exact ⟨k, fn, cs, h1, h2, fun w a b hw => h3 w a b (x.trans hw)⟩
theorem BClo.one {P : Program} {w0 : World} {gv : Value} {g : Bool → Bool → Bool} (h : BClo P w0 gv g) : gv.oneCell' = true := by
  obtain ⟨k, fn, cs, h1, _⟩ := h
  rw [h1]; rfl
def SMem (wb w : World) (I Bo LB S LS GT : TypeId) (B bs bt bg : Nat) (gv : Value) (n : Nat) (f : Int → Int → Int) (s : Int) (ws : List (List Int)) : Prop :=
  ∃ sv tv rs, Blk w bs LB [sv] ∧ Own w B Bo sv ((seenOf n (ws.map (nodeOf f s))).map Value.bool) ∧ Blk w bt LS [tv] ∧ Wid w B S 3 tv (rows3 rs) ∧ Trail w I f s ws rs ∧ Blk w bg GT [gv] ∧ Ext wb w ∧ wb.heap.size ≤ B ∧ wb.heap.size ≤ bs ∧ wb.heap.size ≤ bt ∧ B ≤ w.heap.size
section
variable {wb w w' : World} {I Bo LB S LS GT : TypeId} {B bs bt bg n : Nat} {gv : Value} {f : Int → Int → Int} {s : Int} {ws : List (List Int)}
theorem SMem.ext (h : SMem wb w I Bo LB S LS GT B bs bt bg gv n f s ws) (x : Ext w w') : SMem wb w' I Bo LB S LS GT B bs bt bg gv n f s ws := by
  obtain ⟨sv, tv, rs, h1, h2, h3, h4, h5, h6, h7, h8, h9, h10, h11⟩ := h
  exact ⟨sv, tv, rs, h1.ext x, h2.ext x, h3.ext x, h4.ext x, h5.ext x, h6.ext x, h7.trans x, h8, h9, h10, Nat.le_trans h11 (Below.size x)⟩
theorem SMem.base (h : SMem wb w I Bo LB S LS GT B bs bt bg gv n f s ws) : Ext wb w := by
  obtain ⟨sv, tv, rs, h1, h2, h3, h4, h5, h6, h7, h8⟩ := h
  exact h7
end
theorem Wid.one {w : World} {B n : Nat} {e : TypeId} {v : Value} {rows : List (List Value)} (h : Wid w B e n v rows) : v.oneCell' = true := by
  rcases h.cases with ⟨rfl, _⟩ | ⟨g, cap, cs, rfl, _⟩ <;> rfl
theorem Own.snocT {w : World} {B : Nat} {e : TypeId} {v : Value} {t : List Int} {l : Int} (h : Own w B e v ((txb t.reverse).map (fun b => Value.int .u8 (b.toNat : Int)) ++ [Value.int .u8 (97 + l)])) (hl : 0 ≤ l ∧ l < 6) : Own w B e v ((txb (l :: t).reverse).map fun b => Value.int .u8 (b.toNat : Int)) := by
  have e1 : (txb (l :: t).reverse).map (fun b => Value.int .u8 (b.toNat : Int)) = (txb t.reverse).map (fun b => Value.int .u8 (b.toNat : Int)) ++ [Value.int .u8 (97 + l)] := by
    have := u8_of (n := 97 + l) (by omega)
    simp only [txb, List.reverse_cons, List.map_append, List.map_cons, List.map_nil, this]
  rw [e1]; exact h
section
variable {f : Int → Int → Int} {s : Int} {L : List Int} {G : Int → Bool}
def wmid (f : Int → Int → Int) (s : Int) (L : List Int) (i : Nat) (u : List Int) (k : Nat) : List (List Int) := wround f s u (bfsw f s L i) (L.take k)
theorem wmid_succ {i : Nat} {u : List Int} {k : Nat} (hk : k < L.length) : wmid f s L i u (k + 1) = wadd f s (wmid f s L i u k) (u ++ [L.getD k 0]) := by
  unfold wmid wround
  rw [take_snoc 0 hk, List.foldl_append]
  rfl
theorem wmid_done {i : Nat} {u : List Int} {k : Nat} (h : L.length ≤ k) (hu : (bfsw f s L i)[i]? = some u) : wmid f s L i u k = bfsw f s L (i + 1) := by
  rw [bfsw, hu]
  unfold wmid
  rw [List.take_of_length_le h]
theorem wmid_more (i : Nat) (u : List Int) (k : Nat) : bfsw f s L i <+: wmid f s L i u k := wround_prefix _ _ _
theorem wmid_last {i : Nat} {u : List Int} {k : Nat} (hu : (bfsw f s L i)[i]? = some u) : wmid f s L i u k <+: bfsw f s L (i + 1) := by
  rcases Nat.lt_or_ge k L.length with h | h
  · rw [← wmid_done (k := L.length) (Nat.le_refl _) hu]
    unfold wmid wround
    have e : L.take L.length = L.take k ++ L.drop k := by rw [List.take_length, List.take_append_drop]
    rw [e, List.foldl_append]
    exact wround_prefix (f := f) (s := s) u (L.drop k) _
  · rw [wmid_done h hu]; exact List.prefix_refl _
theorem bfsw_more {i j : Nat} (h : i ≤ j) : bfsw f s L i <+: bfsw f s L j := by
  induction j with
  | zero => obtain rfl : i = 0 := by omega
            exact List.prefix_refl _
  | succ j ih =>
    rcases Nat.lt_or_ge i (j + 1) with h1 | h1
    · exact (ih (by omega)).trans (bfsw_prefix1 j)
    · obtain rfl : i = j + 1 := by omega
      exact List.prefix_refl _
theorem wadd_T {ws : List (List Int)} {v : List Int} (h : nodeOf f s v ∈ ws.map (nodeOf f s)) : wadd f s ws v = ws := if_pos h
theorem wadd_F {ws : List (List Int)} {v : List Int} (h : nodeOf f s v ∉ ws.map (nodeOf f s)) : wadd f s ws v = ws ++ [v] := if_neg h
theorem first_found {i : Nat} {u : List Int} {k : Nat} (hu : (bfsw f s L i)[i]? = some u) (hi : i + 1 ≤ 200) (hk : k < L.length) (hG : ∀ v ∈ wmid f s L i u k, G (nodeOf f s v) = false) (hn : nodeOf f s (u ++ [L.getD k 0]) ∉ (wmid f s L i u k).map (nodeOf f s)) (hg : G (nodeOf f s (u ++ [L.getD k 0])) = true) :
    firstOf f s L G = some (u ++ [L.getD k 0]) := by
  have h1 := wmid_last (k := k + 1) hu
  rw [wmid_succ hk, wadd_F hn] at h1
  obtain ⟨t, ht⟩ := h1.trans (bfsw_more (f := f) (s := s) (L := L) (i := i + 1) (j := many 0) (by rw [many_eq]; exact hi))
  unfold firstOf ordw
  rw [← ht, List.append_assoc, List.find?_append, List.find?_eq_none.2 (fun v hv => by rw [hG v hv]; decide), Option.none_or, List.singleton_append]
  exact List.find?_cons_of_pos (p := fun w => G (nodeOf f s w)) hg
theorem first_missed {i : Nat} (hl : (bfsw f s L i).length ≤ i) (hi : i ≤ 200) (hG : ∀ v ∈ bfsw f s L i, G (nodeOf f s v) = false) : firstOf f s L G = none := by
  have e : bfsw f s L (many 0) = bfsw f s L i := by
    have h1 := bfsw_more (f := f) (s := s) (L := L) (i := i) (j := many 0) (by rw [many_eq]; exact hi)
    refine (h1.eq_of_length ?_).symm
    rw [bfsw_length, bfsw_length]
    rw [bfsw_length] at hl
    rw [bfs_stop (j := many 0) hl (by rw [many_eq]; exact hi)]
  unfold firstOf ordw
  rw [e, List.find?_eq_none.2 (fun v hv => by rw [hG v hv]; decide)]
theorem first_here (hg : G s = true) : firstOf f s L G = some [] := by
  obtain ⟨t, ht⟩ := bfsw_more (f := f) (s := s) (L := L) (i := 0) (j := many 0) (Nat.zero_le _)
  unfold firstOf ordw
  rw [← ht]
  have : bfsw f s L 0 = [[]] := rfl
  rw [this]
  simp [nodeOf, hg]
theorem bfsw_lets {i : Nat} (hL : ∀ x ∈ L, 0 ≤ x ∧ x < 6) : ∀ v ∈ bfsw f s L i, ∀ x ∈ v, 0 ≤ x ∧ x < 6 := by
  induction i with
  | zero =>
    intro v hv
    have : v = [] := by simpa [bfsw] using hv
    subst this
    intro x hx; cases hx
  | succ i ih =>
    intro v hv
    rw [bfsw] at hv
    cases h : (bfsw f s L i)[i]? with
    | none => rw [h] at hv; exact ih v hv
    | some u =>
      rw [h] at hv
      rcases wround_mem u L _ hv with h' | ⟨l, hl, rfl⟩
      · exact ih v h'
      · intro x hx
        rcases List.mem_append.1 hx with h1 | h1
        · exact ih u (List.mem_of_getElem? h) x h1
        · rw [List.mem_singleton.1 h1]; exact hL l hl
theorem wadd_miss {ws : List (List Int)} {v : List Int} (h : ∀ u ∈ ws, G (nodeOf f s u) = false) (hf : (!decide (nodeOf f s v ∈ ws.map (nodeOf f s)) && G (nodeOf f s v)) = false) : ∀ u ∈ wadd f s ws v, G (nodeOf f s u) = false := by
  intro u hu
  by_cases hm : nodeOf f s v ∈ ws.map (nodeOf f s)
  · rw [wadd_T hm] at hu; exact h u hu
  · rw [wadd_F hm] at hu
    rcases List.mem_append.1 hu with h1 | h1
    · exact h u h1
    · rw [List.mem_singleton.1 h1]
      simpa [hm] using hf
theorem bfsw_range {n : Nat} {D : Int → Prop} (h0 : D s) (hD : ∀ q, D q → ∀ x ∈ L, D (f q x)) (hn : ∀ q, D q → 0 ≤ q ∧ q < n) (i : Nat) : (bfsw f s L i).length ≤ n := by
  rw [bfsw_length]
  have h1 := nodup_len (U := (List.range n).map fun (i : Nat) => (i : Int)) (bfs_nodup (f := f) (s := s) (L := L) i) (fun q hq => inU.2 (hn q (bfs_all h0 hD i q hq)))
  simpa using h1
theorem bfsw_lenw {i j : Nat} {u : List Int} (h : (bfsw f s L i)[j]? = some u) : u.length ≤ i := by
  have hall : ∀ v ∈ bfsw f s L i, v.length ≤ i := by
    clear h
    induction i with
    | zero =>
      intro v hv
      have : v = [] := by simpa [bfsw] using hv
      subst this
      exact Nat.le_refl _
    | succ i ih =>
      intro v hv
      rw [bfsw] at hv
      cases h : (bfsw f s L i)[i]? with
      | none => rw [h] at hv; exact Nat.le_succ_of_le (ih v hv)
      | some u =>
        rw [h] at hv
        rcases wround_mem u L _ hv with h' | ⟨l, hl, rfl⟩
        · exact Nat.le_succ_of_le (ih v h')
        · have := ih u (List.mem_of_getElem? h)
          simp only [List.length_append, List.length_singleton]
          omega
  exact hall u (List.mem_of_getElem? h)
theorem nodeOf_in {D : Int → Prop} (h0 : D s) (hD : ∀ q, D q → ∀ x ∈ L, D (f q x)) : ∀ (i : Nat), ∀ v ∈ bfsw f s L i, D (nodeOf f s v) := by
  intro i v hv
  have : nodeOf f s v ∈ bfs f s L i := by rw [← bfsw_map]; exact List.mem_map.2 ⟨v, hv, rfl⟩
  exact bfs_all h0 hD i _ this
end
section maps
variable {α β : Type} [DecidableEq α] [DecidableEq β] {f : α → Int → α} {s : α} {L : List Int} {f' : β → Int → β} {g : α → β} {P : α → Prop}
omit [DecidableEq α] [DecidableEq β] in
theorem nodeOf_map (h0 : P s) (hs : ∀ q, P q → ∀ l ∈ L, P (f q l)) (hf : ∀ q, P q → ∀ l ∈ L, f' (g q) l = g (f q l)) : ∀ (v : List Int), (∀ x ∈ v, x ∈ L) → nodeOf f' (g s) v = g (nodeOf f s v) ∧ P (nodeOf f s v) := by
  intro v
  induction v generalizing s with
  | nil => intro _; exact ⟨rfl, h0⟩
  | cons x v ih =>
    intro hv
    have hx := hv x (by simp)
    have := ih (s := f s x) (hs s h0 x hx) (fun y hy => hv y (by simp [hy]))
    show nodeOf f' (f' (g s) x) v = g (nodeOf f (f s x) v) ∧ P (nodeOf f (f s x) v)
    rw [hf s h0 x hx]
    exact this
theorem wround_over (u : List Int) (hu : ∀ x ∈ u, x ∈ L) : ∀ (Ls : List Int) (ws : List (List Int)), (∀ l ∈ Ls, l ∈ L) → (∀ v ∈ ws, ∀ x ∈ v, x ∈ L) → ∀ v ∈ wround f s u ws Ls, ∀ x ∈ v, x ∈ L := by
  intro Ls ws hLs hws v hv
  rcases wround_mem u Ls ws hv with h | ⟨l, hl, rfl⟩
  · exact hws v h
  · intro x hx
    rcases List.mem_append.1 hx with h1 | h1
    · exact hu x h1
    · rw [List.mem_singleton.1 h1]; exact hLs l hl
theorem bfsw_over (i : Nat) : ∀ v ∈ bfsw f s L i, ∀ x ∈ v, x ∈ L := by
  induction i with
  | zero =>
    intro v hv
    have : v = [] := by simpa [bfsw] using hv
    subst this
    intro x hx; cases hx
  | succ i ih =>
    intro v hv
    rw [bfsw] at hv
    cases h : (bfsw f s L i)[i]? with
    | none => rw [h] at hv; exact ih v hv
    | some u => rw [h] at hv; exact wround_over u (ih u (List.mem_of_getElem? h)) L _ (fun _ h => h) ih v hv
theorem wadd_map' (hg : ∀ a b, P a → P b → g a = g b → a = b) (h0 : P s) (hs : ∀ q, P q → ∀ l ∈ L, P (f q l)) (hf : ∀ q, P q → ∀ l ∈ L, f' (g q) l = g (f q l)) {ws : List (List Int)} {v : List Int} (hws : ∀ u ∈ ws, ∀ x ∈ u, x ∈ L) (hv : ∀ x ∈ v, x ∈ L) : wadd f' (g s) ws v = wadd f s ws v := by
  have h1 := nodeOf_map h0 hs hf v hv
  have e : nodeOf f' (g s) v ∈ ws.map (nodeOf f' (g s)) ↔ nodeOf f s v ∈ ws.map (nodeOf f s) := by
    constructor
    · intro h
      obtain ⟨u, hu, he⟩ := List.mem_map.1 h
      have h2 := nodeOf_map h0 hs hf u (hws u hu)
      rw [h1.1, h2.1] at he
      exact List.mem_map.2 ⟨u, hu, hg _ _ h2.2 h1.2 he⟩
    · intro h
      obtain ⟨u, hu, he⟩ := List.mem_map.1 h
      have h2 := nodeOf_map h0 hs hf u (hws u hu)
      exact List.mem_map.2 ⟨u, hu, by rw [h1.1, h2.1, he]⟩
  unfold wadd
  by_cases h : nodeOf f s v ∈ ws.map (nodeOf f s)
  · rw [if_pos h, if_pos (e.2 h)]
  · rw [if_neg h, if_neg (fun hc => h (e.1 hc))]
theorem wround_map' (hg : ∀ a b, P a → P b → g a = g b → a = b) (h0 : P s) (hs : ∀ q, P q → ∀ l ∈ L, P (f q l)) (hf : ∀ q, P q → ∀ l ∈ L, f' (g q) l = g (f q l)) {u : List Int} (hu : ∀ x ∈ u, x ∈ L) : ∀ (Ls : List Int) (ws : List (List Int)), (∀ l ∈ Ls, l ∈ L) → (∀ v ∈ ws, ∀ x ∈ v, x ∈ L) → wround f' (g s) u ws Ls = wround f s u ws Ls
  | [], ws, _, _ => rfl
  | l :: Ls, ws, hLs, hws => by
    have hul : ∀ x ∈ u ++ [l], x ∈ L := fun x hx => by
      rcases List.mem_append.1 hx with h1 | h1
      · exact hu x h1
      · rw [List.mem_singleton.1 h1]; exact hLs l (by simp)
    have e := wadd_map' hg h0 hs hf hws hul
    show wround f' (g s) u (wadd f' (g s) ws (u ++ [l])) Ls = wround f s u (wadd f s ws (u ++ [l])) Ls
    rw [e]
    refine wround_map' hg h0 hs hf hu Ls _ (fun x hx => hLs x (by simp [hx])) (fun v hv => ?_)
    rcases wadd_mem hv with h | rfl
    · exact hws v h
    · exact hul
theorem bfsw_map' (hg : ∀ a b, P a → P b → g a = g b → a = b) (h0 : P s) (hs : ∀ q, P q → ∀ l ∈ L, P (f q l)) (hf : ∀ q, P q → ∀ l ∈ L, f' (g q) l = g (f q l)) (i : Nat) : bfsw f' (g s) L i = bfsw f s L i := by
  induction i with
  | zero => rfl
  | succ i ih =>
    rw [bfsw, bfsw, ih]
    cases h : (bfsw f s L i)[i]? with
    | none => rfl
    | some u => exact wround_map' hg h0 hs hf (bfsw_over i u (List.mem_of_getElem? h)) L _ (fun _ h => h) (bfsw_over i)
theorem firstOf_map {G : α → Bool} {G' : β → Bool} (hg : ∀ a b, P a → P b → g a = g b → a = b) (h0 : P s) (hs : ∀ q, P q → ∀ l ∈ L, P (f q l)) (hf : ∀ q, P q → ∀ l ∈ L, f' (g q) l = g (f q l)) (hG : ∀ q, P q → G' (g q) = G q) : firstOf f' (g s) L G' = firstOf f s L G := by
  unfold firstOf ordw
  rw [bfsw_map' hg h0 hs hf]
  have : ∀ (ws : List (List Int)), (∀ v ∈ ws, ∀ x ∈ v, x ∈ L) → ws.find? (fun w => G' (nodeOf f' (g s) w)) = ws.find? (fun w => G (nodeOf f s w)) := by
    intro ws
    induction ws with
    | nil => intro _; rfl
    | cons v ws ih =>
      intro h
      have h1 := nodeOf_map h0 hs hf v (h v (by simp))
      rw [List.find?_cons, List.find?_cons, h1.1, hG _ h1.2, ih (fun u hu => h u (by simp [hu]))]
  exact this _ (bfsw_over _)
end maps
def firstAB (a b : A) (p : Int × Int) (g : Bool → Bool → Bool) : Option (List Int) := firstOf (step2 a b) p (letters a.al) fun p => g (accA a p.1) (accA b p.2)
def resW (o : Option (List Int)) : Value := .tuple #[.string (txt (o.getD [])), .bool o.isSome]
def inA (a : A) (i : Int) : Bool := decide (0 ≤ i ∧ i < (a.next.length : Int))
def fSplit (a : A) (i j : Int) : Option (List Int) := if (validA a && (inA a i && inA a j)) = true then firstAB a a (i, j) (fun x y => x != y) else none
theorem firstAB_enc {a b : A} {p : Int × Int} {g : Bool → Bool → Bool} (hv : validA a = true) (hv' : validA b = true) (hp : In2 a b p) : firstOf (fP a b) (enc2 b p) (letters a.al) (fun q => g (accA a (q / (b.next.length : Int))) (accA b (q % (b.next.length : Int)))) = firstAB a b p g :=
  firstOf_map (P := In2 a b) (g := enc2 b) (enc_inj) hp (fun q hq l hl => in2 hv hv' hq ⟨(mem_letters hl).1, (mem_letters hl).2.1⟩) (fun q hq l _ => fP_enc hq l) (fun q hq => by rw [(enc_div hq).1, (enc_div hq).2])
end Go.Proofs.YtoboklelbbgcnaaDoor
set_option linter.unusedSimpArgs false
set_option linter.unusedVariables false
namespace Go.Proofs.YtoboklelbbgcnaaDoor
open Go.RowKit
section
variable {w w' : World} {B n : Nat} {e : TypeId} {v : Value} {rows : List (List Value)}
theorem Wid.rowAt (h : Wid w B e n v rows) {i : Int} (h0 : 0 ≤ i) {r : List Value} (hr : rows[i.toNat]? = some r) : ∃ g c, v = .slice (some ⟨g, 0, none⟩) rows.length c ∧ i.toNat < rows.length := by
  have hi := (List.getElem?_eq_some_iff.1 hr).1
  obtain ⟨g, c, hv, _⟩ := h.at h0 (by omega)
  exact ⟨g, c, hv, hi⟩
end
def NetA (w : World) (AU SI I Bo : TypeId) (av : Value) (aas : List A) : Prop :=
  ∃ B rows, Wid w B AU 3 av rows ∧ rows.length = aas.length ∧ ∀ (j : Nat) (a : A), aas[j]? = some a → ∃ nx ac, rows[j]? = some [.int .i64 a.al, nx, ac] ∧ Rows w SI I nx a.next ∧ Bools w Bo ac a.acc
theorem NetA.ext {w w' : World} {AU SI I Bo : TypeId} {av : Value} {aas : List A} (h : NetA w AU SI I Bo av aas) (x : Ext w w') : NetA w' AU SI I Bo av aas := by
  obtain ⟨B, rows, h1, h2, h3⟩ := h
  refine ⟨B, rows, h1.ext x, h2, fun j a ha => ?_⟩
  obtain ⟨nx, ac, g1, g2, g3⟩ := h3 j a ha
  exact ⟨nx, ac, g1, g2.ext x, g3.ext x⟩
theorem NetA.one {w : World} {AU SI I Bo : TypeId} {av : Value} {aas : List A} (h : NetA w AU SI I Bo av aas) : av.oneCell' = true := by
  obtain ⟨B, rows, h1, _⟩ := h
  exact h1.one
def Cell1 (w : World) (p : Addr) (u : Value) : Prop := w.cell? p = some u
theorem Cell1.ext {w w' : World} {p : Addr} {u : Value} (h : Cell1 w p u) (x : Ext w w') : Cell1 w' p u := by
  have hb := World.block_lt_of_cell? w p h
  unfold Cell1 at *
  rw [← h]
  unfold World.cell?
  rw [x.block p.block hb]
theorem at_getD {α : Type} {l : List α} {k : Nat} {d : α} (h : k < l.length) : l[k]? = some (l.getD k d) := by
  rw [List.getD_eq_getElem?_getD, List.getElem?_eq_getElem h]; rfl
def Read3 (w : World) (e3 e2 e1 : TypeId) (v : Value) (xsss : List (List (List Int))) : Prop := ∃ rs, Row w e3 v rs ∧ rs.length = xsss.length ∧ ∀ (i : Nat) (r : Value), rs[i]? = some r → Rows w e2 e1 r (xsss.getD i [])
def RowU (w : World) (U : Nat) (e : TypeId) (v : Value) (vs : List Value) : Prop := Row w e v vs ∧ ∀ k, v.ownBlock = some k → k < U
def RowsU (w : World) (U : Nat) (e e' : TypeId) (v : Value) (xss : List (List Int)) : Prop := ∃ rs, RowU w U e v rs ∧ rs.length = xss.length ∧ ∀ (i : Nat) (r : Value), rs[i]? = some r → RowU w U e' r ((xss.getD i []).map (Value.int .i64))
def Own3 (w : World) (B U : Nat) (e3 e2 e1 : TypeId) (v : Value) (xsss : List (List (List Int))) : Prop := ∃ rs, Own w B e3 v rs ∧ rs.length = xsss.length ∧ ∀ (i : Nat) (r : Value), rs[i]? = some r → RowsU w U e2 e1 r (xsss.getD i [])
section
variable {w w' : World} {B U : Nat} {e e' e1 e2 e3 : TypeId} {v : Value} {vs : List Value} {xss : List (List Int)} {xsss : List (List (List Int))}
theorem RowU.ext (h : RowU w U e v vs) (x : Ext w w') : RowU w' U e v vs := ⟨h.1.ext x, h.2⟩
theorem RowU.apart {g : Nat} (h : RowU w U e v vs) (hg : w.grownBy w' (some g)) (hU : U ≤ g) : RowU w' U e v vs := by
  refine ⟨?_, h.2⟩
  rcases h.1 with h1 | ⟨b, o, c, cur, fr, hv, hb, hx⟩
  · exact .inl h1
  · refine .inr ⟨b, o, c, cur, fr, hv, ?_, hx⟩
    have hlt := h.2 b (by rw [hv]; rfl)
    rw [hg.block b (lt_of_block hb) (fun h => by injection h with h; omega)]
    exact hb
theorem RowU.other {B' : Nat} {t : TypeId} {u : Value} {us : List Value} (h : RowU w U e v vs) (ho : Own w B' t u us) (hg : w.grownBy w' u.ownBlock) (hne : t ≠ e) : RowU w' U e v vs := ⟨h.1.owned ho hg hne, h.2⟩
theorem RowsU.ext (h : RowsU w U e e' v xss) (x : Ext w w') : RowsU w' U e e' v xss := by
  obtain ⟨rs, h1, h2, h3⟩ := h
  exact ⟨rs, h1.ext x, h2, fun i r hr => (h3 i r hr).ext x⟩
theorem RowsU.apart {g : Nat} (h : RowsU w U e e' v xss) (hg : w.grownBy w' (some g)) (hU : U ≤ g) : RowsU w' U e e' v xss := by
  obtain ⟨rs, h1, h2, h3⟩ := h
  exact ⟨rs, h1.apart hg hU, h2, fun i r hr => (h3 i r hr).apart hg hU⟩
theorem RowsU.other {B' : Nat} {t : TypeId} {u : Value} {us : List Value} (h : RowsU w U e e' v xss) (ho : Own w B' t u us) (hg : w.grownBy w' u.ownBlock) (hne : t ≠ e) (hne' : t ≠ e') : RowsU w' U e e' v xss := by
  obtain ⟨rs, h1, h2, h3⟩ := h
  exact ⟨rs, h1.other ho hg hne, h2, fun i r hr => (h3 i r hr).other ho hg hne'⟩
theorem RowsU.up {U' : Nat} (h : RowsU w U e e' v xss) (hU : U ≤ U') : RowsU w U' e e' v xss := by
  obtain ⟨rs, h1, h2, h3⟩ := h
  exact ⟨rs, ⟨h1.1, fun k hk => Nat.lt_of_lt_of_le (h1.2 k hk) hU⟩, h2, fun i r hr => ⟨(h3 i r hr).1, fun k hk => Nat.lt_of_lt_of_le ((h3 i r hr).2 k hk) hU⟩⟩
theorem RowsU.rows (h : RowsU w U e e' v xss) : Rows w e e' v xss := by
  obtain ⟨rs, h1, h2, h3⟩ := h
  exact ⟨rs, h1.1, h2, fun i r hr => (h3 i r hr).1⟩
theorem RowsU.of (h : OwnRows w B w.heap.size e e' v xss) : RowsU w w.heap.size e e' v xss := by
  obtain ⟨rs, h1, h2, h3, h4⟩ := h
  exact ⟨rs, ⟨h1.row, fun k hk => (h1.lt k hk).2⟩, h2, fun i r hr => ⟨(h3 i r hr).1.row, (h3 i r hr).2⟩⟩
theorem Own3.nil (w : World) (B U : Nat) (e3 e2 e1 : TypeId) {v : Value} (h : Own w B e3 v []) : Own3 w B U e3 e2 e1 v [] := ⟨[], h, rfl, by simp⟩
theorem Own3.now (h : Own3 w B U e3 e2 e1 v xsss) (hU : U ≤ w.heap.size := by omega) : Own3 w B w.heap.size e3 e2 e1 v xsss := by
  obtain ⟨rs, h1, h2, h3⟩ := h
  exact ⟨rs, h1, h2, fun i r hr => (h3 i r hr).up hU⟩
theorem Own3.ext (h : Own3 w B U e3 e2 e1 v xsss) (x : Ext w w') : Own3 w' B U e3 e2 e1 v xsss := by
  obtain ⟨rs, h1, h2, h3⟩ := h
  exact ⟨rs, h1.ext x, h2, fun i r hr => (h3 i r hr).ext x⟩
theorem Own3.apart {B' : Nat} {t : TypeId} {u : Value} {us : List Value} (h : Own3 w B U e3 e2 e1 v xsss) (ho : Own w B' t u us) (hg : w.grownBy w' u.ownBlock) (hB : U ≤ B') (hne : t ≠ e3) : Own3 w' B U e3 e2 e1 v xsss := by
  obtain ⟨rs, h1, h2, h3⟩ := h
  refine ⟨rs, h1.owned ho hg hne, h2, fun i r hr => ?_⟩
  rcases ho.cases with ⟨rfl, rfl⟩ | ⟨g, cap, cs, rfl, hg', hb, _⟩
  · exact (h3 i r hr).ext (Ext.of_grown hg)
  · exact (h3 i r hr).apart (g := g) hg (Nat.le_trans hB hg')
theorem Own3.open (h : Own3 w B U e3 e2 e1 v xsss) (hne : e3 ≠ e2) (hne' : e3 ≠ e1) : ∃ rs, Own w B e3 v rs ∧ rs.length = xsss.length ∧
    ∀ r xss w1 v' w', Ext w w1 → RowsU w1 w1.heap.size e2 e1 r xss → U ≤ w1.heap.size → Own w' B e3 v' (rs ++ [r]) → w1.grownBy w' v.ownBlock → Own3 w' B w'.heap.size e3 e2 e1 v' (xsss ++ [xss]) := by
  obtain ⟨rs, h1, h2, h3⟩ := h
  refine ⟨rs, h1, h2, fun r xss w1 v' w' x hr hU hv hg => ?_⟩
  have hv1 := h1.ext x
  have hsz := World.grownBy.size hg
  refine ⟨rs ++ [r], hv, by simp [h2], fun i q hq => ?_⟩
  rcases Nat.lt_or_ge i rs.length with hi | hi
  · rw [List.getElem?_append_left hi] at hq
    have e4 : (xsss ++ [xss]).getD i [] = xsss.getD i [] := by
      rw [List.getD_eq_getElem?_getD, List.getElem?_append_left (by omega), ← List.getD_eq_getElem?_getD]
    rw [e4]
    exact (((h3 i q hq).ext x).other hv1 hg hne hne').up (by omega)
  · have hi2 := (List.getElem?_eq_some_iff.1 hq).1
    rw [List.length_append, List.length_singleton] at hi2
    obtain rfl : i = rs.length := by omega
    rw [List.getElem?_append_right (Nat.le_refl _), Nat.sub_self] at hq
    have hq' : r = q := by simpa using hq
    subst hq'
    have e4 : (xsss ++ [xss]).getD rs.length [] = xss := by
      rw [h2, List.getD_eq_getElem?_getD, List.getElem?_append_right (Nat.le_refl _), Nat.sub_self]; rfl
    rw [e4]
    exact (hr.other hv1 hg hne hne').up hsz
theorem Read3.ext (h : Read3 w e3 e2 e1 v xsss) (x : Ext w w') : Read3 w' e3 e2 e1 v xsss := by
  obtain ⟨rs, h1, h2, h3⟩ := h
  exact ⟨rs, h1.ext x, h2, fun i r hr => (h3 i r hr).ext x⟩
theorem Read3.at (h : Read3 w e3 e2 e1 v xsss) {i : Int} (hi : 0 ≤ i) (hlt : i.toNat < xsss.length) : ∃ p r, At w e3 v i p r ∧ Rows w e2 e1 r (xsss.getD i.toNat []) := by
  obtain ⟨rs, h1, h2, h3⟩ := h
  have hl : i.toNat < rs.length := by omega
  obtain ⟨p, hp⟩ := h1.at hi hl
  exact ⟨p, rs[i.toNat], hp, h3 _ _ (List.getElem?_eq_getElem hl)⟩
end
section
variable {f : Int → Int → Int} {L : List Int} {G : Int → Bool} {n : Nat}
end
theorem Ret.resW {P : Program} {k : FuncId} {args : Array Value} {w0 : World} {X Y : Option (List Int)} (h : Ret P k args w0 (fun v w => v = Go.Proofs.YtoboklelbbgcnaaDoor.resW X ∧ Ext w0 w)) (e : X = Y) : Ret P k args w0 (fun v w => v = Go.Proofs.YtoboklelbbgcnaaDoor.resW Y ∧ Ext w0 w) := by rw [← e]; exact h
section
variable {w : World} {B : Nat} {AU SI I Bo : TypeId} {v nx ac nx' ac' : Value} {a b : A}
end
end Go.Proofs.YtoboklelbbgcnaaDoor
set_option linter.unusedSimpArgs false
set_option linter.unusedVariables false
namespace Go.Proofs.YtoboklelbbgcnaaDoor
def IsFirst (L : List Int) (G : List Int → Bool) : Option (List Int) → Prop
  | some w => (∀ x ∈ w, x ∈ L) ∧ G w = true ∧ ∀ v : List Int, (∀ x ∈ v, x ∈ L) → G v = true → sle w v
  | none => ∀ v : List Int, (∀ x ∈ v, x ∈ L) → G v = false
theorem IsFirst.isSome {L : List Int} {G : List Int → Bool} {o : Option (List Int)} (h : IsFirst L G o) : o.isSome = true ↔ ∃ v : List Int, (∀ x ∈ v, x ∈ L) ∧ G v = true := by
  cases o with
  | none => exact ⟨fun h' => (by cases h'), fun ⟨v, hv, hg⟩ => by rw [h v hv] at hg; cases hg⟩
  | some w => exact ⟨fun _ => ⟨w, h.1, h.2.1⟩, fun _ => rfl⟩
theorem IsFirst.isNone {L : List Int} {G : List Int → Bool} {o : Option (List Int)} (h : IsFirst L G o) : o.isSome = false ↔ ∀ v : List Int, (∀ x ∈ v, x ∈ L) → G v = false := by
  cases o with
  | none => exact ⟨fun _ => h, fun _ => rfl⟩
  | some w => exact ⟨fun h' => (by cases h'), fun h' => by have := h' w h.1; rw [h.2.1] at this; cases this⟩
section
variable {a b : A}
theorem node2 : ∀ (w : List Int) (p : Int × Int), nodeOf (step2 a b) p w = (run a p.1 w, run b p.2 w)
  | [], p => rfl
  | x :: w, p => node2 w (step2 a b p x)
theorem ord2_le (hv : validA a = true) (hv' : validA b = true) {p : Int × Int} (hp : In2 a b p) {al : Int} : (ord (step2 a b) p (letters al)).length ≤ a.next.length * b.next.length := by
  have h := bfsw_range (f := fP a b) (s := enc2 b p) (L := letters al) (n := a.next.length * b.next.length) (D := InP a b) (inP_enc hp) (fun q hq x hx => fP_in hv hv' hq ⟨(mem_letters hx).1, (mem_letters hx).2.1⟩) (fun q hq => hq) (many 0)
  rw [bfsw_map' (P := In2 a b) enc_inj hp (fun q hq l hl => in2 hv hv' hq ⟨(mem_letters hl).1, (mem_letters hl).2.1⟩) (fun q hq l _ => fP_enc hq l), bfsw_length] at h
  exact h
theorem isFirst_AB (hv : validA a = true) (hv' : validA b = true) {p : Int × Int} (hp : In2 a b p) (g : Bool → Bool → Bool) : IsFirst (letters a.al) (fun w => g (accA a (run a p.1 w)) (accA b (run b p.2 w))) (firstAB a b p g) := by
  have hl : (ord (step2 a b) p (letters a.al)).length ≤ 200 := by have := ord2_le hv hv' hp (al := a.al); have := le144 hv hv'; omega
  unfold firstAB
  cases h : firstOf (step2 a b) p (letters a.al) (fun p => g (accA a p.1) (accA b p.2)) with
  | none =>
    intro v hv
    have := first_none (letters_sorted _) hl h v hv
    rw [node2] at this
    exact this
  | some w =>
    have h1 := first_some (letters_sorted _) hl h
    rw [node2] at h1
    refine ⟨ordw_over (letters_sorted _) h1.1, h1.2.1, fun v hv hg => h1.2.2 v hv ?_⟩
    rw [node2]
    exact hg
end
end Go.Proofs.YtoboklelbbgcnaaDoor
set_option linter.unusedSimpArgs false
set_option linter.unusedVariables false
namespace Go.Proofs.YtoboklelbbgcnaaDoor
section
variable {a b : A}
theorem split_first {i j : Int} (hv : validA a = true) (hi : 0 ≤ i ∧ i < a.next.length) (hj : 0 ≤ j ∧ j < a.next.length) : IsFirst (letters a.al) (fun w => accA a (run a i w) != accA a (run a j w)) (fSplit a i j) := by
  have hc : (validA a && (inA a i && inA a j)) = true := by rw [hv, show inA a i = true from decide_eq_true hi, show inA a j = true from decide_eq_true hj]; rfl
  rw [fSplit, if_pos hc]
  exact isFirst_AB hv hv ⟨hi, hj⟩ (fun x y => x != y)
end
section
open Classical
variable {α : Type} {f : α → Int → α} {L : List Int} {G : α → Bool} {U : List α}
def Alike (f : α → Int → α) (L : List Int) (G : α → Bool) (k : Nat) (x y : α) : Prop := ∀ w : List Int, w.length < k → (∀ l ∈ w, l ∈ L) → G (nodeOf f x w) = G (nodeOf f y w)
theorem Alike.refl (k : Nat) (x : α) : Alike f L G k x x := fun _ _ _ => rfl
theorem Alike.symm {k : Nat} {x y : α} (h : Alike f L G k x y) : Alike f L G k y x := fun w h1 h2 => (h w h1 h2).symm
theorem Alike.trans {k : Nat} {x y z : α} (h : Alike f L G k x y) (h' : Alike f L G k y z) : Alike f L G k x z := fun w h1 h2 => (h w h1 h2).trans (h' w h1 h2)
end
section
variable {a b : A}
end
end Go.Proofs.YtoboklelbbgcnaaDoor
set_option linter.unusedSimpArgs false
set_option linter.unusedVariables false
namespace Go.Proofs.YtoboklelbbgcnaaDoor
section
variable {a b : A}
theorem row_map (hv : validA a = true) {q : Int} (hq : 0 ≤ q ∧ q < a.next.length) : a.next.getD q.toNat [] = (letters a.al).map (goA a q) := by
  rw [← extRow_same hv (q := q.toNat) (by omega)]
  unfold extRow
  rw [Int.toNat_of_nonneg hq.1]
end
end Go.Proofs.YtoboklelbbgcnaaDoor
set_option linter.unusedSimpArgs false
set_option linter.unusedVariables false
namespace Go.Proofs.YtoboklelbbgcnaaDoor
section
variable {κ μ : Type} [DecidableEq κ] [DecidableEq μ] {xs : List κ}
def dd (xs : List κ) : List κ := addAll [] xs
def canon (xs : List κ) : List Int := xs.map fun x => (idxG (dd xs) x : Int)
theorem mem_dd {x : κ} : x ∈ dd xs ↔ x ∈ xs := by unfold dd; rw [mem_addAll]; simp
theorem dd_nodup : (dd xs).Nodup := nodup_addAll List.nodup_nil
theorem dd_snoc (xs : List κ) (x : κ) : dd (xs ++ [x]) = addNode (dd xs) x := addAll_snoc _ _ _
theorem dd_le (xs : List κ) : (dd xs).length ≤ xs.length := by have := addAll_le xs ([] : List κ); simpa [dd] using this
theorem dd_map {g : κ → μ} (hg : ∀ x ∈ xs, ∀ y ∈ xs, g x = g y → x = y) : dd (xs.map g) = (dd xs).map g := by
  have := addAll_map (P := (· ∈ xs)) (g := g) (fun a b ha hb => hg a ha b hb) (xs := xs) (ns := []) (by simp) (fun a h => h)
  exact this
theorem canon_map {g : κ → μ} (hg : ∀ x ∈ xs, ∀ y ∈ xs, g x = g y → x = y) : canon (xs.map g) = canon xs := by
  unfold canon
  rw [dd_map hg, List.map_map]
  refine List.map_congr_left fun x hx => ?_
  show (((dd xs).map g).idxOf (g x) : Int) = ((dd xs).idxOf x : Int)
  rw [idx_map (P := (· ∈ xs)) (fun a b ha hb => hg a ha b hb) (fun a ha => mem_dd.1 ha) hx]
theorem canon_length (xs : List κ) : (canon xs).length = xs.length := List.length_map _
theorem idx_inj {ns : List κ} {x y : κ} (hx : x ∈ ns) (hy : y ∈ ns) (e : ns.idxOf x = ns.idxOf y) : x = y := by
  have h1 := getElem_idx hx
  rw [e, getElem_idx hy] at h1
  exact (Option.some.inj h1).symm
theorem idxI_inj : ∀ x ∈ xs, ∀ y ∈ xs, (idxG (dd xs) x : Int) = (idxG (dd xs) y : Int) → x = y := fun x hx y hy e => idx_inj (mem_dd.2 hx) (mem_dd.2 hy) (by unfold idxG at e; omega)
theorem canon_canon : canon (canon xs) = canon xs := canon_map idxI_inj
theorem dd_canon_length : (dd (canon xs)).length = (dd xs).length := by unfold canon; rw [dd_map idxI_inj, List.length_map]
theorem all_new : ∀ {xs ns : List κ}, (addAll ns xs).length = ns.length + xs.length → xs.Nodup ∧ ∀ x ∈ xs, x ∉ ns
  | [], _, _ => ⟨List.nodup_nil, by simp⟩
  | x :: xs, ns, h => by
    rw [addAll_cons, List.length_cons] at h
    by_cases hx : x ∈ ns
    · rw [addNode_T hx] at h
      have := addAll_le xs ns
      omega
    · rw [addNode_F hx] at h
      have h2 := all_new (xs := xs) (ns := ns ++ [x]) (by rw [h, List.length_append]; simp; omega)
      refine ⟨List.nodup_cons.2 ⟨fun hc => h2.2 x hc (by simp), h2.1⟩, fun y hy => ?_⟩
      rcases List.mem_cons.1 hy with rfl | hy
      · exact hx
      · exact fun hc => h2.2 y hy (by simp [hc])
theorem dd_map_le (g : κ → μ) : (dd (xs.map g)).length ≤ (dd xs).length := by
  have h : ∀ y ∈ dd (xs.map g), y ∈ (dd xs).map g := fun y hy => by
    obtain ⟨x, hx, rfl⟩ := List.mem_map.1 (mem_dd.1 hy)
    exact List.mem_map.2 ⟨x, mem_dd.2 hx, rfl⟩
  have := nodup_len dd_nodup h
  rwa [List.length_map] at this
omit [DecidableEq κ] [DecidableEq μ] in
theorem inj_of_nodup {g : κ → μ} : ∀ {l : List κ}, (l.map g).Nodup → ∀ x ∈ l, ∀ y ∈ l, g x = g y → x = y
  | [], _, x, hx, _, _, _ => by cases hx
  | z :: l, h, x, hx, y, hy, e => by
    rw [List.map_cons, List.nodup_cons] at h
    rcases List.mem_cons.1 hx with h1 | h1 <;> rcases List.mem_cons.1 hy with h2 | h2
    · rw [h1, h2]
    · exact absurd (List.mem_map.2 ⟨y, h2, by rw [← e, h1]⟩) h.1
    · exact absurd (List.mem_map.2 ⟨x, h1, by rw [e, h2]⟩) h.1
    · exact inj_of_nodup h.2 x h1 y h2 e
theorem dd_map_inj {g : κ → μ} (h : (dd (xs.map g)).length = (dd xs).length) : ∀ x ∈ xs, ∀ y ∈ xs, g x = g y → x = y := by
  have h1 : ∀ y ∈ dd (xs.map g), y ∈ addAll [] ((dd xs).map g) := fun y hy => by
    obtain ⟨x, hx, rfl⟩ := List.mem_map.1 (mem_dd.1 hy)
    exact mem_addAll.2 (.inr (List.mem_map.2 ⟨x, mem_dd.2 hx, rfl⟩))
  have h2 := nodup_len dd_nodup h1
  have h3 := addAll_le ((dd xs).map g) ([] : List μ)
  have h4 := (all_new (xs := (dd xs).map g) (ns := []) (by rw [List.length_map, List.length_nil] at *; omega)).1
  intro x hx y hy e
  exact inj_of_nodup h4 x (mem_dd.2 hx) y (mem_dd.2 hy) e
theorem dd_prefix (xs : List κ) (k : Nat) : dd (xs.take k) <+: dd xs := by
  conv => rhs; rw [← List.take_append_drop k xs]
  unfold dd addAll
  rw [List.foldl_append]
  exact addAll_prefix _ _
theorem dd_step {k : Nat} (hk : k < xs.length) : dd (xs.take (k + 1)) = addNode (dd (xs.take k)) xs[k] := by
  rw [List.take_succ_eq_append_getElem hk, dd_snoc]
theorem idx_old {k : Nat} {x : κ} (hx : x ∈ dd (xs.take k)) : idxG (dd xs) x = idxG (dd (xs.take k)) x := idx_prefix (dd_prefix xs k) hx
theorem idx_fresh {k : Nat} (hk : k < xs.length) (hx : xs[k] ∉ dd (xs.take k)) : idxG (dd xs) xs[k] = (dd (xs.take k)).length := by
  have h1 : xs[k] ∈ dd (xs.take (k + 1)) := by rw [dd_step hk]; exact mem_addNode.2 (.inr rfl)
  rw [idx_old h1, dd_step hk]
  exact idx_new hx
end
section
variable {a : A}
def keyQ (a : A) (cs : List Int) (q : Nat) : List Int := cs.getD q 0 :: (a.next.getD q []).map fun t => cs.getD t.toNat 0
def keys (a : A) (cs : List Int) : List (List Int) := (List.range a.next.length).map (keyQ a cs)
def refine' (a : A) (cs : List Int) : List Int := canon (keys a cs)
def cls0 (a : A) : List Int := a.acc.map fun b => if b then 1 else 0
def clsN (a : A) : Nat → List Int
  | 0 => cls0 a
  | r + 1 => refine' a (clsN a r)
def mN (a : A) : Nat → Nat
  | 0 => 0
  | r + 1 => (dd (keys a (clsN a r))).length
def classes (a : A) : List Int := clsN a (a.next.length + 1)
theorem keys_length (cs : List Int) : (keys a cs).length = a.next.length := by simp [keys]
theorem keys_at {cs : List Int} {q : Nat} (h : q < a.next.length) : (keys a cs)[q]? = some (keyQ a cs q) := by
  rw [keys, List.getElem?_map, List.getElem?_range h]; rfl
theorem clsN_length (hv : validA a = true) : ∀ r, (clsN a r).length = a.next.length
  | 0 => by rw [clsN, cls0, List.length_map]; exact (validA_spec.1 hv).2.2.1
  | r + 1 => by rw [clsN, refine', canon_length, keys_length]
theorem clsN_at {r q : Nat} (h : q < a.next.length) : (clsN a (r + 1)).getD q 0 = (idxG (dd (keys a (clsN a r))) (keyQ a (clsN a r) q) : Int) := by
  rw [clsN, refine', canon, List.getD_eq_getElem?_getD, List.getElem?_map, keys_at h]; rfl
theorem keyQ_mem {cs : List Int} {q : Nat} (h : q < a.next.length) : keyQ a cs q ∈ keys a cs := List.mem_map.2 ⟨q, List.mem_range.2 h, rfl⟩
theorem clsN_kernel {r i j : Nat} (hi : i < a.next.length) (hj : j < a.next.length) : (clsN a (r + 1)).getD i 0 = (clsN a (r + 1)).getD j 0 ↔ keyQ a (clsN a r) i = keyQ a (clsN a r) j := by
  rw [clsN_at hi, clsN_at hj]
  exact ⟨fun h => idxI_inj _ (keyQ_mem hi) _ (keyQ_mem hj) h, fun h => by rw [h]⟩
theorem heads (hv : validA a = true) (r : Nat) : (keys a (clsN a r)).map (fun k => k.headD 0) = clsN a r := by
  have hl := clsN_length hv r
  apply List.ext_getElem?
  intro i
  rw [List.getElem?_map]
  rcases Nat.lt_or_ge i a.next.length with h | h
  · rw [keys_at h]
    show some ((clsN a r).getD i 0) = _
    rw [List.getD_eq_getElem?_getD, List.getElem?_eq_getElem (by omega)]; rfl
  · rw [List.getElem?_eq_none (by rw [keys_length]; exact h), List.getElem?_eq_none (by omega)]; rfl
theorem mN_cls (r : Nat) : (dd (clsN a (r + 1))).length = mN a (r + 1) := dd_canon_length
theorem mN_mono (hv : validA a = true) : ∀ r, mN a r ≤ mN a (r + 1)
  | 0 => Nat.zero_le _
  | r + 1 => by
    have := dd_map_le (xs := keys a (clsN a (r + 1))) (fun k : List Int => k.headD 0)
    rw [heads hv, mN_cls] at this
    exact this
theorem mN_le (r : Nat) : mN a r ≤ a.next.length := by
  cases r with
  | zero => exact Nat.zero_le _
  | succ r => have := dd_le (keys a (clsN a r)); rw [keys_length] at this; exact this
theorem mN_one (hv : validA a = true) : 1 ≤ mN a 1 := List.length_pos_of_mem (mem_dd.2 (keyQ_mem (q := 0) (by have := (validA_spec.1 hv).2.1; omega)))
theorem stop_one (hv : validA a = true) {r : Nat} (h : mN a (r + 2) = mN a (r + 1)) : clsN a (r + 2) = clsN a (r + 1) := by
  have e : (dd ((keys a (clsN a (r + 1))).map fun k : List Int => k.headD 0)).length = (dd (keys a (clsN a (r + 1)))).length := by rw [heads hv, mN_cls]; exact h.symm
  have e2 := canon_map (dd_map_inj e)
  rw [heads hv] at e2
  show canon (keys a (clsN a (r + 1))) = _
  rw [← e2]
  exact canon_canon
theorem stop_all {s : Nat} (h : clsN a (s + 1) = clsN a s) : ∀ d, clsN a (s + d) = clsN a s
  | 0 => rfl
  | d + 1 => by
    show refine' a (clsN a (s + d)) = _
    rw [stop_all h d]
    exact h
theorem stops (hv : validA a = true) : ∃ s, 1 ≤ s ∧ s ≤ a.next.length ∧ clsN a (s + 1) = clsN a s := by
  refine Classical.byContradiction fun hc => ?_
  have h : ∀ r, r ≤ a.next.length → r + 1 ≤ mN a (r + 1) := fun r => by
    induction r with
    | zero => intro _; exact mN_one hv
    | succ r ih =>
      intro hr
      have h1 := ih (by omega)
      have h2 := mN_mono hv (r + 1)
      rcases Nat.lt_or_ge (mN a (r + 1)) (mN a (r + 2)) with h3 | h3
      · show r + 1 + 1 ≤ mN a (r + 2); omega
      · exact absurd ⟨r + 1, by omega, hr, stop_one hv (by show mN a (r + 2) = _; have : mN a (r + 1 + 1) = mN a (r + 2) := rfl; omega)⟩ hc
  have h1 := h a.next.length (Nat.le_refl _)
  have h2 := mN_le (a := a) (a.next.length + 1)
  omega
theorem classes_stop (hv : validA a = true) {s : Nat} (h : clsN a (s + 1) = clsN a s) : clsN a s = classes a := by
  obtain ⟨t, _, ht, hs⟩ := stops hv
  have h1 := stop_all h (a.next.length + 1)
  have h2 := stop_all hs (s + a.next.length + 1 - t)
  have h3 := stop_all hs (a.next.length + 1 - t)
  rw [show t + (s + a.next.length + 1 - t) = s + (a.next.length + 1) by omega] at h2
  rw [show t + (a.next.length + 1 - t) = a.next.length + 1 by omega] at h3
  unfold classes
  rw [h3, ← h2, h1]
theorem classes_found (hv : validA a = true) {r : Nat} (h : mN a (r + 1) = mN a r) : clsN a (r + 1) = classes a := by
  cases r with
  | zero => have h1 := mN_one hv; have h0 : mN a 1 = 0 := h; omega
  | succ r =>
    have h1 := stop_one hv h
    rw [h1]
    exact classes_stop hv h1
theorem classes_fix (hv : validA a = true) : refine' a (classes a) = classes a := by
  obtain ⟨t, _, ht, hs⟩ := stops hv
  have h2 := stop_all hs (a.next.length + 1 + 1 - t)
  have h3 := stop_all hs (a.next.length + 1 - t)
  rw [show t + (a.next.length + 1 + 1 - t) = a.next.length + 1 + 1 by omega] at h2
  rw [show t + (a.next.length + 1 - t) = a.next.length + 1 by omega] at h3
  show clsN a (a.next.length + 1 + 1) = clsN a (a.next.length + 1)
  rw [h2, h3]
theorem classes_length (hv : validA a = true) : (classes a).length = a.next.length := clsN_length hv _
theorem keyQ_eq (hv : validA a = true) {cs : List Int} {i j : Int} (hi : 0 ≤ i ∧ i < a.next.length) (hj : 0 ≤ j ∧ j < a.next.length) : keyQ a cs i.toNat = keyQ a cs j.toNat ↔ cs.getD i.toNat 0 = cs.getD j.toNat 0 ∧ ∀ l ∈ letters a.al, cs.getD (goA a i l).toNat 0 = cs.getD (goA a j l).toNat 0 := by
  unfold keyQ
  rw [row_map hv hi, row_map hv hj, List.map_map, List.map_map, List.cons.injEq, List.map_inj_left]
  rfl
theorem cls_alike (hv : validA a = true) : ∀ (r : Nat) (i j : Int), (0 ≤ i ∧ i < a.next.length) → (0 ≤ j ∧ j < a.next.length) → ((clsN a r).getD i.toNat 0 = (clsN a r).getD j.toNat 0 ↔ ∀ w : List Int, (∀ x ∈ w, x ∈ letters a.al) → w.length ≤ r → accA a (run a i w) = accA a (run a j w))
  | 0, i, j, hi, hj => by
    have hl := (validA_spec.1 hv).2.2.1
    have e : ∀ q : Int, (0 ≤ q ∧ q < a.next.length) → (clsN a 0).getD q.toNat 0 = if accA a q then 1 else 0 := fun q hq => by
      rw [clsN, cls0, List.getD_eq_getElem?_getD, List.getElem?_map, List.getElem?_eq_getElem (by omega)]
      unfold accA
      rw [List.getD_eq_getElem?_getD, List.getElem?_eq_getElem (by omega)]
      rfl
    rw [e i hi, e j hj]
    constructor
    · intro h w _ hw
      obtain rfl := List.eq_nil_of_length_eq_zero (Nat.le_zero.1 hw)
      show accA a i = accA a j
      revert h
      cases accA a i <;> cases accA a j <;> simp
    · intro h
      have h0 : accA a i = accA a j := h [] (by simp) (Nat.le_refl _)
      rw [h0]
  | r + 1, i, j, hi, hj => by
    rw [clsN_kernel (by omega) (by omega), keyQ_eq hv hi hj, cls_alike hv r i j hi hj]
    constructor
    · rintro ⟨h1, h2⟩ w hx hw
      cases w with
      | nil => exact h1 [] (by simp) (Nat.zero_le _)
      | cons l w =>
        have hl := hx l (List.mem_cons_self ..)
        have h6 : 0 ≤ l ∧ l < 6 := ⟨(mem_letters hl).1, (mem_letters hl).2.1⟩
        exact (cls_alike hv r _ _ (goA_in hv hi h6) (goA_in hv hj h6)).1 (h2 l hl) w (fun x h => hx x (List.mem_cons_of_mem _ h)) (by simpa using hw)
    · intro h
      refine ⟨fun w hx hw => h w hx (by omega), fun l hl => ?_⟩
      have h6 : 0 ≤ l ∧ l < 6 := ⟨(mem_letters hl).1, (mem_letters hl).2.1⟩
      refine (cls_alike hv r _ _ (goA_in hv hi h6) (goA_in hv hj h6)).2 fun w hx hw => h (l :: w) (fun x hx' => (List.mem_cons.1 hx').elim (fun e => e ▸ hl) (hx x)) (by simpa using hw)
theorem classes_later (hv : validA a = true) (d : Nat) : clsN a (a.next.length + 1 + d) = classes a := stop_all (classes_fix hv) d
theorem classes_iff (hv : validA a = true) {i j : Int} (hi : 0 ≤ i ∧ i < a.next.length) (hj : 0 ≤ j ∧ j < a.next.length) : (classes a).getD i.toNat 0 = (classes a).getD j.toNat 0 ↔ ∀ w : List Int, (∀ x ∈ w, x ∈ letters a.al) → accA a (run a i w) = accA a (run a j w) := by
  constructor
  · intro h w hx
    rw [← classes_later hv w.length] at h
    exact (cls_alike hv _ i j hi hj).1 h w hx (by omega)
  · intro h
    exact (cls_alike hv _ i j hi hj).2 fun w hx _ => h w hx
theorem classes_split (hv : validA a = true) {i j : Int} (hi : 0 ≤ i ∧ i < a.next.length) (hj : 0 ≤ j ∧ j < a.next.length) : (fSplit a i j).isSome = !decide ((classes a).getD i.toNat 0 = (classes a).getD j.toNat 0) := by
  have h := (split_first hv hi hj).isNone
  cases hs : (fSplit a i j).isSome with
  | false =>
    rw [hs] at h
    have := (classes_iff hv hi hj).2 fun w hx => by simpa using h.1 rfl w hx
    rw [decide_eq_true this]; rfl
  | true =>
    by_cases e : (classes a).getD i.toNat 0 = (classes a).getD j.toNat 0
    · have := h.2 fun w hx => by simpa using (classes_iff hv hi hj).1 e w hx
      rw [hs] at this; cases this
    · rw [decide_eq_false e]; rfl
theorem classes_next (hv : validA a = true) {i j l : Int} (hi : 0 ≤ i ∧ i < a.next.length) (hj : 0 ≤ j ∧ j < a.next.length) (hl : l ∈ letters a.al) (h : (classes a).getD i.toNat 0 = (classes a).getD j.toNat 0) : (classes a).getD (goA a i l).toNat 0 = (classes a).getD (goA a j l).toNat 0 := by
  have h6 : 0 ≤ l ∧ l < 6 := ⟨(mem_letters hl).1, (mem_letters hl).2.1⟩
  rw [classes_iff hv (goA_in hv hi h6) (goA_in hv hj h6)]
  intro w hx
  exact (classes_iff hv hi hj).1 h (l :: w) fun x hx' => (List.mem_cons.1 hx').elim (fun e => e ▸ hl) (hx x)
theorem classes_row (hv : validA a = true) {i j : Int} {k : Nat} (hi : 0 ≤ i ∧ i < a.next.length) (hj : 0 ≤ j ∧ j < a.next.length) (hk : k < (letters a.al).length) (h : (classes a).getD i.toNat 0 = (classes a).getD j.toNat 0) : (classes a).getD ((a.next.getD i.toNat []).getD k 0).toNat 0 = (classes a).getD ((a.next.getD j.toNat []).getD k 0).toNat 0 := by
  rw [row_go hv (by omega) hk, row_go hv (by omega) hk, Int.toNat_of_nonneg hi.1, Int.toNat_of_nonneg hj.1]
  exact classes_next hv hi hj (getD_mem hk) h
theorem classes_acc (hv : validA a = true) {i j : Int} (hi : 0 ≤ i ∧ i < a.next.length) (hj : 0 ≤ j ∧ j < a.next.length) (h : (classes a).getD i.toNat 0 = (classes a).getD j.toNat 0) : accA a i = accA a j := (classes_iff hv hi hj).1 h [] (by simp)
def newTo (a : A) (k : Nat) : Nat := (dd ((keys a (classes a)).take k)).length
theorem classes_at (hv : validA a = true) {q : Nat} (h : q < a.next.length) : (classes a).getD q 0 = (idxG (dd (keys a (classes a))) (keyQ a (classes a) q) : Int) := by
  conv => lhs; rw [← classes_fix hv]
  rw [refine', canon, List.getD_eq_getElem?_getD, List.getElem?_map, keys_at h]; rfl
theorem classes_order (hv : validA a = true) {k : Nat} (h : k < a.next.length) : 0 ≤ (classes a).getD k 0 ∧ (classes a).getD k 0 ≤ newTo a k ∧ newTo a (k + 1) = if (classes a).getD k 0 = newTo a k then newTo a k + 1 else newTo a k := by
  have hk : k < (keys a (classes a)).length := by rw [keys_length]; exact h
  have e : (keys a (classes a))[k] = keyQ a (classes a) k := by have := keys_at (cs := classes a) h; rw [List.getElem?_eq_getElem hk] at this; exact Option.some.inj this
  have hs := dd_step hk
  have h1 := classes_at hv h
  unfold newTo
  rw [hs, h1]
  rw [e]
  by_cases hm : keyQ a (classes a) k ∈ dd ((keys a (classes a)).take k)
  · have h2 := idx_old hm
    have h3 := idxG_lt hm
    rw [addNode_T hm, h2, if_neg (by omega)]
    exact ⟨by omega, by omega, rfl⟩
  · have h2 := idx_fresh hk (by rw [e]; exact hm)
    rw [e] at h2
    rw [addNode_F hm, h2, if_pos rfl, List.length_append]
    exact ⟨by omega, by omega, rfl⟩
theorem newTo_le (a : A) (k : Nat) : newTo a k ≤ k := by
  have := dd_le ((keys a (classes a)).take k)
  rw [List.length_take] at this
  unfold newTo
  omega
end
end Go.Proofs.YtoboklelbbgcnaaDoor
set_option linter.unusedSimpArgs false
set_option linter.unusedVariables false
namespace Go.Proofs.YtoboklelbbgcnaaDoor
def rowQ (a : A) (cs : List Int) (q : Nat) : List Int := (a.next.getD q []).map fun t => cs.getD t.toNat 0
def quo (a : A) (cs : List Int) : A := ⟨a.al, (dd cs).map fun c => rowQ a cs (cs.idxOf c), (dd cs).map fun c => a.acc.getD (cs.idxOf c) false⟩
section
variable {a b : A}
def nCls (a : A) : Nat := (dd (classes a)).length
def rep (a : A) (c : Nat) : Nat := (classes a).idxOf (c : Int)
end
section
variable {α β : Type} [DecidableEq α] [DecidableEq β] {f : α → Int → α} {s : α} {L : List Int} {f' : β → Int → β} {g : α → β}
def pick (f' : β → Int → β) (s' : β) (us : List (List Int)) (ws : List (List Int)) : List (List Int) := ws.foldl (fun us w => wadd f' s' us w) us
end
section
variable {a : A}
end
end Go.Proofs.YtoboklelbbgcnaaDoor
set_option linter.unusedSimpArgs false
set_option linter.unusedVariables false
namespace Go.Proofs.YtoboklelbbgcnaaDoor
open Go.RowKit
section
variable {P : Program} {N : Nat} {ops : Array Oper} {Q : Exit → Act → World → Prop} {rest : List Oper} {l : Slots} {w : World}
variable {d : Nat} {ty : TypeId} {pos : String} {after : Array Edge} {g : Option (Nat × Bool)}
end
def encS (s : ByteArray) : Value := .string s
theorem keyS {P : Program} {t kt et : TypeId} (h1 : P.underlying t = some (.map kt et)) (h2 : P.underlying kt = some .string) (h3 : ∀ w, (zeroValue et).run P w = .ok (.int .i64 0) w) : KeyT P t encS :=
  ⟨kt, et, .string, h1, h2, fun x y => by
    simp only [Instr.sameNow, encS]
    congr 1
    rw [Bool.eq_iff_iff, MapKept.bytes_beq, decide_eq_true_iff], h3, fun x => trivial⟩
section
variable {a b : A}
end
end Go.Proofs.YtoboklelbbgcnaaDoor
set_option linter.unusedSimpArgs false
set_option linter.unusedVariables false
namespace Go.Proofs.YtoboklelbbgcnaaDoor
set_option maxRecDepth 100000
theorem key48 : KeyT Tryd.prog 48 encS := keyS (kt := 9) (et := 3) (by kernel_rfl) (by kernel_rfl) zero3
theorem undm48 : Tryd.prog.underlying 48 = some (.map 9 3) := by kernel_rfl
theorem slw68 : SlW Tryd.prog 68 70 (.agg #[.int .i64 0, .int .i64 0, .slice none 0 0]) 3 := ⟨by kernel_rfl, ⟨_, rfl, by kernel_rfl, by kernel_rfl, by decide⟩, by kernel_rfl, by decide⟩
end Go.Proofs.YtoboklelbbgcnaaDoor
set_option linter.unusedSimpArgs false
set_option linter.unusedVariables false
namespace Go.Proofs.YtoboklelbbgcnaaDoor
open Go.RowKit
set_option maxRecDepth 100000 in
theorem l4Change_c (w0 : World) (rb : Nat) (bv : Value) (p : Int) (bs : List UInt8) (e0 : TypeId) (hR : Blk w0 rb 47 [bv, .int .i64 p]) (hb : Src w0 e0 bv bs rb) (hbl : bs.length ≤ 2000) (hp : 0 ≤ p ∧ p ≤ 700000000) (a : A) (nx ac : Value) (hnx : Rows w0 28 3 nx a.next) (hac : Bools w0 4 ac a.acc) (N : Nat) (hN : N ≤ 1000) (hsm : Small N a) : Ret Tryd.prog 23 #[Value.pointer (some ⟨rb, 0, none⟩), Value.agg #[Value.int .i64 a.al, nx, ac]] w0 (fun v w => (∃ p', (p ≤ p' ∧ p' ≤ p + 10) ∧ Blk w rb 47 [bv, .int .i64 p'] ∧ w0.grownBy w (some rb)) ∧ ∃ a', RowsA w v a' ∧ Small (N + 20) a') := by
  have G := World.grownBy.refl w0 (some rb)
  have hlt := hR.lt
  have hsm1 := hsm.2.1
  have hsm2 := hsm.2.2.1
  refine Ret.of (args := [Value.pointer (some ⟨rb, 0, none⟩), Value.agg #[Value.int .i64 a.al, nx, ac]]) Tryd.func23 rfl rfl rfl ?_
  rintro _ rfl
  show Cq _ _ _ _ [(0, Value.pointer (some ⟨rb, 0, none⟩)), (1, Value.agg #[Value.int .i64 a.al, nx, ac])] _
  refine Cq.seq ?_
  refine Cq.region ?_
  refine Sq.box .plain rfl rfl (fun b1 w2 e3 hB4 hlo5 => ?_)
  have hd6 := Nat.lt_of_lt_of_le hR.lt hlo5
  have hd7 := Nat.le_trans (World.grownBy.size G) hlo5
  have hs8 := Below.size e3
  replace hR := hR.ext e3
  replace G := grown_trans G (Ext.to_grown e3 _)
  replace hnx := hnx.ext e3
  replace hac := hac.ext e3
  refine Sq.alloc zero26 .plain rfl (fun b9 w10 e11 hB12 hlo13 => ?_)
  have hd14 := Nat.lt_of_lt_of_le hR.lt hlo13
  have hd15 := Nat.le_trans (World.grownBy.size G) hlo13
  have hd16 := Nat.lt_of_lt_of_le hB4.lt hlo13
  have hs17 := Below.size e11
  replace hR := hR.ext e11
  replace G := grown_trans G (Ext.to_grown e11 _)
  replace hnx := hnx.ext e11
  replace hac := hac.ext e11
  replace hB4 := hB4.ext e11
  refine Sq.nil ?_
  refine Eq.next ?_
  refine Cq.seq ?_
  refine Cq.region ?_
  refine Sq.loadAgg agg26 .plain rfl rfl hB4 rfl ?_
  have hd25 := hR.lt
  have hd26 := hB4.lt
  have hd27 := hB12.lt
  refine Sq.call fn41 .plain rfl rfl (l3Copy_c _ a _ _ hnx hac (hsm.fit (by omega))) ?_
  rintro _ w19 ⟨⟨nx21, ac22, rfl, hn23, ha24⟩, e20⟩
  have hs28 := World.grownBy.size G
  have hs29 := Below.size e20
  replace hR := hR.ext e20
  replace G := grown_trans G (Ext.to_grown e20 _)
  replace hB4 := hB4.ext e20
  replace hB12 := hB12.ext e20
  refine Sq.alloc zero26 .plain rfl (fun b30 w31 e32 hB33 hlo34 => ?_)
  have hd35 := Nat.lt_of_lt_of_le hR.lt hlo34
  have hd36 := Nat.le_trans (World.grownBy.size G) hlo34
  have hd37 := Nat.lt_of_lt_of_le hB4.lt hlo34
  have hd38 := Nat.lt_of_lt_of_le hB12.lt hlo34
  have hs39 := Below.size e32
  replace hR := hR.ext e32
  replace G := grown_trans G (Ext.to_grown e32 _)
  replace hB12 := hB12.ext e32
  replace hn23 := hn23.ext e32
  replace ha24 := ha24.ext e32
  refine Sq.storeAgg agg26 .plain rfl rfl (one_cons rfl (one_cons (Rows.one (OwnRows.rows hn23)) (one_cons (Row.one (Own.row ha24)) one_nil))) hB33 rfl rfl (fun w40 g41 hB42 => ?_)
  have hs43 := World.grownBy.size g41
  replace hR := hR.grown g41 (by intro h; injection h with h; omega)
  replace G := grown_far G g41 (fun k hk => by injection hk with hk; subst hk; omega)
  replace hB12 := hB12.grown g41 (by intro h; injection h with h; omega)
  replace hn23 := hn23.stored g41 hB33 (by decide) (by decide)
  replace ha24 := ha24.stored g41 hB33 (by decide)
  replace hB33 := hB42
  refine Sq.nil ?_
  refine Eq.next ?_
  refine Cq.seq ?_
  refine Cq.region ?_
  refine Sq.fieldAddr fld26_1 .plain rfl rfl ?_
  refine Sq.loadB one23 .plain rfl rfl hB33 rfl ?_
  refine Sq.lenRows (OwnRows.rows hn23) .plain rfl und23 rfl ?_
  refine Sq.assign .plain rfl rfl ?_
  refine Sq.nil ?_
  refine Eq.next ?_
  refine Cq.seq ?_
  refine Cq.seq ?_
  refine Cq.region ?_
  refine Sq.move .plain rfl rfl ?_
  refine Sq.eql .plain rfl rfl rfl ?_
  refine Sq.part (fun c44 => ?_) (fun c44 => ?_)
  · refine Sq.nil ?_
    refine Eq.next ?_
    refine Cq.thn rfl ?_
    refine Cq.seq ?_
    refine Cq.region ?_
    refine Sq.loadAgg agg26 .plain rfl rfl hB33 rfl ?_
    refine Sq.storeAgg agg26 .plain rfl rfl (one_cons rfl (one_cons (Rows.one (OwnRows.rows hn23)) (one_cons (Row.one (Own.row ha24)) one_nil))) hB12 rfl rfl (fun w45 g46 hB47 => ?_)
    have hs48 := World.grownBy.size g46
    replace hR := hR.grown g46 (by intro h; injection h with h; omega)
    replace G := grown_far G g46 (fun k hk => by injection hk with hk; subst hk; omega)
    replace hn23 := hn23.stored g46 hB12 (by decide) (by decide)
    replace ha24 := ha24.stored g46 hB12 (by decide)
    replace hB12 := hB47
    refine Sq.nil ?_
    refine Eq.next ?_
    refine Cq.ret ?_
    refine Eq.pastRet ?_
    refine Eq.retCell rfl rfl agg26 hB12 rfl ?_
    exact ⟨⟨_, by omega, hR, G⟩, a, ⟨_, _, rfl, (OwnRows.rows hn23), (Own.row ha24)⟩, hsm.mono (by omega)⟩
  refine Sq.nil ?_
  refine Eq.next ?_
  refine Cq.els rfl ?_
  refine Cq.skip ?_
  refine Eq.next ?_
  refine Cq.seq ?_
  refine Cq.region ?_
  refine Sq.move .plain rfl rfl ?_
  refine Sq.move .plain rfl rfl ?_
  refine Sq.call fn22 .plain rfl rfl (pick_c _ _ _ _ _ _ hR (hb.go G) hbl (by omega) (List.length a.next : Int) (by omega)) ?_
  rintro _ w50 ⟨⟨p51, hp54, hB53, g52⟩, ⟨k55, rfl, hk56⟩⟩
  have hs57 := World.grownBy.size g52
  have hs58 := World.grownBy.size G
  have hs59 := World.grownBy.size g52
  replace G := grown_trans G g52
  replace hB12 := hB12.grown g52 (by intro h; injection h with h; omega)
  replace hn23 := hn23.stored g52 hR (by decide) (by decide)
  replace ha24 := ha24.stored g52 hR (by decide)
  replace hB33 := hB33.grown g52 (by intro h; injection h with h; omega)
  replace hR := hB53
  refine Sq.assign .plain rfl rfl ?_
  refine Sq.nil ?_
  refine Eq.next ?_
  refine Cq.seq ?_
  refine Cq.seq ?_
  refine Cq.region ?_
  refine Sq.move .plain rfl rfl ?_
  refine Sq.call fn22 .plain rfl rfl (pick_c _ _ _ _ _ _ hR (hb.go G) hbl (by omega) 4 (by omega)) ?_
  rintro _ w61 ⟨⟨p62, hp65, hB64, g63⟩, ⟨k66, rfl, hk67⟩⟩
  have hs68 := World.grownBy.size g63
  have hs69 := World.grownBy.size G
  have hs70 := World.grownBy.size g63
  replace G := grown_trans G g63
  replace hB12 := hB12.grown g63 (by intro h; injection h with h; omega)
  replace hn23 := hn23.stored g63 hR (by decide) (by decide)
  replace ha24 := ha24.stored g63 hR (by decide)
  replace hB33 := hB33.grown g63 (by intro h; injection h with h; omega)
  replace hR := hB64
  refine Sq.nil ?_
  refine Eq.next ?_
  refine Cq.block ?_
  refine Cq.seq ?_
  refine Cq.region ?_
  refine Sq.eql .plain rfl rfl rfl ?_
  refine Sq.part (fun c71 => ?_) (fun c71 => ?_)
  · refine Sq.assign .plain rfl rfl ?_
    refine Sq.nil ?_
    refine Eq.next ?_
    refine Cq.thn rfl ?_
    refine Cq.seq ?_
    refine Cq.region ?_
    have hrowk := hsm.rowAt (k := k55.toNat)
    refine Sq.fieldAddr fld26_2 .plain rfl rfl ?_
    refine Sq.loadB one24 .plain rfl rfl hB33 rfl ?_
    refine Sq.lenBools (Own.row ha24) .plain rfl und24 rfl ?_
    refine Sq.move .plain rfl rfl ?_
    refine Sq.gtr .plain rfl rfl rfl ?_
    refine Sq.part (fun c72 => ?_) (fun c72 => ?_)
    · refine Sq.nil ?_
      refine Eq.next ?_
      refine Cq.thn rfl ?_
      refine Cq.draw 9 none mixed (fun w73 e74 => ?_)
      have hs75 := Below.size e74
      replace hR := hR.ext e74
      replace G := grown_trans G (Ext.to_grown e74 _)
      replace hB12 := hB12.ext e74
      replace hn23 := hn23.ext e74
      replace ha24 := ha24.ext e74
      replace hB33 := hB33.ext e74
      have ha24_w73 := ha24
      have hB33_w73 := hB33
      refine Gq.st 0 rfl (by kernel_rfl) rfl .plain rfl (fun _ _ _ h => h) (World.grownBy.refl w73 _) (fun w' x => Still.fieldAddr fld26_2 rfl) ?_
      refine Gq.st 1 rfl (by kernel_rfl) rfl .plain rfl (fun _ _ _ h => h) (World.grownBy.refl w73 _) (fun w' x => Still.loadB one24 rfl (hB33_w73.ext (Ext.of_grown x)) rfl) ?_
      refine Gq.st 2 rfl (by kernel_rfl) rfl .plain rfl (fun _ _ _ h => h) (World.grownBy.refl w73 _) (fun w' x => Still.move rfl) ?_
      refine Gq.st 3 rfl (by kernel_rfl) rfl .plain rfl (fun _ _ _ h => h) (World.grownBy.refl w73 _) (fun w' x => Still.fieldAddr fld26_2 rfl) ?_
      refine Gq.st 4 rfl (by kernel_rfl) rfl .plain rfl (fun _ _ _ h => h) (World.grownBy.refl w73 _) (fun w' x => Still.loadB one24 rfl (hB33_w73.ext (Ext.of_grown x)) rfl) ?_
      refine Gq.st 5 rfl (by kernel_rfl) rfl .plain rfl (fun _ _ _ h => h) (World.grownBy.refl w73 _) (fun w' x => Still.move rfl) ?_
      obtain ⟨p76, hp77_w73⟩ := Bools.at (Own.row ha24_w73) (i := k55) (by omega) (by omega)
      have hp77o := AtO.of ha24_w73 hp77_w73
      refine Gq.st 6 rfl (by kernel_rfl) rfl .plain rfl (fun _ _ _ h => h) (World.grownBy.refl w73 _) (fun w' x => Still.at' sl24 hp77_w73 rfl rfl) ?_
      refine Gq.st 7 rfl (by kernel_rfl) rfl .plain rfl (fun _ _ _ h => h) (World.grownBy.refl w73 _) (fun w' x => Still.loadA one4 rfl (hp77_w73.ext (Ext.of_grown x)).1) ?_
      refine Gq.st 8 rfl (by kernel_rfl) rfl .plain rfl (fun _ _ _ h => h) (World.grownBy.refl w73 _) (fun w' x => Still.not rfl) ?_
      refine Gq.one 9 rfl (by kernel_rfl) ?_
      obtain ⟨p78, hp79o⟩ := Own.at ha24 (i := k55) (by omega) (by first | (simp only [List.length_map]; omega) | (simp; omega))
      refine Sq.atO sl24 hp79o .plain rfl rfl rfl ?_
      refine Sq.nil ?_
      refine Eq.goes (fun h => absurd h (by decide)) ?_
      refine Gq.one 10 rfl (by kernel_rfl) ?_
      refine Sq.storeO one4 ha24 hp79o .plain rfl rfl rfl (fun w80 g81 ho82 => ?_)
      have hs83 := World.grownBy.size g81
      replace hR := hR.owned ha24 g81 (by decide)
      replace G := grown_new G ha24 g81 (by omega)
      replace hB12 := hB12.owned ha24 g81 (by decide)
      replace hn23 := hn23.owned ha24 g81 (by decide) (by decide)
      replace hB33 := hB33.owned ha24 g81 (by decide)
      replace ha24 := ho82
      refine Sq.nil ?_
      refine Eq.goes (fun h => absurd h (by decide)) ?_
      refine Gq.done (by kernel_rfl) ?_
      refine Eq.end ?_
      refine Eq.next ?_
      refine Cq.seq ?_
      refine Cq.region ?_
      refine Sq.loadAgg agg26 .plain rfl rfl hB33 rfl ?_
      refine Sq.storeAgg agg26 .plain rfl rfl (one_cons rfl (one_cons (Rows.one (OwnRows.rows hn23)) (one_cons (Row.one (Own.row ha24)) one_nil))) hB12 rfl rfl (fun w84 g85 hB86 => ?_)
      have hs87 := World.grownBy.size g85
      replace hR := hR.grown g85 (by intro h; injection h with h; omega)
      replace G := grown_far G g85 (fun k hk => by injection hk with hk; subst hk; omega)
      replace hn23 := hn23.stored g85 hB12 (by decide) (by decide)
      replace ha24 := ha24.stored g85 hB12 (by decide)
      replace hB12 := hB86
      refine Sq.nil ?_
      refine Eq.next ?_
      refine Cq.ret ?_
      refine Eq.retCell rfl rfl agg26 hB12 rfl ?_
      exact ⟨⟨_, by omega, hR, G⟩, ⟨a.al, a.next, a.acc.set k55.toNat (!(a.acc.getD k55.toNat false))⟩, ⟨_, _, rfl, (OwnRows.rows hn23), (Own.row (Own.setB ha24))⟩, hsm.accs (by omega) (List.length_set ..)⟩
    refine Sq.nil ?_
    refine Eq.next ?_
    refine Cq.els rfl ?_
    refine Cq.skip ?_
    refine Eq.end ?_
    refine Eq.next ?_
    refine Cq.seq ?_
    refine Cq.region ?_
    refine Sq.loadAgg agg26 .plain rfl rfl hB33 rfl ?_
    refine Sq.storeAgg agg26 .plain rfl rfl (one_cons rfl (one_cons (Rows.one (OwnRows.rows hn23)) (one_cons (Row.one (Own.row ha24)) one_nil))) hB12 rfl rfl (fun w88 g89 hB90 => ?_)
    have hs91 := World.grownBy.size g89
    replace hR := hR.grown g89 (by intro h; injection h with h; omega)
    replace G := grown_far G g89 (fun k hk => by injection hk with hk; subst hk; omega)
    replace hn23 := hn23.stored g89 hB12 (by decide) (by decide)
    replace ha24 := ha24.stored g89 hB12 (by decide)
    replace hB12 := hB90
    refine Sq.nil ?_
    refine Eq.next ?_
    refine Cq.ret ?_
    refine Eq.retCell rfl rfl agg26 hB12 rfl ?_
    exact ⟨⟨_, by omega, hR, G⟩, a, ⟨_, _, rfl, (OwnRows.rows hn23), (Own.row ha24)⟩, hsm.mono (by omega)⟩
  refine Sq.assign .plain rfl rfl ?_
  refine Sq.nil ?_
  refine Eq.next ?_
  refine Cq.els rfl ?_
  refine Cq.seq ?_
  refine Cq.region ?_
  have hrowk := hsm.rowAt (k := k55.toNat)
  refine Sq.eql .plain rfl rfl rfl ?_
  refine Sq.part (fun c92 => ?_) (fun c92 => ?_)
  · refine Sq.assign .plain rfl rfl ?_
    refine Sq.nil ?_
    refine Eq.next ?_
    refine Cq.thn rfl ?_
    refine Cq.seq ?_
    refine Cq.region ?_
    refine Sq.fieldAddr fld26_1 .plain rfl rfl ?_
    refine Sq.loadB one23 .plain rfl rfl hB33 rfl ?_
    refine Sq.move .plain rfl rfl ?_
    refine Sq.idxRows sl23 one28 (OwnRows.rows hn23) .plain rfl rfl rfl .plain rfl rfl (by omega) (by omega) (fun r93 hr94 => ?_)
    refine Sq.lenInts hr94 .plain rfl und28 rfl ?_
    refine Sq.gtr .plain rfl rfl rfl ?_
    refine Sq.part (fun c95 => ?_) (fun c95 => ?_)
    · refine Sq.nil ?_
      refine Eq.next ?_
      refine Cq.thn rfl ?_
      obtain ⟨pA, rA, hpA, _⟩ := Rows.at (OwnRows.rows hn23) (i := k55) (by omega) (by omega)
      have hrA := (OwnRows.rowAt hn23 hpA).1
      obtain ⟨_, hoA, _, _⟩ := OwnRows.open hn23 (by decide)
      have hpAo := AtO.of hoA hpA
      refine Cq.drawS 16 (fun w' => Blk w' b30 26 [Value.int .i64 a.al, nx21, ac22] ∧ At w' 28 nx21 k55 pA rA) mixed (⟨hB33, hpA⟩) (fun w96 e97 hS => ?_)
      clear hS
      have hs98 := Below.size e97
      replace hR := hR.ext e97
      replace G := grown_trans G (Ext.to_grown e97 _)
      replace hB12 := hB12.ext e97
      replace hn23 := hn23.ext e97
      replace ha24 := ha24.ext e97
      replace hB33 := hB33.ext e97
      replace hpA := hpA.ext e97
      replace hrA := hrA.ext e97
      refine Gq.st 0 rfl (by kernel_rfl) rfl .plain rfl (fun _ _ _ h => h) ⟨hB33, hpA⟩ (fun w' x => Still.fieldAddr fld26_1 rfl) ?_
      refine Gq.st 1 rfl (by kernel_rfl) rfl .plain rfl (fun _ _ _ h => h) ⟨hB33, hpA⟩ (fun w' x => Still.loadB one23 rfl x.1 rfl) ?_
      refine Gq.st 2 rfl (by kernel_rfl) rfl .plain rfl (fun _ _ _ h => h) ⟨hB33, hpA⟩ (fun w' x => Still.move rfl) ?_
      refine Gq.st 3 rfl (by kernel_rfl) rfl .plain rfl (fun _ _ _ h => h) ⟨hB33, hpA⟩ (fun w' x => Still.at' sl23 hpA rfl rfl) ?_
      refine Gq.st 4 rfl (by kernel_rfl) rfl .plain rfl (fun _ _ _ h => h) ⟨hB33, hpA⟩ (fun w' x => Still.loadA one28 rfl (x.2).1) ?_
      refine Gq.st 5 rfl (by kernel_rfl) rfl .plain rfl (fun _ _ _ h => h) ⟨hB33, hpA⟩ (fun w' x => Still.move rfl) ?_
      refine Gq.st 6 rfl (by kernel_rfl) rfl .plain rfl (fun _ _ _ h => h) ⟨hB33, hpA⟩ (fun w' x => Still.fieldAddr fld26_1 rfl) ?_
      refine Gq.st 7 rfl (by kernel_rfl) rfl .plain rfl (fun _ _ _ h => h) ⟨hB33, hpA⟩ (fun w' x => Still.loadB one23 rfl x.1 rfl) ?_
      refine Gq.st 8 rfl (by kernel_rfl) rfl .plain rfl (fun _ _ _ h => h) ⟨hB33, hpA⟩ (fun w' x => Still.move rfl) ?_
      refine Gq.st 9 rfl (by kernel_rfl) rfl .plain rfl (fun _ _ _ h => h) ⟨hB33, hpA⟩ (fun w' x => Still.at' sl23 hpA rfl rfl) ?_
      refine Gq.st 10 rfl (by kernel_rfl) rfl .plain rfl (fun _ _ _ h => h) ⟨hB33, hpA⟩ (fun w' x => Still.loadA one28 rfl (x.2).1) ?_
      refine Gq.st 13 rfl (by kernel_rfl) rfl .plain rfl (fun _ _ _ h => h) ⟨hB33, hpA⟩ (fun w' x => Still.move rfl) ?_
      refine Gq.st 14 rfl (by kernel_rfl) rfl .plain rfl (fun _ _ _ h => h) ⟨hB33, hpA⟩ (fun w' x => Still.move rfl) ?_
      refine Gq.one 11 rfl (by kernel_rfl) ?_
      refine Sq.lenInts (Own.row hrA) .plain rfl und28 rfl ?_
      refine Sq.nil ?_
      refine Eq.goes (fun _ => ⟨hB33, hpA⟩) ?_
      refine Gq.one 12 rfl (by kernel_rfl) ?_
      refine Sq.call fn22 .plain rfl rfl (pick_c _ _ _ _ _ _ hR (hb.go G) hbl (by omega) ((List.length (a.next.getD k55.toNat []) : Int)) (by omega)) ?_
      rintro _ w100 ⟨⟨p101, hp104, hB103, g102⟩, ⟨k105, rfl, hk106⟩⟩
      have hs107 := World.grownBy.size g102
      have hs108 := World.grownBy.size G
      have hs109 := World.grownBy.size g102
      replace G := grown_trans G g102
      replace hB12 := hB12.grown g102 (by intro h; injection h with h; omega)
      replace hn23 := hn23.stored g102 hR (by decide) (by decide)
      replace ha24 := ha24.stored g102 hR (by decide)
      replace hB33 := hB33.grown g102 (by intro h; injection h with h; omega)
      replace hpA := hpA.stored g102 hR (by decide)
      replace hrA := hrA.stored g102 hR (by decide)
      replace hR := hB103
      refine Sq.nil ?_
      refine Eq.goes (fun _ => ⟨hB33, hpA⟩) ?_
      refine Gq.one 15 rfl (by kernel_rfl) ?_
      refine Sq.call fn22 .plain rfl rfl (pick_c _ _ _ _ _ _ hR (hb.go G) hbl (by omega) (List.length a.next : Int) (by omega)) ?_
      rintro _ w111 ⟨⟨p112, hp115, hB114, g113⟩, ⟨k116, rfl, hk117⟩⟩
      have hs118 := World.grownBy.size g113
      have hs119 := World.grownBy.size G
      have hs120 := World.grownBy.size g113
      replace G := grown_trans G g113
      replace hB12 := hB12.grown g113 (by intro h; injection h with h; omega)
      replace hn23 := hn23.stored g113 hR (by decide) (by decide)
      replace ha24 := ha24.stored g113 hR (by decide)
      replace hB33 := hB33.grown g113 (by intro h; injection h with h; omega)
      replace hpA := hpA.stored g113 hR (by decide)
      replace hrA := hrA.stored g113 hR (by decide)
      replace hR := hB114
      refine Sq.nil ?_
      refine Eq.goes (fun _ => ⟨hB33, hpA⟩) ?_
      refine Gq.one 16 rfl (by kernel_rfl) ?_
      obtain ⟨p121, hp122o⟩ := Own.at hrA (i := k105) (by omega) (by first | (simp only [List.length_map]; omega) | (simp; omega))
      refine Sq.atO sl28 hp122o .plain rfl rfl rfl ?_
      refine Sq.nil ?_
      refine Eq.goes (fun h => absurd h (by decide)) ?_
      refine Gq.one 17 rfl (by kernel_rfl) ?_
      refine Sq.storeO one3 hrA hp122o .plain rfl rfl rfl (fun w123 g124 ho125 => ?_)
      have hs126 := World.grownBy.size g124
      rw [← List.map_set] at ho125
      replace hn23 := (OwnRows.set hn23 (by decide) hpA ho125 g124).1
      replace hR := hR.owned hrA g124 (by decide)
      replace G := grown_new G hrA g124 (by omega)
      replace hB12 := hB12.owned hrA g124 (by decide)
      replace ha24 := ha24.owned hrA g124 (by decide)
      replace hB33 := hB33.owned hrA g124 (by decide)
      refine Sq.nil ?_
      refine Eq.goes (fun h => absurd h (by decide)) ?_
      refine Gq.done (by kernel_rfl) ?_
      refine Eq.end ?_
      refine Eq.next ?_
      refine Cq.seq ?_
      refine Cq.region ?_
      refine Sq.loadAgg agg26 .plain rfl rfl hB33 rfl ?_
      refine Sq.storeAgg agg26 .plain rfl rfl (one_cons rfl (one_cons (Rows.one (OwnRows.rows hn23)) (one_cons (Row.one (Own.row ha24)) one_nil))) hB12 rfl rfl (fun w127 g128 hB129 => ?_)
      have hs130 := World.grownBy.size g128
      replace hR := hR.grown g128 (by intro h; injection h with h; omega)
      replace G := grown_far G g128 (fun k hk => by injection hk with hk; subst hk; omega)
      replace hn23 := hn23.stored g128 hB12 (by decide) (by decide)
      replace ha24 := ha24.stored g128 hB12 (by decide)
      replace hB12 := hB129
      refine Sq.nil ?_
      refine Eq.next ?_
      refine Cq.ret ?_
      refine Eq.retCell rfl rfl agg26 hB12 rfl ?_
      exact ⟨⟨_, by omega, hR, G⟩, ⟨a.al, a.next.set k55.toNat ((a.next.getD k55.toNat []).set k105.toNat k116), a.acc⟩, ⟨_, _, rfl, (OwnRows.rows hn23), (Own.row ha24)⟩, hsm.row (by omega) (by rw [List.length_set]; have := hsm.rowAt (k := k55.toNat); omega)⟩
    refine Sq.nil ?_
    refine Eq.next ?_
    refine Cq.els rfl ?_
    refine Cq.skip ?_
    refine Eq.end ?_
    refine Eq.next ?_
    refine Cq.seq ?_
    refine Cq.region ?_
    refine Sq.loadAgg agg26 .plain rfl rfl hB33 rfl ?_
    refine Sq.storeAgg agg26 .plain rfl rfl (one_cons rfl (one_cons (Rows.one (OwnRows.rows hn23)) (one_cons (Row.one (Own.row ha24)) one_nil))) hB12 rfl rfl (fun w131 g132 hB133 => ?_)
    have hs134 := World.grownBy.size g132
    replace hR := hR.grown g132 (by intro h; injection h with h; omega)
    replace G := grown_far G g132 (fun k hk => by injection hk with hk; subst hk; omega)
    replace hn23 := hn23.stored g132 hB12 (by decide) (by decide)
    replace ha24 := ha24.stored g132 hB12 (by decide)
    replace hB12 := hB133
    refine Sq.nil ?_
    refine Eq.next ?_
    refine Cq.ret ?_
    refine Eq.retCell rfl rfl agg26 hB12 rfl ?_
    exact ⟨⟨_, by omega, hR, G⟩, a, ⟨_, _, rfl, (OwnRows.rows hn23), (Own.row ha24)⟩, hsm.mono (by omega)⟩
  refine Sq.assign .plain rfl rfl ?_
  refine Sq.nil ?_
  refine Eq.next ?_
  refine Cq.els rfl ?_
  refine Cq.seq ?_
  refine Cq.region ?_
  refine Sq.eql .plain rfl rfl rfl ?_
  refine Sq.part (fun c135 => ?_) (fun c135 => ?_)
  · refine Sq.assign .plain rfl rfl ?_
    refine Sq.nil ?_
    refine Eq.next ?_
    refine Cq.thn rfl ?_
    refine Cq.seq ?_
    refine Cq.region ?_
    refine Sq.move .plain rfl rfl ?_
    refine Sq.lss .plain rfl rfl rfl ?_
    refine Sq.part (fun c136 => ?_) (fun c136 => ?_)
    · refine Sq.move .plain rfl rfl ?_
      refine Sq.fieldAddr fld26_2 (.met rfl rfl rfl) rfl rfl ?_
      refine Sq.loadB one24 (.met rfl rfl rfl) rfl rfl hB33 rfl ?_
      refine Sq.lenBools (Own.row ha24) (.met rfl rfl rfl) rfl und24 rfl ?_
      refine Sq.move (.met rfl rfl rfl) rfl rfl ?_
      refine Sq.gtr (.met rfl rfl rfl) rfl rfl rfl ?_
      refine Sq.part (fun c137 => ?_) (fun c137 => ?_)
      · refine Sq.pickT .plain rfl rfl rfl ?_
        refine Sq.move .plain rfl rfl ?_
        refine Sq.fieldAddr fld26_1 (.met rfl rfl rfl) rfl rfl ?_
        refine Sq.loadB one23 (.met rfl rfl rfl) rfl rfl hB33 rfl ?_
        refine Sq.move (.met rfl rfl rfl) rfl rfl ?_
        refine Sq.idxRows sl23 one28 (OwnRows.rows hn23) (.met rfl rfl rfl) rfl rfl rfl (.met rfl rfl rfl) rfl rfl (by omega) (by omega) (fun r138 hr139 => ?_)
        refine Sq.lenInts hr139 (.met rfl rfl rfl) rfl und28 rfl ?_
        refine Sq.gtr (.met rfl rfl rfl) rfl rfl rfl ?_
        refine Sq.part (fun c140 => ?_) (fun c140 => ?_)
        · refine Sq.pickT .plain rfl rfl rfl ?_
          refine Sq.nil ?_
          refine Eq.next ?_
          refine Cq.thn rfl ?_
          refine Cq.seq ?_
          obtain ⟨pA, rA, hpA, _⟩ := Rows.at (OwnRows.rows hn23) (i := k55) (by omega) (by omega)
          have hrA := (OwnRows.rowAt hn23 hpA).1
          obtain ⟨_, hoA, _, _⟩ := OwnRows.open hn23 (by decide)
          have hpAo := AtO.of hoA hpA
          refine Cq.drawS 11 (fun w' => Blk w' b30 26 [Value.int .i64 a.al, nx21, ac22]) mixed (hB33) (fun w141 e142 hS => ?_)
          clear hS
          have hs143 := Below.size e142
          replace hR := hR.ext e142
          replace G := grown_trans G (Ext.to_grown e142 _)
          replace hB12 := hB12.ext e142
          replace hn23 := hn23.ext e142
          replace ha24 := ha24.ext e142
          replace hB33 := hB33.ext e142
          replace hpA := hpA.ext e142
          replace hrA := hrA.ext e142
          refine Gq.st 0 rfl (by kernel_rfl) rfl .plain rfl (fun _ _ _ h => h) hB33 (fun w' x => Still.fieldAddr fld26_1 rfl) ?_
          refine Gq.st 1 rfl (by kernel_rfl) rfl .plain rfl (fun _ _ _ h => h) hB33 (fun w' x => Still.loadB one23 rfl x rfl) ?_
          refine Gq.st 3 rfl (by kernel_rfl) rfl .plain rfl (fun _ _ _ h => h) hB33 (fun w' x => Still.fieldAddr fld26_1 rfl) ?_
          refine Gq.st 4 rfl (by kernel_rfl) rfl .plain rfl (fun _ _ _ h => h) hB33 (fun w' x => Still.loadB one23 rfl x rfl) ?_
          refine Gq.st 5 rfl (by kernel_rfl) rfl .plain rfl (fun _ _ _ h => h) hB33 (fun w' x => Still.move rfl) ?_
          refine Gq.st 6 rfl (by kernel_rfl) rfl .plain rfl (fun _ _ _ h => h) hB33 (fun w' x => Still.at' sl23 hpA rfl rfl) ?_
          refine Gq.two 2 7 rfl rfl (by kernel_rfl) ?_ ?_
          · refine Sq.lit sl28 rfl rfl .plain rfl rfl one_nil (fun b144 w145 e146 hlo147 ho148 _ => ?_)
            replace ho148 := ho148 w141.heap.size (Nat.le_refl _)
            have hs150 := Below.size e146
            replace hR := hR.ext e146
            replace G := grown_trans G (Ext.to_grown e146 _)
            replace hB12 := hB12.ext e146
            replace hn23 := hn23.ext e146
            replace ha24 := ha24.ext e146
            replace hB33 := hB33.ext e146
            replace hpA := hpA.ext e146
            replace hrA := hrA.ext e146
            refine Sq.nil ?_
            refine Eq.goes (fun _ => hB33) ?_
            refine Gq.one 7 rfl (by kernel_rfl) ?_
            refine Sq.val .plain rfl rfl (Still.loadA one28 rfl hpA.1) ?_
            refine Sq.nil ?_
            refine Eq.goes (fun _ => hB33) ?_
            refine Gq.one 8 rfl (by kernel_rfl) ?_
            refine Sq.app sl28 ho148 (by omega) (Own.row hrA) (one_ints _) (by rw [List.length_map]; simp only [List.length_nil, Nat.zero_add]; omega) .plain rfl rfl rfl rfl (fun v151 w152 ho154 g153 => ?_)
            have hs155 := g153.size
            replace hR := hR.owned ho148 g153 (by decide)
            replace G := grown_new G ho148 g153 (by omega)
            replace hB12 := hB12.owned ho148 g153 (by decide)
            replace hn23 := hn23.apart ho148 g153 (by omega) (by decide)
            replace ha24 := ha24.owned ho148 g153 (by decide)
            replace hB33 := hB33.owned ho148 g153 (by decide)
            simp only [List.nil_append] at ho154
            refine Sq.nil ?_
            refine Eq.goes (fun _ => hB33) ?_
            refine Gq.one 9 rfl (by kernel_rfl) ?_
            refine Sq.lit sl23 rfl rfl .plain rfl rfl (one_cons (Row.one (Own.row ho154)) one_nil) (fun b156 w157 e158 hlo159 ho160 _ => ?_)
            replace ho160 := ho160 w152.heap.size (Nat.le_refl _)
            have hs162 := Below.size e158
            replace hR := hR.ext e158
            replace G := grown_trans G (Ext.to_grown e158 _)
            replace hB12 := hB12.ext e158
            replace hn23 := hn23.ext e158
            replace ha24 := ha24.ext e158
            replace hB33 := hB33.ext e158
            replace ho154 := ho154.ext e158
            refine Sq.nil ?_
            refine Eq.goes (fun _ => hB33) ?_
            refine Gq.one 10 rfl (by kernel_rfl) ?_
            obtain ⟨rs167, q168, q169, q170⟩ := OwnRows.open hn23 (by decide)
            have q170x := Ext.refl w157
            refine Sq.app sl23 q168 (by omega) (Own.row ho160) (one_cons (Row.one (Own.row ho154)) one_nil) (by rw [q169]; first | omega | (simp; omega)) .plain rfl rfl rfl rfl (fun v163 w164 ho166 g165 => ?_)
            have hs171 := g165.size
            have ho166r := q170 _ (a.next.getD k55.toNat []) _ _ _ (Ext.refl _) (Own.mono ho154 (by omega)) (by omega) ho166 g165
            replace hR := hR.owned q168 g165 (by decide)
            replace G := grown_new G q168 g165 (by omega)
            replace hB12 := hB12.owned q168 g165 (by decide)
            replace ha24 := ha24.owned q168 g165 (by decide)
            replace hB33 := hB33.owned q168 g165 (by decide)
            refine Sq.nil ?_
            refine Eq.goes (fun _ => hB33) ?_
            refine Gq.one 11 rfl (by kernel_rfl) ?_
            refine Sq.fieldAddr fld26_1 .plain rfl rfl ?_
            refine Sq.nil ?_
            refine Eq.goes (fun h => absurd h (by decide)) ?_
            refine Gq.one 12 rfl (by kernel_rfl) ?_
            refine Sq.store one23 .plain rfl rfl (Rows.one (OwnRows.rows ho166r)) hB33 (by simp) (fun w172 g173 hB174 => ?_)
            have hs175 := World.grownBy.size g173
            replace hR := hR.grown g173 (by intro h; injection h with h; omega)
            replace G := grown_far G g173 (fun k hk => by injection hk with hk; subst hk; omega)
            replace hB12 := hB12.grown g173 (by intro h; injection h with h; omega)
            replace ha24 := ha24.stored g173 hB33 (by decide)
            replace ho166r := ho166r.stored g173 hB33 (by decide) (by decide)
            replace hB33 := hB174
            refine Sq.nil ?_
            refine Eq.goes (fun h => absurd h (by decide)) ?_
            refine Gq.done (by kernel_rfl) ?_
            refine Eq.next ?_
            refine Cq.seq ?_
            refine Cq.drawS 9 (fun w' => Blk w' b30 26 [Value.int .i64 a.al, v163, ac22]) mixed (hB33) (fun w176 e177 hS => ?_)
            clear hS
            have hs178 := Below.size e177
            replace hR := hR.ext e177
            replace G := grown_trans G (Ext.to_grown e177 _)
            replace hB12 := hB12.ext e177
            replace ha24 := ha24.ext e177
            replace hB33 := hB33.ext e177
            replace ho166r := ho166r.ext e177
            refine Gq.st 0 rfl (by kernel_rfl) rfl .plain rfl (fun _ _ _ h => h) hB33 (fun w' x => Still.fieldAddr fld26_2 rfl) ?_
            refine Gq.st 1 rfl (by kernel_rfl) rfl .plain rfl (fun _ _ _ h => h) hB33 (fun w' x => Still.loadB one24 rfl x rfl) ?_
            refine Gq.st 2 rfl (by kernel_rfl) rfl .plain rfl (fun _ _ _ h => h) hB33 (fun w' x => Still.fieldAddr fld26_2 rfl) ?_
            refine Gq.st 3 rfl (by kernel_rfl) rfl .plain rfl (fun _ _ _ h => h) hB33 (fun w' x => Still.loadB one24 rfl x rfl) ?_
            refine Gq.st 4 rfl (by kernel_rfl) rfl .plain rfl (fun _ _ _ h => h) hB33 (fun w' x => Still.move rfl) ?_
            refine Gq.one 5 rfl (by kernel_rfl) ?_
            obtain ⟨p179, hp180⟩ := Bools.at (Own.row ha24) (i := k55) (by omega) (by omega)
            refine Sq.val .plain rfl rfl (Still.at' sl24 hp180 rfl rfl) ?_
            refine Sq.nil ?_
            refine Eq.goes (fun _ => hB33) ?_
            refine Gq.one 6 rfl (by kernel_rfl) ?_
            refine Sq.val .plain rfl rfl (Still.loadA one4 rfl hp180.1) ?_
            refine Sq.nil ?_
            refine Eq.goes (fun _ => hB33) ?_
            refine Gq.one 7 rfl (by kernel_rfl) ?_
            refine Sq.lit sl24 rfl rfl .plain rfl rfl (one_cons rfl one_nil) (fun b181 w182 e183 hlo184 ho185 _ => ?_)
            replace ho185 := ho185 w176.heap.size (Nat.le_refl _)
            have hs187 := Below.size e183
            replace hR := hR.ext e183
            replace G := grown_trans G (Ext.to_grown e183 _)
            replace hB12 := hB12.ext e183
            replace ha24 := ha24.ext e183
            replace hB33 := hB33.ext e183
            replace ho166r := ho166r.ext e183
            refine Sq.nil ?_
            refine Eq.goes (fun _ => hB33) ?_
            refine Gq.one 8 rfl (by kernel_rfl) ?_
            refine Sq.app sl24 ha24 (by omega) (Own.row ho185) (one_cons rfl one_nil) (by first | omega | (simp; omega)) .plain rfl rfl rfl rfl (fun v188 w189 ho191 g190 => ?_)
            have hs192 := g190.size
            replace hR := hR.owned ha24 g190 (by decide)
            replace G := grown_new G ha24 g190 (by omega)
            replace hB12 := hB12.owned ha24 g190 (by decide)
            replace hB33 := hB33.owned ha24 g190 (by decide)
            replace ho166r := ho166r.owned ha24 g190 (by decide) (by decide)
            refine Sq.nil ?_
            refine Eq.goes (fun _ => hB33) ?_
            refine Gq.one 9 rfl (by kernel_rfl) ?_
            refine Sq.fieldAddr fld26_2 .plain rfl rfl ?_
            refine Sq.nil ?_
            refine Eq.goes (fun h => absurd h (by decide)) ?_
            refine Gq.one 10 rfl (by kernel_rfl) ?_
            refine Sq.store one24 .plain rfl rfl (Row.one (Own.row ho191)) hB33 (by simp) (fun w193 g194 hB195 => ?_)
            have hs196 := World.grownBy.size g194
            replace hR := hR.grown g194 (by intro h; injection h with h; omega)
            replace G := grown_far G g194 (fun k hk => by injection hk with hk; subst hk; omega)
            replace hB12 := hB12.grown g194 (by intro h; injection h with h; omega)
            replace ho166r := ho166r.stored g194 hB33 (by decide) (by decide)
            replace ho191 := ho191.stored g194 hB33 (by decide)
            replace hB33 := hB195
            refine Sq.nil ?_
            refine Eq.goes (fun h => absurd h (by decide)) ?_
            refine Gq.done (by kernel_rfl) ?_
            refine Eq.next ?_
            refine Cq.region ?_
            refine Sq.fieldAddr fld26_1 .plain rfl rfl ?_
            refine Sq.loadB one23 .plain rfl rfl hB33 rfl ?_
            refine Sq.move .plain rfl rfl ?_
            obtain ⟨p197, r199, hp198, _⟩ := Rows.at (OwnRows.rows ho166r) (i := k55) (by first | omega | (simp only [List.length_append, List.length_singleton]; omega)) (by first | omega | (simp only [List.length_append, List.length_singleton]; omega))
            have hr200 := (OwnRows.rowAt ho166r hp198).1
            refine Sq.val .plain rfl rfl (Still.at' sl23 hp198 rfl rfl) ?_
            refine Sq.val .plain rfl rfl (Still.loadA one28 rfl hp198.1) ?_
            refine Sq.move .plain rfl rfl ?_
            obtain ⟨p201, hp202o⟩ := Own.at hr200 (i := 0) (by first | omega | (rw [getD_app (by omega)]; omega)) (by first | (simp only [List.length_map]; first | omega | (rw [getD_app (by omega)]; omega)) | (simp; first | omega | (rw [getD_app (by omega)]; omega)))
            refine Sq.atO sl28 hp202o .plain rfl rfl rfl ?_
            refine Sq.storeO one3 hr200 hp202o .plain rfl rfl rfl (fun w203 g204 ho205 => ?_)
            have hs206 := World.grownBy.size g204
            rw [← List.map_set] at ho205
            replace ho166r := (OwnRows.set ho166r (by decide) hp198 ho205 g204).1
            replace hR := hR.owned hr200 g204 (by decide)
            replace G := grown_new G hr200 g204 (by omega)
            replace hB12 := hB12.owned hr200 g204 (by decide)
            replace hB33 := hB33.owned hr200 g204 (by decide)
            replace ho191 := ho191.owned hr200 g204 (by decide)
            refine Sq.nil ?_
            refine Eq.end ?_
            refine Eq.next ?_
            refine Cq.seq ?_
            refine Cq.region ?_
            refine Sq.loadAgg agg26 .plain rfl rfl hB33 rfl ?_
            refine Sq.storeAgg agg26 .plain rfl rfl (one_cons rfl (one_cons (Rows.one (OwnRows.rows ho166r)) (one_cons (Row.one (Own.row ho191)) one_nil))) hB12 rfl rfl (fun w207 g208 hB209 => ?_)
            have hs210 := World.grownBy.size g208
            replace hR := hR.grown g208 (by intro h; injection h with h; omega)
            replace G := grown_far G g208 (fun k hk => by injection hk with hk; subst hk; omega)
            replace ho166r := ho166r.stored g208 hB12 (by decide) (by decide)
            replace ho191 := ho191.stored g208 hB12 (by decide)
            replace hB12 := hB209
            refine Sq.nil ?_
            refine Eq.next ?_
            refine Cq.ret ?_
            refine Eq.retCell rfl rfl agg26 hB12 rfl ?_
            exact ⟨⟨_, by omega, hR, G⟩, ⟨a.al, _, a.acc ++ [a.acc.getD k55.toNat false]⟩, ⟨_, _, rfl, (OwnRows.rows ho166r), (Own.row (Own.snocB ho191))⟩, Small.row (a := ⟨a.al, a.next ++ [a.next.getD k55.toNat []], a.acc ++ [a.acc.getD k55.toNat false]⟩) (hsm.push2 (m := N + 10) (by omega) (by have := hsm.rowAt (k := k55.toNat); omega)) (by omega) (by rw [List.length_set, getD_app (by omega)]; have := hsm.rowAt (k := k55.toNat); omega)⟩
          refine Sq.val .plain rfl rfl (Still.loadA one28 rfl hpA.1) ?_
          refine Sq.nil ?_
          refine Eq.goes (fun _ => hB33) ?_
          refine Gq.one 2 rfl (by kernel_rfl) ?_
          refine Sq.lit sl28 rfl rfl .plain rfl rfl one_nil (fun b211 w212 e213 hlo214 ho215 _ => ?_)
          replace ho215 := ho215 w141.heap.size (Nat.le_refl _)
          have hs217 := Below.size e213
          replace hR := hR.ext e213
          replace G := grown_trans G (Ext.to_grown e213 _)
          replace hB12 := hB12.ext e213
          replace hn23 := hn23.ext e213
          replace ha24 := ha24.ext e213
          replace hB33 := hB33.ext e213
          replace hrA := hrA.ext e213
          refine Sq.nil ?_
          refine Eq.goes (fun _ => hB33) ?_
          refine Gq.one 8 rfl (by kernel_rfl) ?_
          refine Sq.app sl28 ho215 (by omega) (Own.row hrA) (one_ints _) (by rw [List.length_map]; simp only [List.length_nil, Nat.zero_add]; omega) .plain rfl rfl rfl rfl (fun v218 w219 ho221 g220 => ?_)
          have hs222 := g220.size
          replace hR := hR.owned ho215 g220 (by decide)
          replace G := grown_new G ho215 g220 (by omega)
          replace hB12 := hB12.owned ho215 g220 (by decide)
          replace hn23 := hn23.apart ho215 g220 (by omega) (by decide)
          replace ha24 := ha24.owned ho215 g220 (by decide)
          replace hB33 := hB33.owned ho215 g220 (by decide)
          simp only [List.nil_append] at ho221
          refine Sq.nil ?_
          refine Eq.goes (fun _ => hB33) ?_
          refine Gq.one 9 rfl (by kernel_rfl) ?_
          refine Sq.lit sl23 rfl rfl .plain rfl rfl (one_cons (Row.one (Own.row ho221)) one_nil) (fun b223 w224 e225 hlo226 ho227 _ => ?_)
          replace ho227 := ho227 w219.heap.size (Nat.le_refl _)
          have hs229 := Below.size e225
          replace hR := hR.ext e225
          replace G := grown_trans G (Ext.to_grown e225 _)
          replace hB12 := hB12.ext e225
          replace hn23 := hn23.ext e225
          replace ha24 := ha24.ext e225
          replace hB33 := hB33.ext e225
          replace ho221 := ho221.ext e225
          refine Sq.nil ?_
          refine Eq.goes (fun _ => hB33) ?_
          refine Gq.one 10 rfl (by kernel_rfl) ?_
          obtain ⟨rs234, q235, q236, q237⟩ := OwnRows.open hn23 (by decide)
          have q237x := Ext.refl w224
          refine Sq.app sl23 q235 (by omega) (Own.row ho227) (one_cons (Row.one (Own.row ho221)) one_nil) (by rw [q236]; first | omega | (simp; omega)) .plain rfl rfl rfl rfl (fun v230 w231 ho233 g232 => ?_)
          have hs238 := g232.size
          have ho233r := q237 _ (a.next.getD k55.toNat []) _ _ _ (Ext.refl _) (Own.mono ho221 (by omega)) (by omega) ho233 g232
          replace hR := hR.owned q235 g232 (by decide)
          replace G := grown_new G q235 g232 (by omega)
          replace hB12 := hB12.owned q235 g232 (by decide)
          replace ha24 := ha24.owned q235 g232 (by decide)
          replace hB33 := hB33.owned q235 g232 (by decide)
          refine Sq.nil ?_
          refine Eq.goes (fun _ => hB33) ?_
          refine Gq.one 11 rfl (by kernel_rfl) ?_
          refine Sq.fieldAddr fld26_1 .plain rfl rfl ?_
          refine Sq.nil ?_
          refine Eq.goes (fun h => absurd h (by decide)) ?_
          refine Gq.one 12 rfl (by kernel_rfl) ?_
          refine Sq.store one23 .plain rfl rfl (Rows.one (OwnRows.rows ho233r)) hB33 (by simp) (fun w239 g240 hB241 => ?_)
          have hs242 := World.grownBy.size g240
          replace hR := hR.grown g240 (by intro h; injection h with h; omega)
          replace G := grown_far G g240 (fun k hk => by injection hk with hk; subst hk; omega)
          replace hB12 := hB12.grown g240 (by intro h; injection h with h; omega)
          replace ha24 := ha24.stored g240 hB33 (by decide)
          replace ho233r := ho233r.stored g240 hB33 (by decide) (by decide)
          replace hB33 := hB241
          refine Sq.nil ?_
          refine Eq.goes (fun h => absurd h (by decide)) ?_
          refine Gq.done (by kernel_rfl) ?_
          refine Eq.next ?_
          refine Cq.seq ?_
          refine Cq.drawS 9 (fun w' => Blk w' b30 26 [Value.int .i64 a.al, v230, ac22]) mixed (hB33) (fun w243 e244 hS => ?_)
          clear hS
          have hs245 := Below.size e244
          replace hR := hR.ext e244
          replace G := grown_trans G (Ext.to_grown e244 _)
          replace hB12 := hB12.ext e244
          replace ha24 := ha24.ext e244
          replace hB33 := hB33.ext e244
          replace ho233r := ho233r.ext e244
          refine Gq.st 0 rfl (by kernel_rfl) rfl .plain rfl (fun _ _ _ h => h) hB33 (fun w' x => Still.fieldAddr fld26_2 rfl) ?_
          refine Gq.st 1 rfl (by kernel_rfl) rfl .plain rfl (fun _ _ _ h => h) hB33 (fun w' x => Still.loadB one24 rfl x rfl) ?_
          refine Gq.st 2 rfl (by kernel_rfl) rfl .plain rfl (fun _ _ _ h => h) hB33 (fun w' x => Still.fieldAddr fld26_2 rfl) ?_
          refine Gq.st 3 rfl (by kernel_rfl) rfl .plain rfl (fun _ _ _ h => h) hB33 (fun w' x => Still.loadB one24 rfl x rfl) ?_
          refine Gq.st 4 rfl (by kernel_rfl) rfl .plain rfl (fun _ _ _ h => h) hB33 (fun w' x => Still.move rfl) ?_
          refine Gq.one 5 rfl (by kernel_rfl) ?_
          obtain ⟨p246, hp247⟩ := Bools.at (Own.row ha24) (i := k55) (by omega) (by omega)
          refine Sq.val .plain rfl rfl (Still.at' sl24 hp247 rfl rfl) ?_
          refine Sq.nil ?_
          refine Eq.goes (fun _ => hB33) ?_
          refine Gq.one 6 rfl (by kernel_rfl) ?_
          refine Sq.val .plain rfl rfl (Still.loadA one4 rfl hp247.1) ?_
          refine Sq.nil ?_
          refine Eq.goes (fun _ => hB33) ?_
          refine Gq.one 7 rfl (by kernel_rfl) ?_
          refine Sq.lit sl24 rfl rfl .plain rfl rfl (one_cons rfl one_nil) (fun b248 w249 e250 hlo251 ho252 _ => ?_)
          replace ho252 := ho252 w243.heap.size (Nat.le_refl _)
          have hs254 := Below.size e250
          replace hR := hR.ext e250
          replace G := grown_trans G (Ext.to_grown e250 _)
          replace hB12 := hB12.ext e250
          replace ha24 := ha24.ext e250
          replace hB33 := hB33.ext e250
          replace ho233r := ho233r.ext e250
          refine Sq.nil ?_
          refine Eq.goes (fun _ => hB33) ?_
          refine Gq.one 8 rfl (by kernel_rfl) ?_
          refine Sq.app sl24 ha24 (by omega) (Own.row ho252) (one_cons rfl one_nil) (by first | omega | (simp; omega)) .plain rfl rfl rfl rfl (fun v255 w256 ho258 g257 => ?_)
          have hs259 := g257.size
          replace hR := hR.owned ha24 g257 (by decide)
          replace G := grown_new G ha24 g257 (by omega)
          replace hB12 := hB12.owned ha24 g257 (by decide)
          replace hB33 := hB33.owned ha24 g257 (by decide)
          replace ho233r := ho233r.owned ha24 g257 (by decide) (by decide)
          refine Sq.nil ?_
          refine Eq.goes (fun _ => hB33) ?_
          refine Gq.one 9 rfl (by kernel_rfl) ?_
          refine Sq.fieldAddr fld26_2 .plain rfl rfl ?_
          refine Sq.nil ?_
          refine Eq.goes (fun h => absurd h (by decide)) ?_
          refine Gq.one 10 rfl (by kernel_rfl) ?_
          refine Sq.store one24 .plain rfl rfl (Row.one (Own.row ho258)) hB33 (by simp) (fun w260 g261 hB262 => ?_)
          have hs263 := World.grownBy.size g261
          replace hR := hR.grown g261 (by intro h; injection h with h; omega)
          replace G := grown_far G g261 (fun k hk => by injection hk with hk; subst hk; omega)
          replace hB12 := hB12.grown g261 (by intro h; injection h with h; omega)
          replace ho233r := ho233r.stored g261 hB33 (by decide) (by decide)
          replace ho258 := ho258.stored g261 hB33 (by decide)
          replace hB33 := hB262
          refine Sq.nil ?_
          refine Eq.goes (fun h => absurd h (by decide)) ?_
          refine Gq.done (by kernel_rfl) ?_
          refine Eq.next ?_
          refine Cq.region ?_
          refine Sq.fieldAddr fld26_1 .plain rfl rfl ?_
          refine Sq.loadB one23 .plain rfl rfl hB33 rfl ?_
          refine Sq.move .plain rfl rfl ?_
          obtain ⟨p264, r266, hp265, _⟩ := Rows.at (OwnRows.rows ho233r) (i := k55) (by first | omega | (simp only [List.length_append, List.length_singleton]; omega)) (by first | omega | (simp only [List.length_append, List.length_singleton]; omega))
          have hr267 := (OwnRows.rowAt ho233r hp265).1
          refine Sq.val .plain rfl rfl (Still.at' sl23 hp265 rfl rfl) ?_
          refine Sq.val .plain rfl rfl (Still.loadA one28 rfl hp265.1) ?_
          refine Sq.move .plain rfl rfl ?_
          obtain ⟨p268, hp269o⟩ := Own.at hr267 (i := 0) (by first | omega | (rw [getD_app (by omega)]; omega)) (by first | (simp only [List.length_map]; first | omega | (rw [getD_app (by omega)]; omega)) | (simp; first | omega | (rw [getD_app (by omega)]; omega)))
          refine Sq.atO sl28 hp269o .plain rfl rfl rfl ?_
          refine Sq.storeO one3 hr267 hp269o .plain rfl rfl rfl (fun w270 g271 ho272 => ?_)
          have hs273 := World.grownBy.size g271
          rw [← List.map_set] at ho272
          replace ho233r := (OwnRows.set ho233r (by decide) hp265 ho272 g271).1
          replace hR := hR.owned hr267 g271 (by decide)
          replace G := grown_new G hr267 g271 (by omega)
          replace hB12 := hB12.owned hr267 g271 (by decide)
          replace hB33 := hB33.owned hr267 g271 (by decide)
          replace ho258 := ho258.owned hr267 g271 (by decide)
          refine Sq.nil ?_
          refine Eq.end ?_
          refine Eq.next ?_
          refine Cq.seq ?_
          refine Cq.region ?_
          refine Sq.loadAgg agg26 .plain rfl rfl hB33 rfl ?_
          refine Sq.storeAgg agg26 .plain rfl rfl (one_cons rfl (one_cons (Rows.one (OwnRows.rows ho233r)) (one_cons (Row.one (Own.row ho258)) one_nil))) hB12 rfl rfl (fun w274 g275 hB276 => ?_)
          have hs277 := World.grownBy.size g275
          replace hR := hR.grown g275 (by intro h; injection h with h; omega)
          replace G := grown_far G g275 (fun k hk => by injection hk with hk; subst hk; omega)
          replace ho233r := ho233r.stored g275 hB12 (by decide) (by decide)
          replace ho258 := ho258.stored g275 hB12 (by decide)
          replace hB12 := hB276
          refine Sq.nil ?_
          refine Eq.next ?_
          refine Cq.ret ?_
          refine Eq.retCell rfl rfl agg26 hB12 rfl ?_
          exact ⟨⟨_, by omega, hR, G⟩, ⟨a.al, _, a.acc ++ [a.acc.getD k55.toNat false]⟩, ⟨_, _, rfl, (OwnRows.rows ho233r), (Own.row (Own.snocB ho258))⟩, Small.row (a := ⟨a.al, a.next ++ [a.next.getD k55.toNat []], a.acc ++ [a.acc.getD k55.toNat false]⟩) (hsm.push2 (m := N + 10) (by omega) (by have := hsm.rowAt (k := k55.toNat); omega)) (by omega) (by rw [List.length_set, getD_app (by omega)]; have := hsm.rowAt (k := k55.toNat); omega)⟩
        refine Sq.pickT .plain rfl rfl rfl ?_
        refine Sq.nil ?_
        refine Eq.next ?_
        refine Cq.els rfl ?_
        refine Cq.skip ?_
        refine Eq.end ?_
        refine Eq.next ?_
        refine Cq.seq ?_
        refine Cq.region ?_
        refine Sq.loadAgg agg26 .plain rfl rfl hB33 rfl ?_
        refine Sq.storeAgg agg26 .plain rfl rfl (one_cons rfl (one_cons (Rows.one (OwnRows.rows hn23)) (one_cons (Row.one (Own.row ha24)) one_nil))) hB12 rfl rfl (fun w278 g279 hB280 => ?_)
        have hs281 := World.grownBy.size g279
        replace hR := hR.grown g279 (by intro h; injection h with h; omega)
        replace G := grown_far G g279 (fun k hk => by injection hk with hk; subst hk; omega)
        replace hn23 := hn23.stored g279 hB12 (by decide) (by decide)
        replace ha24 := ha24.stored g279 hB12 (by decide)
        replace hB12 := hB280
        refine Sq.nil ?_
        refine Eq.next ?_
        refine Cq.ret ?_
        refine Eq.retCell rfl rfl agg26 hB12 rfl ?_
        exact ⟨⟨_, by omega, hR, G⟩, a, ⟨_, _, rfl, (OwnRows.rows hn23), (Own.row ha24)⟩, hsm.mono (by omega)⟩
      refine Sq.pickT .plain rfl rfl rfl ?_
      refine Sq.move .plain rfl rfl ?_
      refine Sq.off rfl rfl rfl rfl rfl rfl ?_
      refine Sq.off rfl rfl rfl rfl rfl rfl ?_
      refine Sq.off rfl rfl rfl rfl rfl rfl ?_
      refine Sq.off rfl rfl rfl rfl rfl rfl ?_
      refine Sq.off rfl rfl rfl rfl rfl rfl ?_
      refine Sq.off rfl rfl rfl rfl rfl rfl ?_
      refine Sq.off rfl rfl rfl rfl rfl rfl ?_
      refine Sq.pickF .plain rfl rfl rfl ?_
      refine Sq.nil ?_
      refine Eq.next ?_
      refine Cq.els rfl ?_
      refine Cq.skip ?_
      refine Eq.end ?_
      refine Eq.next ?_
      refine Cq.seq ?_
      refine Cq.region ?_
      refine Sq.loadAgg agg26 .plain rfl rfl hB33 rfl ?_
      refine Sq.storeAgg agg26 .plain rfl rfl (one_cons rfl (one_cons (Rows.one (OwnRows.rows hn23)) (one_cons (Row.one (Own.row ha24)) one_nil))) hB12 rfl rfl (fun w282 g283 hB284 => ?_)
      have hs285 := World.grownBy.size g283
      replace hR := hR.grown g283 (by intro h; injection h with h; omega)
      replace G := grown_far G g283 (fun k hk => by injection hk with hk; subst hk; omega)
      replace hn23 := hn23.stored g283 hB12 (by decide) (by decide)
      replace ha24 := ha24.stored g283 hB12 (by decide)
      replace hB12 := hB284
      refine Sq.nil ?_
      refine Eq.next ?_
      refine Cq.ret ?_
      refine Eq.retCell rfl rfl agg26 hB12 rfl ?_
      exact ⟨⟨_, by omega, hR, G⟩, a, ⟨_, _, rfl, (OwnRows.rows hn23), (Own.row ha24)⟩, hsm.mono (by omega)⟩
    refine Sq.move .plain rfl rfl ?_
    refine Sq.off rfl rfl rfl rfl rfl rfl ?_
    refine Sq.off rfl rfl rfl rfl rfl rfl ?_
    refine Sq.off rfl rfl rfl rfl rfl rfl ?_
    refine Sq.off rfl rfl rfl rfl rfl rfl ?_
    refine Sq.off rfl rfl rfl rfl rfl rfl ?_
    refine Sq.pickF .plain rfl rfl rfl ?_
    refine Sq.move .plain rfl rfl ?_
    refine Sq.off rfl rfl rfl rfl rfl rfl ?_
    refine Sq.off rfl rfl rfl rfl rfl rfl ?_
    refine Sq.off rfl rfl rfl rfl rfl rfl ?_
    refine Sq.off rfl rfl rfl rfl rfl rfl ?_
    refine Sq.off rfl rfl rfl rfl rfl rfl ?_
    refine Sq.off rfl rfl rfl rfl rfl rfl ?_
    refine Sq.off rfl rfl rfl rfl rfl rfl ?_
    refine Sq.pickF .plain rfl rfl rfl ?_
    refine Sq.nil ?_
    refine Eq.next ?_
    refine Cq.els rfl ?_
    refine Cq.skip ?_
    refine Eq.end ?_
    refine Eq.next ?_
    refine Cq.seq ?_
    refine Cq.region ?_
    refine Sq.loadAgg agg26 .plain rfl rfl hB33 rfl ?_
    refine Sq.storeAgg agg26 .plain rfl rfl (one_cons rfl (one_cons (Rows.one (OwnRows.rows hn23)) (one_cons (Row.one (Own.row ha24)) one_nil))) hB12 rfl rfl (fun w286 g287 hB288 => ?_)
    have hs289 := World.grownBy.size g287
    replace hR := hR.grown g287 (by intro h; injection h with h; omega)
    replace G := grown_far G g287 (fun k hk => by injection hk with hk; subst hk; omega)
    replace hn23 := hn23.stored g287 hB12 (by decide) (by decide)
    replace ha24 := ha24.stored g287 hB12 (by decide)
    replace hB12 := hB288
    refine Sq.nil ?_
    refine Eq.next ?_
    refine Cq.ret ?_
    refine Eq.retCell rfl rfl agg26 hB12 rfl ?_
    exact ⟨⟨_, by omega, hR, G⟩, a, ⟨_, _, rfl, (OwnRows.rows hn23), (Own.row ha24)⟩, hsm.mono (by omega)⟩
  refine Sq.assign .plain rfl rfl ?_
  refine Sq.nil ?_
  refine Eq.next ?_
  refine Cq.els rfl ?_
  refine Cq.skip ?_
  refine Eq.end ?_
  refine Eq.next ?_
  refine Cq.seq ?_
  refine Cq.region ?_
  refine Sq.loadAgg agg26 .plain rfl rfl hB33 rfl ?_
  refine Sq.storeAgg agg26 .plain rfl rfl (one_cons rfl (one_cons (Rows.one (OwnRows.rows hn23)) (one_cons (Row.one (Own.row ha24)) one_nil))) hB12 rfl rfl (fun w290 g291 hB292 => ?_)
  have hs293 := World.grownBy.size g291
  replace hR := hR.grown g291 (by intro h; injection h with h; omega)
  replace G := grown_far G g291 (fun k hk => by injection hk with hk; subst hk; omega)
  replace hn23 := hn23.stored g291 hB12 (by decide) (by decide)
  replace ha24 := ha24.stored g291 hB12 (by decide)
  replace hB12 := hB292
  refine Sq.nil ?_
  refine Eq.next ?_
  refine Cq.ret ?_
  refine Eq.retCell rfl rfl agg26 hB12 rfl ?_
  exact ⟨⟨_, by omega, hR, G⟩, a, ⟨_, _, rfl, (OwnRows.rows hn23), (Own.row ha24)⟩, hsm.mono (by omega)⟩
end Go.Proofs.YtoboklelbbgcnaaDoor
set_option linter.unusedSimpArgs false
set_option linter.unusedVariables false
namespace Go.Proofs.YtoboklelbbgcnaaDoor
open Go.RowKit
set_option maxRecDepth 100000 in
theorem l5Any_c (w0 : World) (rb : Nat) (bv : Value) (p : Int) (bs : List UInt8) (e0 : TypeId) (hR : Blk w0 rb 47 [bv, .int .i64 p]) (hb : Src w0 e0 bv bs rb) (hbl : bs.length ≤ 2000) (hp : 0 ≤ p ∧ p ≤ 450000000) : Ret Tryd.prog 12 #[Value.pointer (some ⟨rb, 0, none⟩)] w0 (fun v w => (∃ p', (p ≤ p' ∧ p' ≤ p + 500) ∧ Blk w rb 47 [bv, .int .i64 p'] ∧ w0.grownBy w (some rb)) ∧ ∃ a, RowsA w v a ∧ Small 400 a) := by
  have G := World.grownBy.refl w0 (some rb)
  have hlt := hR.lt
  refine Ret.of (args := [Value.pointer (some ⟨rb, 0, none⟩)]) Tryd.func12 rfl rfl rfl ?_
  rintro _ rfl
  show Cq _ _ _ _ [(0, Value.pointer (some ⟨rb, 0, none⟩))] _
  refine Cq.seq ?_
  refine Cq.region ?_
  refine Sq.alloc zero26 .plain rfl (fun b1 w2 e3 hB4 hlo5 => ?_)
  have hd6 := Nat.lt_of_lt_of_le hR.lt hlo5
  have hd7 := Nat.le_trans (World.grownBy.size G) hlo5
  have hs8 := Below.size e3
  replace hR := hR.ext e3
  replace G := grown_trans G (Ext.to_grown e3 _)
  refine Sq.nil ?_
  refine Eq.next ?_
  refine Cq.seq ?_
  refine Cq.region ?_
  refine Sq.move .plain rfl rfl ?_
  refine Sq.call fn21 .plain rfl rfl (l3Draw_c _ _ _ _ _ _ hR (hb.go G) hbl (by omega) ) ?_
  rintro _ w10 ⟨⟨p11, hp14, hB13, g12⟩, ⟨a15, ⟨nx16, ac17, rfl, hn18, ha19⟩, hv20, hal21⟩⟩
  have hs22 := World.grownBy.size g12
  have hs23 := World.grownBy.size G
  have hs24 := World.grownBy.size g12
  replace G := grown_trans G g12
  replace hB4 := hB4.grown g12 (by intro h; injection h with h; omega)
  replace hR := hB13
  refine Sq.alloc zero26 .plain rfl (fun b25 w26 e27 hB28 hlo29 => ?_)
  have hd30 := Nat.lt_of_lt_of_le hR.lt hlo29
  have hd31 := Nat.le_trans (World.grownBy.size G) hlo29
  have hd32 := Nat.lt_of_lt_of_le hB4.lt hlo29
  have hs33 := Below.size e27
  replace hR := hR.ext e27
  replace G := grown_trans G (Ext.to_grown e27 _)
  replace hB4 := hB4.ext e27
  replace hn18 := hn18.ext e27
  replace ha19 := ha19.ext e27
  refine Sq.storeAgg agg26 .plain rfl rfl (one_cons rfl (one_cons (Rows.one hn18) (one_cons (Row.one ha19) one_nil))) hB28 rfl rfl (fun w34 g35 hB36 => ?_)
  have hs37 := World.grownBy.size g35
  replace hR := hR.grown g35 (by intro h; injection h with h; omega)
  replace G := grown_far G g35 (fun k hk => by injection hk with hk; subst hk; omega)
  replace hB4 := hB4.grown g35 (by intro h; injection h with h; omega)
  replace hn18 := hn18.stored g35 hB28 (by decide) (by decide)
  replace ha19 := ha19.stored g35 hB28 (by decide)
  replace hB28 := hB36
  refine Sq.nil ?_
  refine Eq.next ?_
  refine Cq.seq ?_
  refine Cq.seq ?_
  refine Cq.region ?_
  refine Sq.move .plain rfl rfl ?_
  refine Sq.call fn22 .plain rfl rfl (pick_c _ _ _ _ _ _ hR (hb.go G) hbl (by omega) 3 (by omega)) ?_
  rintro _ w39 ⟨⟨p40, hp43, hB42, g41⟩, ⟨k44, rfl, hk45⟩⟩
  have hs46 := World.grownBy.size g41
  have hs47 := World.grownBy.size G
  have hs48 := World.grownBy.size g41
  replace G := grown_trans G g41
  replace hB4 := hB4.grown g41 (by intro h; injection h with h; omega)
  replace hn18 := hn18.stored g41 hR (by decide) (by decide)
  replace ha19 := ha19.stored g41 hR (by decide)
  replace hB28 := hB28.grown g41 (by intro h; injection h with h; omega)
  replace hR := hB42
  refine Sq.assign .plain rfl rfl ?_
  refine Sq.nil ?_
  refine Eq.next ?_
  refine Cq.block ?_
  refine Cq.loop (fun nn w ls => ∃ (i : Int), ∃ (p1 : Int), ∃ (N1 : Nat), ∃ (A1 : A), ∃ (nxv : Value), ∃ (acv : Value), ls = [(0, Value.pointer (some ⟨rb, 0, none⟩)), (2, Value.pointer (some ⟨b1, 0, none⟩)), (3, Value.pointer (some ⟨b25, 0, none⟩)), (4, Value.int .i64 i)] ∧ (0 ≤ i ∧ i ≤ 2) ∧ (p ≤ p1 ∧ p1 ≤ p + 310 + 10 * (2 - i)) ∧ Blk w rb 47 [bv, Value.int .i64 p1] ∧ Blk w b25 26 [Value.int .i64 A1.al, nxv, acv] ∧ Rows w 28 3 nxv A1.next ∧ Bools w 4 acv A1.acc ∧ (N1 + 20 * i.toNat ≤ 240) ∧ Small N1 A1 ∧ World.grownBy w0 w (some rb) ∧ Blk w b1 26 [Value.int .i64 0, Value.slice none 0 0, Value.slice none 0 0] ∧ nn = i.toNat) _ _ ⟨k44, _, _, _, _, _, rfl, by omega, by omega, hR, hB28, hn18, ha19, by omega, hv20, G, hB4, rfl⟩ (.cons rfl (.cons rfl (.cons rfl (.cons rfl (.nil))))) ?_
  rintro nn wl1 ls ⟨i, p1, N1, A1, nxv, acv, rfl, hi, hp1, hR, hBr, hnr, har, hN1, hsm0, G, hB4, rfl⟩
  have hs49 := World.grownBy.size G
  refine Cq.seq ?_
  refine Cq.seq ?_
  refine Cq.region ?_
  refine Sq.move .plain rfl rfl ?_
  refine Sq.gtr .plain rfl rfl rfl ?_
  refine Sq.part (fun c50 => ?_) (fun c50 => ?_)
  · refine Sq.nil ?_
    refine Eq.next ?_
    refine Cq.thn rfl ?_
    refine Cq.skip ?_
    refine Eq.next ?_
    refine Cq.seq ?_
    refine Cq.block ?_
    refine Cq.region ?_
    refine Sq.move .plain rfl rfl ?_
    refine Sq.loadAgg agg26 .plain rfl rfl hBr rfl ?_
    refine Sq.call fn23 .plain rfl rfl (l4Change_c _ _ _ _ _ _ hR (hb.go G) hbl (by omega) A1 _ _ hnr har _ (by omega) hsm0) ?_
    rintro _ w52 ⟨⟨p53, hp56, hB55, g54⟩, ⟨a57, ⟨nx58, ac59, rfl, hn60, ha61⟩, hv62⟩⟩
    have hs63 := World.grownBy.size g54
    have hs64 := World.grownBy.size G
    have hs65 := World.grownBy.size g54
    replace G := grown_trans G g54
    replace hB4 := hB4.grown g54 (by intro h; injection h with h; omega)
    replace hBr := hBr.grown g54 (by intro h; injection h with h; omega)
    replace hR := hB55
    refine Sq.storeAgg agg26 .plain rfl rfl (one_cons rfl (one_cons (Rows.one hn60) (one_cons (Row.one ha61) one_nil))) hBr rfl rfl (fun w66 g67 hB68 => ?_)
    have hs69 := World.grownBy.size g67
    replace G := grown_far G g67 (fun k hk => by injection hk with hk; subst hk; omega)
    replace hB4 := hB4.grown g67 (by intro h; injection h with h; omega)
    replace hR := hR.grown g67 (by intro h; injection h with h; omega)
    replace hn60 := hn60.stored g67 hBr (by decide) (by decide)
    replace ha61 := ha61.stored g67 hBr (by decide)
    replace hBr := hB68
    refine Sq.nil ?_
    refine Eq.end ?_
    refine Eq.next ?_
    refine Cq.region ?_
    refine Sq.move .plain rfl rfl ?_
    refine Sq.sub .plain rfl rfl rfl (by omega) ?_
    refine Sq.assign .plain rfl rfl ?_
    refine Sq.nil ?_
    refine Eq.round _ _ ⟨_, _, _, _, _, _, rfl, by omega, by omega, hR, hBr, hn60, ha61, by omega, hv62, G, hB4, rfl⟩ (by omega) (.cons rfl (.cons rfl (.cons rfl (.cons rfl (.nil)))))
  refine Sq.nil ?_
  refine Eq.next ?_
  refine Cq.els rfl ?_
  refine Cq.exit ?_
  refine Eq.past ?_
  refine Eq.past ?_
  refine Eq.hit ?_
  refine Eq.next ?_
  refine Cq.seq ?_
  refine Cq.seq ?_
  refine Cq.region ?_
  refine Sq.move .plain rfl rfl ?_
  refine Sq.call fn22 .plain rfl rfl (pick_c _ _ _ _ _ _ hR (hb.go G) hbl (by omega) 10 (by omega)) ?_
  rintro _ w71 ⟨⟨p72, hp75, hB74, g73⟩, ⟨k76, rfl, hk77⟩⟩
  have hs78 := World.grownBy.size g73
  have hs79 := World.grownBy.size G
  have hs80 := World.grownBy.size g73
  replace G := grown_trans G g73
  replace hB4 := hB4.grown g73 (by intro h; injection h with h; omega)
  replace hBr := hBr.grown g73 (by intro h; injection h with h; omega)
  replace hnr := hnr.stored g73 hR (by decide) (by decide)
  replace har := har.stored g73 hR (by decide)
  replace hR := hB74
  refine Sq.eql .plain rfl rfl rfl ?_
  refine Sq.part (fun c81 => ?_) (fun c81 => ?_)
  · refine Sq.nil ?_
    refine Eq.next ?_
    refine Cq.thn rfl ?_
    refine Cq.region ?_
    refine Sq.move .plain rfl rfl ?_
    refine Sq.call fn24 .plain rfl rfl (l3Big_c _ _ _ _ _ _ hR (hb.go G) hbl (by omega) ) ?_
    rintro _ w83 ⟨⟨p84, hp87, hB86, g85⟩, ⟨a88, ⟨nx89, ac90, rfl, hn91, ha92⟩, hv93⟩⟩
    have hs94 := World.grownBy.size g85
    have hs95 := World.grownBy.size G
    have hs96 := World.grownBy.size g85
    replace G := grown_trans G g85
    replace hB4 := hB4.grown g85 (by intro h; injection h with h; omega)
    replace hBr := hBr.grown g85 (by intro h; injection h with h; omega)
    replace hR := hB86
    refine Sq.storeAgg agg26 .plain rfl rfl (one_cons rfl (one_cons (Rows.one (OwnRows.rows hn91)) (one_cons (Row.one (Own.row ha92)) one_nil))) hBr rfl rfl (fun w97 g98 hB99 => ?_)
    have hs100 := World.grownBy.size g98
    replace G := grown_far G g98 (fun k hk => by injection hk with hk; subst hk; omega)
    replace hB4 := hB4.grown g98 (by intro h; injection h with h; omega)
    replace hR := hR.grown g98 (by intro h; injection h with h; omega)
    replace hn91 := hn91.stored g98 hBr (by decide) (by decide)
    replace ha92 := ha92.stored g98 hBr (by decide)
    replace hBr := hB99
    refine Sq.nil ?_
    refine Eq.next ?_
    refine Cq.seq ?_
    refine Cq.seq ?_
    refine Cq.region ?_
    refine Sq.move .plain rfl rfl ?_
    refine Sq.call fn22 .plain rfl rfl (pick_c _ _ _ _ _ _ hR (hb.go G) hbl (by omega) 6 (by omega)) ?_
    rintro _ w102 ⟨⟨p103, hp106, hB105, g104⟩, ⟨k107, rfl, hk108⟩⟩
    have hs109 := World.grownBy.size g104
    have hs110 := World.grownBy.size G
    have hs111 := World.grownBy.size g104
    replace G := grown_trans G g104
    replace hB4 := hB4.grown g104 (by intro h; injection h with h; omega)
    replace hBr := hBr.grown g104 (by intro h; injection h with h; omega)
    replace hn91 := hn91.stored g104 hR (by decide) (by decide)
    replace ha92 := ha92.stored g104 hR (by decide)
    replace hR := hB105
    refine Sq.eql .plain rfl rfl rfl ?_
    refine Sq.part (fun c112 => ?_) (fun c112 => ?_)
    · refine Sq.nil ?_
      refine Eq.next ?_
      refine Cq.thn rfl ?_
      refine Cq.region ?_
      refine Sq.move .plain rfl rfl ?_
      refine Sq.loadAgg agg26 .plain rfl rfl hBr rfl ?_
      refine Sq.call fn25 .plain rfl rfl (l3Wrong_c _ _ _ _ _ _ hR (hb.go G) hbl (by omega) a88 _ _ (OwnRows.rows hn91) (Own.row ha92) _ (by omega) (Small.of hv93)) ?_
      rintro _ w114 ⟨⟨p115, hp118, hB117, g116⟩, ⟨a119, ⟨nx120, ac121, rfl, hn122, ha123⟩, hv124⟩⟩
      have hs125 := World.grownBy.size g116
      have hs126 := World.grownBy.size G
      have hs127 := World.grownBy.size g116
      replace G := grown_trans G g116
      replace hB4 := hB4.grown g116 (by intro h; injection h with h; omega)
      replace hBr := hBr.grown g116 (by intro h; injection h with h; omega)
      replace hR := hB117
      refine Sq.storeAgg agg26 .plain rfl rfl (one_cons rfl (one_cons (Rows.one hn122) (one_cons (Row.one ha123) one_nil))) hBr rfl rfl (fun w128 g129 hB130 => ?_)
      have hs131 := World.grownBy.size g129
      replace G := grown_far G g129 (fun k hk => by injection hk with hk; subst hk; omega)
      replace hB4 := hB4.grown g129 (by intro h; injection h with h; omega)
      replace hR := hR.grown g129 (by intro h; injection h with h; omega)
      replace hn122 := hn122.stored g129 hBr (by decide) (by decide)
      replace ha123 := ha123.stored g129 hBr (by decide)
      replace hBr := hB130
      refine Sq.nil ?_
      refine Eq.next ?_
      refine Cq.seq ?_
      refine Cq.region ?_
      refine Sq.loadAgg agg26 .plain rfl rfl hBr rfl ?_
      refine Sq.storeAgg agg26 .plain rfl rfl (one_cons rfl (one_cons (Rows.one hn122) (one_cons (Row.one ha123) one_nil))) hB4 rfl rfl (fun w132 g133 hB134 => ?_)
      have hs135 := World.grownBy.size g133
      replace G := grown_far G g133 (fun k hk => by injection hk with hk; subst hk; omega)
      replace hR := hR.grown g133 (by intro h; injection h with h; omega)
      replace hn122 := hn122.stored g133 hB4 (by decide) (by decide)
      replace ha123 := ha123.stored g133 hB4 (by decide)
      replace hB4 := hB134
      refine Sq.nil ?_
      refine Eq.next ?_
      refine Cq.ret ?_
      refine Eq.retCell rfl rfl agg26 hB4 rfl ?_
      exact ⟨⟨_, by omega, hR, G⟩, _, ⟨_, _, rfl, hn122, ha123⟩, by first | exact (Small.of hsm0).mono (by omega) | exact Small.mono hsm0 (by omega) | exact (Small.of hv124).mono (by omega) | exact Small.mono hv124 (by omega) | exact (Small.of hv93).mono (by omega) | exact Small.mono hv93 (by omega) | exact (Small.of hv62).mono (by omega) | exact Small.mono hv62 (by omega) | exact (Small.of hv20).mono (by omega) | exact Small.mono hv20 (by omega)⟩
    refine Sq.nil ?_
    refine Eq.next ?_
    refine Cq.els rfl ?_
    refine Cq.skip ?_
    refine Eq.next ?_
    refine Cq.seq ?_
    refine Cq.region ?_
    refine Sq.loadAgg agg26 .plain rfl rfl hBr rfl ?_
    refine Sq.storeAgg agg26 .plain rfl rfl (one_cons rfl (one_cons (Rows.one (OwnRows.rows hn91)) (one_cons (Row.one (Own.row ha92)) one_nil))) hB4 rfl rfl (fun w136 g137 hB138 => ?_)
    have hs139 := World.grownBy.size g137
    replace G := grown_far G g137 (fun k hk => by injection hk with hk; subst hk; omega)
    replace hR := hR.grown g137 (by intro h; injection h with h; omega)
    replace hn91 := hn91.stored g137 hB4 (by decide) (by decide)
    replace ha92 := ha92.stored g137 hB4 (by decide)
    replace hB4 := hB138
    refine Sq.nil ?_
    refine Eq.next ?_
    refine Cq.ret ?_
    refine Eq.retCell rfl rfl agg26 hB4 rfl ?_
    exact ⟨⟨_, by omega, hR, G⟩, _, ⟨_, _, rfl, (OwnRows.rows hn91), (Own.row ha92)⟩, by first | exact (Small.of hsm0).mono (by omega) | exact Small.mono hsm0 (by omega) | exact (Small.of hv124).mono (by omega) | exact Small.mono hv124 (by omega) | exact (Small.of hv93).mono (by omega) | exact Small.mono hv93 (by omega) | exact (Small.of hv62).mono (by omega) | exact Small.mono hv62 (by omega) | exact (Small.of hv20).mono (by omega) | exact Small.mono hv20 (by omega)⟩
  refine Sq.nil ?_
  refine Eq.next ?_
  refine Cq.els rfl ?_
  refine Cq.skip ?_
  refine Eq.next ?_
  refine Cq.seq ?_
  refine Cq.seq ?_
  refine Cq.region ?_
  refine Sq.move .plain rfl rfl ?_
  refine Sq.call fn22 .plain rfl rfl (pick_c _ _ _ _ _ _ hR (hb.go G) hbl (by omega) 6 (by omega)) ?_
  rintro _ w141 ⟨⟨p142, hp145, hB144, g143⟩, ⟨k146, rfl, hk147⟩⟩
  have hs148 := World.grownBy.size g143
  have hs149 := World.grownBy.size G
  have hs150 := World.grownBy.size g143
  replace G := grown_trans G g143
  replace hB4 := hB4.grown g143 (by intro h; injection h with h; omega)
  replace hBr := hBr.grown g143 (by intro h; injection h with h; omega)
  replace hnr := hnr.stored g143 hR (by decide) (by decide)
  replace har := har.stored g143 hR (by decide)
  replace hR := hB144
  refine Sq.eql .plain rfl rfl rfl ?_
  refine Sq.part (fun c151 => ?_) (fun c151 => ?_)
  · refine Sq.nil ?_
    refine Eq.next ?_
    refine Cq.thn rfl ?_
    refine Cq.region ?_
    refine Sq.move .plain rfl rfl ?_
    refine Sq.loadAgg agg26 .plain rfl rfl hBr rfl ?_
    refine Sq.call fn25 .plain rfl rfl (l3Wrong_c _ _ _ _ _ _ hR (hb.go G) hbl (by omega) A1 _ _ hnr har _ (by omega) hsm0) ?_
    rintro _ w153 ⟨⟨p154, hp157, hB156, g155⟩, ⟨a158, ⟨nx159, ac160, rfl, hn161, ha162⟩, hv163⟩⟩
    have hs164 := World.grownBy.size g155
    have hs165 := World.grownBy.size G
    have hs166 := World.grownBy.size g155
    replace G := grown_trans G g155
    replace hB4 := hB4.grown g155 (by intro h; injection h with h; omega)
    replace hBr := hBr.grown g155 (by intro h; injection h with h; omega)
    replace hR := hB156
    refine Sq.storeAgg agg26 .plain rfl rfl (one_cons rfl (one_cons (Rows.one hn161) (one_cons (Row.one ha162) one_nil))) hBr rfl rfl (fun w167 g168 hB169 => ?_)
    have hs170 := World.grownBy.size g168
    replace G := grown_far G g168 (fun k hk => by injection hk with hk; subst hk; omega)
    replace hB4 := hB4.grown g168 (by intro h; injection h with h; omega)
    replace hR := hR.grown g168 (by intro h; injection h with h; omega)
    replace hn161 := hn161.stored g168 hBr (by decide) (by decide)
    replace ha162 := ha162.stored g168 hBr (by decide)
    replace hBr := hB169
    refine Sq.nil ?_
    refine Eq.next ?_
    refine Cq.seq ?_
    refine Cq.region ?_
    refine Sq.loadAgg agg26 .plain rfl rfl hBr rfl ?_
    refine Sq.storeAgg agg26 .plain rfl rfl (one_cons rfl (one_cons (Rows.one hn161) (one_cons (Row.one ha162) one_nil))) hB4 rfl rfl (fun w171 g172 hB173 => ?_)
    have hs174 := World.grownBy.size g172
    replace G := grown_far G g172 (fun k hk => by injection hk with hk; subst hk; omega)
    replace hR := hR.grown g172 (by intro h; injection h with h; omega)
    replace hn161 := hn161.stored g172 hB4 (by decide) (by decide)
    replace ha162 := ha162.stored g172 hB4 (by decide)
    replace hB4 := hB173
    refine Sq.nil ?_
    refine Eq.next ?_
    refine Cq.ret ?_
    refine Eq.retCell rfl rfl agg26 hB4 rfl ?_
    exact ⟨⟨_, by omega, hR, G⟩, _, ⟨_, _, rfl, hn161, ha162⟩, by first | exact (Small.of hsm0).mono (by omega) | exact Small.mono hsm0 (by omega) | exact (Small.of hv163).mono (by omega) | exact Small.mono hv163 (by omega) | exact (Small.of hv124).mono (by omega) | exact Small.mono hv124 (by omega) | exact (Small.of hv93).mono (by omega) | exact Small.mono hv93 (by omega) | exact (Small.of hv62).mono (by omega) | exact Small.mono hv62 (by omega) | exact (Small.of hv20).mono (by omega) | exact Small.mono hv20 (by omega)⟩
  refine Sq.nil ?_
  refine Eq.next ?_
  refine Cq.els rfl ?_
  refine Cq.skip ?_
  refine Eq.next ?_
  refine Cq.seq ?_
  refine Cq.region ?_
  refine Sq.loadAgg agg26 .plain rfl rfl hBr rfl ?_
  refine Sq.storeAgg agg26 .plain rfl rfl (one_cons rfl (one_cons (Rows.one hnr) (one_cons (Row.one har) one_nil))) hB4 rfl rfl (fun w175 g176 hB177 => ?_)
  have hs178 := World.grownBy.size g176
  replace G := grown_far G g176 (fun k hk => by injection hk with hk; subst hk; omega)
  replace hR := hR.grown g176 (by intro h; injection h with h; omega)
  replace hnr := hnr.stored g176 hB4 (by decide) (by decide)
  replace har := har.stored g176 hB4 (by decide)
  replace hB4 := hB177
  refine Sq.nil ?_
  refine Eq.next ?_
  refine Cq.ret ?_
  refine Eq.retCell rfl rfl agg26 hB4 rfl ?_
  exact ⟨⟨_, by omega, hR, G⟩, _, ⟨_, _, rfl, hnr, har⟩, by first | exact (Small.of hsm0).mono (by omega) | exact Small.mono hsm0 (by omega) | exact (Small.of hv163).mono (by omega) | exact Small.mono hv163 (by omega) | exact (Small.of hv124).mono (by omega) | exact Small.mono hv124 (by omega) | exact (Small.of hv93).mono (by omega) | exact Small.mono hv93 (by omega) | exact (Small.of hv62).mono (by omega) | exact Small.mono hv62 (by omega) | exact (Small.of hv20).mono (by omega) | exact Small.mono hv20 (by omega)⟩
end Go.Proofs.YtoboklelbbgcnaaDoor
set_option linter.unusedSimpArgs false
set_option linter.unusedVariables false
namespace Go.Proofs.YtoboklelbbgcnaaDoor
open Go.RowKit
set_option maxRecDepth 100000 in
theorem drawClasses_c (w0 : World) (e : TypeId) (a0 : Option Addr) (c0 : Nat) (cs : List UInt8) (hc : Bytes w0 e (.slice a0 cs.length c0) cs) (hcap : cs.length ≤ c0) : Ret Tryd.prog 6 #[Value.slice a0 cs.length c0] w0 (fun v w => (∃ a, RowsA w v a ∧ Small 400 a) ∧ Ext w0 w) := by
  have E := Ext.refl w0
  refine Ret.of (args := [Value.slice a0 cs.length c0]) Tryd.func6 rfl rfl rfl ?_
  rintro _ rfl
  show Cq _ _ _ _ [(0, Value.slice a0 cs.length c0)] _
  refine Cq.seq ?_
  refine Cq.region ?_
  refine Sq.alloc zero26 .plain rfl (fun b1 w2 e3 hB4 hlo5 => ?_)
  have hd6 := Nat.le_trans (Below.size E) hlo5
  have hs7 := Below.size e3
  replace E := E.trans e3
  refine Sq.nil ?_
  refine Eq.next ?_
  refine Cq.seq ?_
  refine Cq.region ?_
  refine Sq.move .plain rfl rfl ?_
  refine Sq.call fn13 .plain rfl rfl (open_c _ _ _ _ _ (hc.ext E) hcap) ?_
  rintro _ w8 ⟨⟨rb, bv, bs, rfl, hrb, hR, hb, hbl⟩, e9⟩
  have hrlt := hR.lt
  have hd10 := Nat.le_trans (Below.size E) hrb
  have hd11 := Nat.lt_of_lt_of_le hB4.lt hrb
  have hs12 := Below.size e9
  replace E := E.trans e9
  replace hB4 := hB4.ext e9
  have G := World.grownBy.refl w8 (some rb)
  refine Sq.call fn12 .plain rfl rfl (l5Any_c _ _ _ _ _ _ hR (hb.go G) hbl (by omega) ) ?_
  rintro _ w14 ⟨⟨p15, hp18, hB17, g16⟩, ⟨a19, ⟨nx20, ac21, rfl, hn22, ha23⟩, hv24⟩⟩
  have hs25 := World.grownBy.size g16
  have hs26 := Below.size E
  have hs27 := World.grownBy.size G
  have hs28 := World.grownBy.size g16
  replace E := E.grown g16 (fun k hk => by injection hk with hk; subst hk; omega)
  replace hB4 := hB4.grown g16 (by intro h; injection h with h; omega)
  refine Sq.storeAgg agg26 .plain rfl rfl (one_cons rfl (one_cons (Rows.one hn22) (one_cons (Row.one ha23) one_nil))) hB4 rfl rfl (fun w29 g30 hB31 => ?_)
  have hs32 := World.grownBy.size g30
  replace E := E.grown g30 (fun k hk => by injection hk with hk; subst hk; omega)
  replace hn22 := hn22.stored g30 hB4 (by decide) (by decide)
  replace ha23 := ha23.stored g30 hB4 (by decide)
  replace hB4 := hB31
  refine Sq.nil ?_
  refine Eq.next ?_
  refine Cq.ret ?_
  refine Eq.retCell rfl rfl agg26 hB4 rfl ?_
  exact ⟨⟨_, ⟨_, _, rfl, hn22, ha23⟩, by first | exact (Small.of hv24).mono (by omega) | exact Small.mono hv24 (by omega)⟩, E⟩
end Go.Proofs.YtoboklelbbgcnaaDoor
set_option linter.unusedSimpArgs false
set_option linter.unusedVariables false
namespace Go.Proofs.YtoboklelbbgcnaaDoor
instance memKeys (x : ByteArray) (l : List ByteArray) : Decidable (x ∈ l) := @List.instDecidableMemOfLawfulBEq ByteArray (@instBEqOfDecidableEq ByteArray _) _ x l
def itoa (x : Int) : ByteArray := if x < 10 then ⟨#[UInt8.ofNat (48 + x.toNat)]⟩ else ⟨#[UInt8.ofNat (48 + x.toNat / 10), UInt8.ofNat (48 + x.toNat % 10)]⟩
def digS : ByteArray := ⟨#[48, 49, 50, 51, 52, 53, 54, 55, 56, 57, 97, 98, 99, 100, 101, 102, 103, 104, 105, 106, 107, 108, 109, 110, 111, 112, 113, 114, 115, 116, 117, 118, 119, 120, 121, 122]⟩
def smallS : ByteArray := ⟨#[48, 48, 48, 49, 48, 50, 48, 51, 48, 52, 48, 53, 48, 54, 48, 55, 48, 56, 48, 57, 49, 48, 49, 49, 49, 50, 49, 51, 49, 52, 49, 53, 49, 54, 49, 55, 49, 56, 49, 57, 50, 48, 50, 49, 50, 50, 50, 51, 50, 52, 50, 53, 50, 54, 50, 55, 50, 56, 50, 57, 51, 48, 51, 49, 51, 50, 51, 51, 51, 52, 51, 53, 51, 54, 51, 55, 51, 56, 51, 57, 52, 48, 52, 49, 52, 50, 52, 51, 52, 52, 52, 53, 52, 54, 52, 55, 52, 56, 52, 57, 53, 48, 53, 49, 53, 50, 53, 51, 53, 52, 53, 53, 53, 54, 53, 55, 53, 56, 53, 57, 54, 48, 54, 49, 54, 50, 54, 51, 54, 52, 54, 53, 54, 54, 54, 55, 54, 56, 54, 57, 55, 48, 55, 49, 55, 50, 55, 51, 55, 52, 55, 53, 55, 54, 55, 55, 55, 56, 55, 57, 56, 48, 56, 49, 56, 50, 56, 51, 56, 52, 56, 53, 56, 54, 56, 55, 56, 56, 56, 57, 57, 48, 57, 49, 57, 50, 57, 51, 57, 52, 57, 53, 57, 54, 57, 55, 57, 56, 57, 57]⟩
theorem dig_cut : ∀ x : Fin 10, (digS.extract x.val (x.val + 1)).data.toList = (itoa (x.val : Int)).data.toList := by decide +kernel
theorem small_cut : ∀ x : Fin 100, 10 ≤ x.val → (smallS.extract (x.val * 2) (x.val * 2 + 2)).data.toList = (itoa (x.val : Int)).data.toList := by decide +kernel
theorem bytes_ext {s t : ByteArray} (h : s.data.toList = t.data.toList) : s = t := ByteArray.ext (Array.toList_inj.1 h)
theorem dig_lt {x : Int} (h0 : 0 ≤ x) (h : x < 10) : digS.extract x.toNat (x + 1).toNat = itoa x := by
  have := dig_cut ⟨x.toNat, by omega⟩
  simp only at this
  rw [show (x + 1).toNat = x.toNat + 1 by omega]
  rw [Int.toNat_of_nonneg h0] at this
  exact bytes_ext this
theorem small_lt {x : Int} (h0 : ¬ x < 10) (h : x < 100) : smallS.extract (x * 2).toNat (x * 2 + 2).toNat = itoa x := by
  have := small_cut ⟨x.toNat, by omega⟩ (by show 10 ≤ x.toNat; omega)
  simp only at this
  rw [show (x * 2 + 2).toNat = x.toNat * 2 + 2 by omega, show (x * 2).toNat = x.toNat * 2 by omega]
  rw [Int.toNat_of_nonneg (by omega)] at this
  exact bytes_ext this
def itL (x : Int) : List UInt8 := (itoa x).data.toList
theorem itL_eq (x : Int) : itL x = if x < 10 then [UInt8.ofNat (48 + x.toNat)] else [UInt8.ofNat (48 + x.toNat / 10), UInt8.ofNat (48 + x.toNat % 10)] := by
  unfold itL itoa
  split <;> rfl
theorem u8_ofNat_inj {m n : Nat} (hm : m < 256) (hn : n < 256) (h : UInt8.ofNat m = UInt8.ofNat n) : m = n := by
  have := congrArg UInt8.toNat h
  simp only [UInt8.toNat_ofNat'] at this
  omega
theorem itL_inj {x y : Int} (hx : 0 ≤ x ∧ x < 100) (hy : 0 ≤ y ∧ y < 100) (h : itL x = itL y) : x = y := by
  rw [itL_eq, itL_eq] at h
  by_cases h1 : x < 10 <;> by_cases h2 : y < 10
  · rw [if_pos h1, if_pos h2] at h
    have := u8_ofNat_inj (by omega) (by omega) (List.cons.inj h).1
    omega
  · rw [if_pos h1, if_neg h2] at h; simp at h
  · rw [if_neg h1, if_pos h2] at h; simp at h
  · rw [if_neg h1, if_neg h2] at h
    have e1 := u8_ofNat_inj (by omega) (by omega) (List.cons.inj h).1
    have e2 := u8_ofNat_inj (by omega) (by omega) (List.cons.inj (List.cons.inj h).2).1
    omega
theorem itL_comma {x : Int} (hx : 0 ≤ x ∧ x < 100) : (44 : UInt8) ∉ itL x := by
  rw [itL_eq]
  intro hc
  have one : ∀ n : Nat, n < 10 → (44 : UInt8) ≠ UInt8.ofNat (48 + n) := fun n hn hc => by
    have := u8_ofNat_inj (m := 44) (n := 48 + n) (by omega) (by omega) hc
    omega
  split at hc
  · rw [List.mem_singleton] at hc; exact one _ (by omega) hc
  · rcases List.mem_cons.1 hc with hc | hc
    · exact one _ (by omega) hc
    · rw [List.mem_singleton] at hc; exact one _ (by omega) hc
theorem itoa_size (x : Int) : (itoa x).size ≤ 2 := by
  unfold itoa
  split
  · exact (show 1 ≤ 2 by decide)
  · exact (show 2 ≤ 2 by decide)
def keyTx : List Int → ByteArray
  | [] => ⟨#[]⟩
  | x :: l => l.foldl (fun s y => s ++ ((⟨#[44]⟩ : ByteArray) ++ itoa y)) (itoa x)
theorem keyTx_snoc (x : Int) (l : List Int) (y : Int) : keyTx ((x :: l) ++ [y]) = keyTx (x :: l) ++ ((⟨#[44]⟩ : ByteArray) ++ itoa y) := by
  show List.foldl _ _ (l ++ [y]) = _
  rw [List.foldl_append]; rfl
theorem keyTx_size : ∀ (n : Nat) (l : List Int), l.length = n → (keyTx l).size ≤ 3 * n
  | 0, l, h => by rw [List.eq_nil_of_length_eq_zero h]; exact Nat.le_refl _
  | n + 1, l, h => by
    rcases List.eq_nil_or_concat l with rfl | ⟨l', y, rfl⟩
    · simp at h
    · rw [List.concat_eq_append] at h ⊢
      cases l' with
      | nil => have := itoa_size y; show (itoa y).size ≤ _; omega
      | cons x l' =>
        rw [keyTx_snoc]
        have := keyTx_size n (x :: l') (by simpa using h)
        have := itoa_size y
        simp only [ByteArray.size_append]
        have : (⟨#[44]⟩ : ByteArray).size = 1 := rfl
        omega
theorem split_last {A B u v : List UInt8} (hu : (44 : UInt8) ∉ u) (hv : (44 : UInt8) ∉ v) (h : A ++ 44 :: u = B ++ 44 :: v) : A = B ∧ u = v := by
  rcases List.append_eq_append_iff.1 h with ⟨c, h1, h2⟩ | ⟨c, h1, h2⟩
  · cases c with
    | nil => simp at h1 h2; exact ⟨h1.symm, h2⟩
    | cons z c =>
      rw [List.cons_append, List.cons.injEq] at h2
      exact absurd (by rw [h2.2]; simp) hu
  · cases c with
    | nil => simp at h1 h2; exact ⟨h1, h2.symm⟩
    | cons z c =>
      rw [List.cons_append, List.cons.injEq] at h2
      exact absurd (by rw [h2.2]; simp) hv
theorem keyTx_inj : ∀ (n : Nat) (l m : List Int), l.length = n → m.length = n → (∀ x ∈ l, 0 ≤ x ∧ x < 100) → (∀ x ∈ m, 0 ≤ x ∧ x < 100) → keyTx l = keyTx m → l = m
  | 0, l, m, hl, hm, _, _, _ => by rw [List.eq_nil_of_length_eq_zero hl, List.eq_nil_of_length_eq_zero hm]
  | n + 1, l, m, hl, hm, bl, bm, h => by
    rcases List.eq_nil_or_concat l with rfl | ⟨l', y, rfl⟩
    · simp at hl
    · rcases List.eq_nil_or_concat m with rfl | ⟨m', z, rfl⟩
      · simp at hm
      · simp only [List.concat_eq_append] at hl hm bl bm h ⊢
        have hy := bl y (by simp)
        have hz := bm z (by simp)
        cases l' with
        | nil =>
          have : n = 0 := by simpa using hl.symm
          subst this
          have : m' = [] := by cases m' with | nil => rfl | cons a b => simp at hm
          subst this
          have : itL y = itL z := by show (keyTx [y]).data.toList = (keyTx [z]).data.toList; rw [show [y] = [] ++ [y] from rfl, h]; rfl
          rw [itL_inj hy hz this]
        | cons x l' =>
          cases m' with
          | nil => simp at hl hm; omega
          | cons x' m' =>
            rw [keyTx_snoc, keyTx_snoc] at h
            have h2 := congrArg (fun s : ByteArray => s.data.toList) h
            simp only [ByteArray.data_append, Array.toList_append] at h2
            have h3 := split_last (itL_comma hy) (itL_comma hz) (A := (keyTx (x :: l')).data.toList) (B := (keyTx (x' :: m')).data.toList) h2
            have ih := keyTx_inj n (x :: l') (x' :: m') (by simpa using hl) (by simpa using hm) (fun w hw => bl w (List.mem_append_left _ hw)) (fun w hw => bm w (List.mem_append_left _ hw)) (bytes_ext h3.1)
            rw [ih, itL_inj hy hz h3.2]
section
variable {a : A}
theorem clsN_bd (hv : validA a = true) : ∀ (r q : Nat), 0 ≤ (clsN a r).getD q 0 ∧ (clsN a r).getD q 0 ≤ 12
  | 0, q => by
    rw [clsN, cls0, List.getD_eq_getElem?_getD, List.getElem?_map]
    cases a.acc[q]? with
    | none => simp
    | some b => cases b <;> simp
  | r + 1, q => by
    rcases Nat.lt_or_ge q a.next.length with h | h
    · rw [clsN_at h]
      have h1 := idxG_lt (mem_dd.2 (keyQ_mem (a := a) (cs := clsN a r) h))
      have h2 := dd_le (keys a (clsN a r))
      rw [keys_length] at h2
      have h3 := (validA_spec.1 hv).2.1
      omega
    · rw [List.getD_eq_getElem?_getD, List.getElem?_eq_none (by rw [clsN_length hv]; exact h)]; simp
theorem keyQ_bd (hv : validA a = true) (r q : Nat) : ∀ x ∈ keyQ a (clsN a r) q, 0 ≤ x ∧ x < 100 := fun x hx => by
  rcases List.mem_cons.1 hx with rfl | hx
  · have := clsN_bd hv r q; omega
  · obtain ⟨t, _, rfl⟩ := List.mem_map.1 hx
    have := clsN_bd hv r t.toNat; omega
theorem keyQ_len (hv : validA a = true) (cs : List Int) {q : Nat} (h : q < a.next.length) : (keyQ a cs q).length = (letters a.al).length + 1 := by
  have := valid_row hv h
  unfold keyQ
  rw [List.length_cons, List.length_map, this]
theorem keyTx_keys (hv : validA a = true) (r : Nat) : ∀ x ∈ keys a (clsN a r), ∀ y ∈ keys a (clsN a r), keyTx x = keyTx y → x = y := fun x hx y hy e => by
  obtain ⟨i, hi, rfl⟩ := List.mem_map.1 hx
  obtain ⟨j, hj, rfl⟩ := List.mem_map.1 hy
  exact keyTx_inj _ _ _ (keyQ_len hv _ (List.mem_range.1 hi)) (keyQ_len hv _ (List.mem_range.1 hj)) (keyQ_bd hv r i) (keyQ_bd hv r j) e
def keyTo (a : A) (cs : List Int) (q j : Nat) : ByteArray := keyTx ((keyQ a cs q).take (j + 1))
theorem keyTo_succ {cs : List Int} {q j : Nat} (h : j < (a.next.getD q []).length) : keyTo a cs q (j + 1) = keyTo a cs q j ++ ((⟨#[44]⟩ : ByteArray) ++ itoa (cs.getD ((a.next.getD q []).getD j 0).toNat 0)) := by
  unfold keyTo keyQ
  rw [List.take_succ_cons, List.take_succ_cons, take_snoc (d := 0) (by rw [List.length_map]; exact h), ← List.cons_append, keyTx_snoc]
  congr 3
  rw [List.getD_eq_getElem?_getD, List.getElem?_map, at_getD (d := 0) h]; rfl
theorem keyTo_done {cs : List Int} {q j : Nat} (h : (a.next.getD q []).length ≤ j) : keyTo a cs q j = keyTx (keyQ a cs q) := by
  unfold keyTo
  rw [List.take_of_length_le (by unfold keyQ; rw [List.length_cons, List.length_map]; omega)]
theorem keyTo_size (hv : validA a = true) {cs : List Int} {q : Nat} (hq : q < a.next.length) (j : Nat) : (keyTo a cs q j).size ≤ 21 := by
  have h := keyTx_size _ ((keyQ a cs q).take (j + 1)) rfl
  have h2 := keyQ_len hv cs hq
  have h3 := letters_len6 a.al
  rw [List.length_take] at h
  unfold keyTo
  omega
def nextTo (a : A) (cs : List Int) (q : Nat) : List Int := (List.range a.next.length).map fun (i : Nat) => if i < q then (idxG (dd (keys a cs)) (keyQ a cs i) : Int) else 0
def keysTo (a : A) (cs : List Int) (q : Nat) : List ByteArray := (dd ((keys a cs).take q)).map keyTx
theorem nextTo_zero (cs : List Int) : nextTo a cs 0 = List.replicate a.next.length 0 := by
  unfold nextTo
  apply List.ext_getElem?
  intro i
  rw [List.getElem?_map, List.getElem?_replicate]
  by_cases h : i < a.next.length
  · rw [List.getElem?_range h]; simp [h]
  · rw [List.getElem?_eq_none (by simpa using h)]; simp [h]
theorem nextTo_length (cs : List Int) (q : Nat) : (nextTo a cs q).length = a.next.length := by simp [nextTo]
theorem nextTo_set {cs : List Int} {q : Nat} {x : Int} (h : q < a.next.length) (hx : x = (idxG (dd (keys a cs)) (keyQ a cs q) : Int)) : (nextTo a cs q).set q x = nextTo a cs (q + 1) := by
  apply List.ext_getElem?
  intro i
  unfold nextTo
  rw [List.getElem?_set]
  rcases Nat.lt_or_ge i a.next.length with hi | hi
  · by_cases e : q = i
    · subst e
      rw [if_pos rfl, if_pos (by simpa using h), List.getElem?_map, List.getElem?_range hi, hx]
      simp
    · rw [if_neg e, List.getElem?_map, List.getElem?_map, List.getElem?_range hi]
      simp only [Option.map_some]
      by_cases h1 : i < q
      · rw [if_pos h1, if_pos (by omega)]
      · rw [if_neg h1, if_neg (by omega)]
  · rw [if_neg (by omega), List.getElem?_eq_none (by simpa using hi), List.getElem?_eq_none (by simpa using hi)]
theorem nextTo_all {cs : List Int} {q : Nat} (h : a.next.length ≤ q) : nextTo a cs q = refine' a cs := by
  unfold nextTo refine' canon keys
  rw [List.map_map]
  refine List.map_congr_left fun i hi => ?_
  rw [if_pos (by have := List.mem_range.1 hi; omega)]; rfl
theorem keys_get {cs : List Int} {q : Nat} (h : q < a.next.length) : (keys a cs)[q]'(by rw [keys_length]; exact h) = keyQ a cs q := by
  have := keys_at (cs := cs) h
  rw [List.getElem?_eq_getElem (by rw [keys_length]; exact h)] at this
  exact Option.some.inj this
theorem keysTo_mem (hv : validA a = true) {r q : Nat} (h : q < a.next.length) : keyTx (keyQ a (clsN a r) q) ∈ keysTo a (clsN a r) q ↔ keyQ a (clsN a r) q ∈ dd ((keys a (clsN a r)).take q) := by
  unfold keysTo
  rw [List.mem_map]
  constructor
  · rintro ⟨x, hx, e⟩
    have hx' : x ∈ keys a (clsN a r) := List.mem_of_mem_take (mem_dd.1 hx)
    rw [← keyTx_keys hv r x hx' _ (keyQ_mem h) e]
    exact hx
  · exact fun hx => ⟨_, hx, rfl⟩
theorem next_in (hv : validA a = true) {r q : Nat} (h : q < a.next.length) (hin : keyTx (keyQ a (clsN a r) q) ∈ keysTo a (clsN a r) q) : ((idxG (keysTo a (clsN a r) q) (keyTx (keyQ a (clsN a r) q)) : Nat) : Int) = (idxG (dd (keys a (clsN a r))) (keyQ a (clsN a r) q) : Int) ∧ keysTo a (clsN a r) (q + 1) = keysTo a (clsN a r) q := by
  have hm := (keysTo_mem hv h).1 hin
  have hk : q < (keys a (clsN a r)).length := by rw [keys_length]; exact h
  refine ⟨?_, ?_⟩
  · rw [idx_old hm]
    unfold keysTo idxG
    rw [idx_map (P := (· ∈ keys a (clsN a r))) (fun x y hx hy => keyTx_keys hv r x hx y hy) (fun x hx => List.mem_of_mem_take (mem_dd.1 hx)) (keyQ_mem h)]
  · unfold keysTo
    rw [dd_step hk, keys_get h, addNode_T hm]
theorem next_out (hv : validA a = true) {r q : Nat} (h : q < a.next.length) (hin : keyTx (keyQ a (clsN a r) q) ∉ keysTo a (clsN a r) q) : (((keysTo a (clsN a r) q).length : Nat) : Int) = (idxG (dd (keys a (clsN a r))) (keyQ a (clsN a r) q) : Int) ∧ keysTo a (clsN a r) (q + 1) = keysTo a (clsN a r) q ++ [keyTx (keyQ a (clsN a r) q)] := by
  have hm : keyQ a (clsN a r) q ∉ dd ((keys a (clsN a r)).take q) := fun hc => hin ((keysTo_mem hv h).2 hc)
  have hk : q < (keys a (clsN a r)).length := by rw [keys_length]; exact h
  have hf := idx_fresh hk (by rw [keys_get h]; exact hm)
  rw [keys_get h] at hf
  refine ⟨?_, ?_⟩
  · rw [hf]; unfold keysTo; rw [List.length_map]
  · unfold keysTo
    rw [dd_step hk, keys_get h, addNode_F hm, List.map_append]; rfl
theorem keysTo_all {r q : Nat} (h : a.next.length ≤ q) : ((keysTo a (clsN a r) q).length : Nat) = mN a (r + 1) := by
  unfold keysTo
  rw [List.length_map, List.take_of_length_le (by rw [keys_length]; exact h)]; rfl
def initTo (a : A) (k : Nat) : List Int := (List.range a.next.length).map fun (i : Nat) => if i < k ∧ a.acc.getD i false = true then 1 else 0
theorem initTo_zero : initTo a 0 = List.replicate a.next.length 0 := by
  unfold initTo
  apply List.ext_getElem?
  intro i
  rw [List.getElem?_map, List.getElem?_replicate]
  by_cases h : i < a.next.length
  · rw [List.getElem?_range h]; simp [h]
  · rw [List.getElem?_eq_none (by simpa using h)]; simp [h]
theorem initTo_length (k : Nat) : (initTo a k).length = a.next.length := by simp [initTo]
theorem initTo_T {k : Nat} (h : k < a.next.length) (hac : a.acc.getD k false = true) : (initTo a k).set k 1 = initTo a (k + 1) := by
  apply List.ext_getElem?
  intro i
  unfold initTo
  rw [List.getElem?_set]
  rcases Nat.lt_or_ge i a.next.length with hi | hi
  · by_cases e : k = i
    · subst e
      rw [if_pos rfl, if_pos (by simpa using h), List.getElem?_map, List.getElem?_range hi]
      simp only [Option.map_some]
      rw [if_pos ⟨by omega, hac⟩]
    · rw [if_neg e, List.getElem?_map, List.getElem?_map, List.getElem?_range hi]
      simp only [Option.map_some]
      have : (i < k ∧ a.acc.getD i false = true) ↔ (i < k + 1 ∧ a.acc.getD i false = true) := ⟨fun h => ⟨by omega, h.2⟩, fun h => ⟨by omega, h.2⟩⟩
      simp only [this]
  · rw [if_neg (by omega), List.getElem?_eq_none (by simpa using hi), List.getElem?_eq_none (by simpa using hi)]
theorem initTo_F {k : Nat} (hac : a.acc.getD k false = false) : initTo a (k + 1) = initTo a k := by
  unfold initTo
  refine List.map_congr_left fun i _ => ?_
  have : (i < k + 1 ∧ a.acc.getD i false = true) ↔ (i < k ∧ a.acc.getD i false = true) := ⟨fun h => ⟨by
    rcases Nat.lt_or_ge i k with h1 | h1
    · exact h1
    · rw [show i = k by omega, hac] at h; exact absurd h.2 (by decide), h.2⟩, fun h => ⟨by omega, h.2⟩⟩
  simp only [this]
theorem initTo_all (hv : validA a = true) {k : Nat} (h : a.next.length ≤ k) : initTo a k = clsN a 0 := by
  have hl := (validA_spec.1 hv).2.2.1
  unfold initTo
  rw [clsN, cls0]
  apply List.ext_getElem?
  intro i
  rw [List.getElem?_map, List.getElem?_map]
  rcases Nat.lt_or_ge i a.next.length with hi | hi
  · rw [List.getElem?_range hi, at_getD (d := false) (by omega : i < a.acc.length)]
    simp only [Option.map_some]
    cases hb : a.acc.getD i false with
    | true => rw [if_pos ⟨by omega, rfl⟩]; rfl
    | false => rw [if_neg (by simp)]; rfl
  · rw [List.getElem?_eq_none (by simpa using hi), List.getElem?_eq_none (by omega)]; rfl
theorem getD_take {α : Type} {l : List α} {d : α} {k j : Nat} (h : j < k) : (l.take k).getD j d = l.getD j d := by
  rw [List.getD_eq_getElem?_getD, List.getD_eq_getElem?_getD, List.getElem?_take, if_pos h]
theorem keyQ_iff (hv : validA a = true) {cs : List Int} {i j : Nat} (hi : i < a.next.length) (hj : j < a.next.length) : keyQ a cs i = keyQ a cs j ↔ cs.getD i 0 = cs.getD j 0 ∧ ∀ m, m < (a.next.getD i []).length → cs.getD ((a.next.getD i []).getD m 0).toNat 0 = cs.getD ((a.next.getD j []).getD m 0).toNat 0 := by
  have h1 := valid_row hv hi
  have h2 := valid_row hv hj
  unfold keyQ
  rw [List.cons.injEq]
  refine and_congr_right fun _ => ⟨fun h m hm => ?_, fun h => ?_⟩
  · have := congrArg (fun l : List Int => l[m]?) h
    simp only [List.getElem?_map] at this
    rw [at_getD (d := 0) hm, at_getD (d := 0) (by omega)] at this
    exact Option.some.inj this
  · apply List.ext_getElem?
    intro m
    rw [List.getElem?_map, List.getElem?_map]
    rcases Nat.lt_or_ge m (a.next.getD i []).length with hm | hm
    · rw [at_getD (d := 0) hm, at_getD (d := 0) (by omega)]
      simp only [Option.map_some, h m hm]
    · rw [List.getElem?_eq_none hm, List.getElem?_eq_none (by omega)]
theorem ref_at {cs : List Int} {j : Nat} (h : j < a.next.length) : (refine' a cs).getD j 0 = (idxG (dd (keys a cs)) (keyQ a cs j) : Int) := by
  rw [refine', canon, List.getD_eq_getElem?_getD, List.getElem?_map, keys_at h]; rfl
theorem ref_length (cs : List Int) : (refine' a cs).length = a.next.length := by rw [refine', canon_length, keys_length]
def cntK (a : A) (cs : List Int) (i : Nat) : Nat := (dd ((keys a cs).take i)).length
theorem cntK_le (cs : List Int) (i : Nat) : cntK a cs i ≤ i := by
  have := dd_le ((keys a cs).take i)
  rw [List.length_take] at this
  unfold cntK
  omega
theorem cntK_all (cs : List Int) {i : Nat} (h : a.next.length ≤ i) : cntK a cs i = (dd (keys a cs)).length := by
  unfold cntK
  rw [List.take_of_length_le (by rw [keys_length]; exact h)]
theorem mem_before {cs : List Int} {i : Nat} (h : i < a.next.length) : keyQ a cs i ∈ dd ((keys a cs).take i) ↔ ∃ m, m < i ∧ keyQ a cs m = keyQ a cs i := by
  rw [mem_dd, List.mem_iff_getElem]
  constructor
  · rintro ⟨m, hm, e⟩
    rw [List.length_take] at hm
    refine ⟨m, by omega, ?_⟩
    rw [List.getElem_take, keys_get (by omega)] at e
    exact e
  · rintro ⟨m, hm, e⟩
    refine ⟨m, by rw [List.length_take, keys_length]; omega, ?_⟩
    rw [List.getElem_take, keys_get (by omega), e]
theorem ref_old {cs : List Int} {i m : Nat} (h : i < a.next.length) (hm : m < i) (e : keyQ a cs i = keyQ a cs m) : (refine' a cs).getD m 0 = (refine' a cs).getD i 0 ∧ cntK a cs (i + 1) = cntK a cs i := by
  refine ⟨by rw [ref_at h, ref_at (by omega), e], ?_⟩
  unfold cntK
  rw [dd_step (by rw [keys_length]; exact h), keys_get h, addNode_T ((mem_before h).2 ⟨m, hm, e.symm⟩)]
theorem ref_new {cs : List Int} {i : Nat} (h : i < a.next.length) (e : ∀ m, m < i → keyQ a cs i ≠ keyQ a cs m) : (refine' a cs).getD i 0 = (cntK a cs i : Int) ∧ cntK a cs (i + 1) = cntK a cs i + 1 := by
  have hn : keyQ a cs i ∉ dd ((keys a cs).take i) := fun hc => by
    obtain ⟨m, hm, hq⟩ := (mem_before h).1 hc
    exact e m hm hq.symm
  have hk : i < (keys a cs).length := by rw [keys_length]; exact h
  have hf := idx_fresh hk (by rw [keys_get h]; exact hn)
  rw [keys_get h] at hf
  refine ⟨by rw [ref_at h, hf]; rfl, ?_⟩
  unfold cntK
  rw [dd_step hk, keys_get h, addNode_F hn, List.length_append]; rfl
theorem cls0_at {k : Nat} (h : k < a.acc.length) : (cls0 a).getD k 0 = if a.acc.getD k false = true then 1 else 0 := by
  rw [cls0, List.getD_eq_getElem?_getD, List.getElem?_map, at_getD (d := false) h]
  cases a.acc.getD k false <;> rfl
theorem cls0_length : (cls0 a).length = a.acc.length := by rw [cls0, List.length_map]
def clsA (a : A) : List Int := if validA a = true then classes a else []
theorem clsA_yes (hv : validA a = true) : clsA a = classes a := if_pos hv
theorem clsA_no (hv : validA a = false) : clsA a = [] := if_neg (by rw [hv]; decide)
theorem clsA_small : (clsA a).length ≤ 12 := by
  unfold clsA
  split
  · rename_i hv
    rw [classes_length hv]
    exact (validA_spec.1 hv).2.1.2
  · exact Nat.zero_le _
theorem clsA_ok {k : Nat} (h : k < (clsA a).length) : validA a = true := by
  unfold clsA at h
  split at h
  · assumption
  · exact absurd h (Nat.not_lt_zero _)
theorem clsA_length (hv : validA a = true) : (clsA a).length = a.next.length := by rw [clsA_yes hv, classes_length hv]
theorem clsA_split {i j : Int} (hv : validA a = true) (hi : 0 ≤ i ∧ i < a.next.length) (hj : 0 ≤ j ∧ j < a.next.length) : ((fSplit a i j).isSome == decide ((clsA a).getD i.toNat 0 = (clsA a).getD j.toNat 0)) = false := by
  rw [clsA_yes hv, classes_split hv hi hj]
  cases decide ((classes a).getD i.toNat 0 = (classes a).getD j.toNat 0) <;> rfl
theorem clsA_row {i j k : Int} (hv : validA a = true) (hi : 0 ≤ i ∧ i < a.next.length) (hj : 0 ≤ j ∧ j < a.next.length) (hk : k.toNat < (a.next.getD i.toNat []).length) (h : (clsA a).getD i.toNat 0 = (clsA a).getD j.toNat 0) : (clsA a).getD ((a.next.getD i.toNat []).getD k.toNat 0).toNat 0 = (clsA a).getD ((a.next.getD j.toNat []).getD k.toNat 0).toNat 0 := by
  rw [clsA_yes hv] at h ⊢
  exact classes_row hv hi hj (by rw [← valid_row hv (k := i.toNat) (by omega)]; exact hk) h
theorem clsA_acc {i j : Int} (hv : validA a = true) (hi : 0 ≤ i ∧ i < a.next.length) (hj : 0 ≤ j ∧ j < a.next.length) (h : (clsA a).getD i.toNat 0 = (clsA a).getD j.toNat 0) : a.acc.getD i.toNat false = a.acc.getD j.toNat false := by
  rw [clsA_yes hv] at h
  exact classes_acc hv hi hj h
theorem clsA_order (hv : validA a = true) {k : Nat} (h : k < a.next.length) : 0 ≤ (clsA a).getD k 0 ∧ (clsA a).getD k 0 ≤ newTo a k ∧ newTo a (k + 1) = if (clsA a).getD k 0 = newTo a k then newTo a k + 1 else newTo a k := by
  rw [clsA_yes hv]
  exact classes_order hv h
end
end Go.Proofs.YtoboklelbbgcnaaDoor
set_option linter.unusedSimpArgs false
set_option linter.unusedVariables false
namespace Go.Proofs.YtoboklelbbgcnaaDoor
open Go.RowKit
set_option maxRecDepth 100000 in
theorem small_c (x : Int) (h : 0 ≤ x ∧ x < 100) (w0 : World) : Ret Tryd.prog 59 #[Value.int .i64 x] w0 (fun v w => v = .string (itoa x) ∧ w0 = w) := by
  refine Ret.of (args := [Value.int .i64 x]) Tryd.func59 rfl rfl rfl ?_
  rintro _ rfl
  show Cq _ _ _ _ [(0, Value.int .i64 x)] _
  refine Cq.seq ?_
  refine Cq.region ?_
  refine Sq.assign .plain rfl rfl ?_
  refine Sq.nil ?_
  refine Eq.next ?_
  refine Cq.seq ?_
  refine Cq.seq ?_
  refine Cq.region ?_
  refine Sq.move .plain rfl rfl ?_
  refine Sq.lss .plain rfl rfl rfl ?_
  refine Sq.part (fun h1 => ?_) (fun h1 => ?_)
  · refine Sq.nil ?_
    refine Eq.next ?_
    refine Cq.thn rfl ?_
    refine Cq.seq ?_
    refine Cq.region ?_
    refine Sq.move .plain rfl rfl ?_
    refine Sq.move .plain rfl rfl ?_
    refine Sq.add .plain rfl rfl rfl (by omega) ?_
    refine Sq.val .plain rfl rfl (Still.cutLH und9 rfl rfl rfl (by exact (show 0 ≤ x ∧ x ≤ (x + 1) ∧ (x + 1) ≤ ((36 : Nat) : Int) by omega))) ?_
    refine Sq.assign .plain rfl rfl ?_
    refine Sq.nil ?_
    refine Eq.next ?_
    refine Cq.ret ?_
    refine Eq.pastRet ?_
    refine Eq.ret1 rfl rfl ?_
    exact ⟨congrArg Value.string (dig_lt h.1 h1), rfl⟩
  refine Sq.nil ?_
  refine Eq.next ?_
  refine Cq.els rfl ?_
  refine Cq.skip ?_
  refine Eq.next ?_
  refine Cq.seq ?_
  refine Cq.region ?_
  refine Sq.move .plain rfl rfl ?_
  refine Sq.mul .plain rfl rfl rfl (by omega) ?_
  refine Sq.move .plain rfl rfl ?_
  refine Sq.mul .plain rfl rfl rfl (by omega) ?_
  refine Sq.add .plain rfl rfl rfl (by omega) ?_
  refine Sq.val .plain rfl rfl (Still.cutLH und9 rfl rfl rfl (by exact (show 0 ≤ (x * 2) ∧ (x * 2) ≤ (x * 2 + 2) ∧ (x * 2 + 2) ≤ ((200 : Nat) : Int) by omega))) ?_
  refine Sq.assign .plain rfl rfl ?_
  refine Sq.nil ?_
  refine Eq.next ?_
  refine Cq.ret ?_
  refine Eq.ret1 rfl rfl ?_
  exact ⟨congrArg Value.string (small_lt h1 h.2), rfl⟩
set_option maxRecDepth 100000 in
theorem fmtInt_c (x : Int) (h : 0 ≤ x ∧ x < 100) (w0 : World) : Ret Tryd.prog 53 #[Value.int .i64 x, Value.int .i64 10] w0 (fun v w => v = .string (itoa x) ∧ w0 = w) := by
  refine Ret.of (args := [Value.int .i64 x, Value.int .i64 10]) Tryd.func53 rfl rfl rfl ?_
  rintro _ rfl
  show Cq _ _ _ _ [(0, Value.int .i64 x), (1, Value.int .i64 10)] _
  refine Cq.seq ?_
  refine Cq.region ?_
  refine Sq.assign .plain rfl rfl ?_
  refine Sq.nil ?_
  refine Eq.next ?_
  refine Cq.seq ?_
  refine Cq.seq ?_
  refine Cq.region ?_
  refine Sq.move .plain rfl rfl ?_
  refine Sq.eql .plain rfl rfl rfl ?_
  refine Sq.isT (rfl) ?_
  refine Sq.nil ?_
  refine Eq.next ?_
  refine Cq.thn rfl ?_
  refine Cq.seq ?_
  refine Cq.seq ?_
  refine Cq.region ?_
  refine Sq.move .plain rfl rfl ?_
  refine Sq.leq .plain rfl rfl rfl ?_
  refine Sq.isT (by omega) ?_
  refine Sq.move .plain rfl rfl ?_
  refine Sq.move (.met rfl rfl rfl) rfl rfl ?_
  refine Sq.lss (.met rfl rfl rfl) rfl rfl rfl ?_
  refine Sq.isT (by omega) ?_
  refine Sq.pickT .plain rfl rfl rfl ?_
  refine Sq.nil ?_
  refine Eq.next ?_
  refine Cq.thn rfl ?_
  refine Cq.seq ?_
  refine Cq.region ?_
  refine Sq.move .plain rfl rfl ?_
  refine Sq.call fn59 .plain rfl rfl (small_c x (by omega) _) ?_
  rintro _ _ ⟨rfl, rfl⟩
  refine Sq.assign .plain rfl rfl ?_
  refine Sq.nil ?_
  refine Eq.next ?_
  refine Cq.ret ?_
  refine Eq.pastRet ?_
  refine Eq.pastRet ?_
  refine Eq.ret1 rfl rfl ?_
  exact ⟨rfl, rfl⟩
set_option maxRecDepth 100000 in
theorem itoaI_c (x : Int) (h : 0 ≤ x ∧ x < 100) (w0 : World) : Ret Tryd.prog 42 #[Value.int .i64 x] w0 (fun v w => v = .string (itoa x) ∧ w0 = w) := by
  refine Ret.of (args := [Value.int .i64 x]) Tryd.func42 rfl rfl rfl ?_
  rintro _ rfl
  show Cq _ _ _ _ [(0, Value.int .i64 x)] _
  refine Cq.seq ?_
  refine Cq.region ?_
  refine Sq.assign .plain rfl rfl ?_
  refine Sq.nil ?_
  refine Eq.next ?_
  refine Cq.seq ?_
  refine Cq.region ?_
  refine Sq.move .plain rfl rfl ?_
  refine Sq.call fn53 .plain rfl rfl (fmtInt_c x (by omega) _) ?_
  rintro _ _ ⟨rfl, rfl⟩
  refine Sq.assign .plain rfl rfl ?_
  refine Sq.nil ?_
  refine Eq.next ?_
  refine Cq.ret ?_
  refine Eq.ret1 rfl rfl ?_
  exact ⟨rfl, rfl⟩
set_option maxRecDepth 100000 in
theorem itoa_c (x : Int) (h : 0 ≤ x ∧ x < 100) (w0 : World) : Ret Tryd.prog 26 #[Value.int .i64 x] w0 (fun v w => v = .string (itoa x) ∧ w0 = w) := by
  refine Ret.of (args := [Value.int .i64 x]) Tryd.func26 rfl rfl rfl ?_
  rintro _ rfl
  show Cq _ _ _ _ [(0, Value.int .i64 x)] _
  refine Cq.seq ?_
  refine Cq.region ?_
  refine Sq.assign .plain rfl rfl ?_
  refine Sq.nil ?_
  refine Eq.next ?_
  refine Cq.seq ?_
  refine Cq.region ?_
  refine Sq.move .plain rfl rfl ?_
  refine Sq.call fn42 .plain rfl rfl (itoaI_c x (by omega) _) ?_
  rintro _ _ ⟨rfl, rfl⟩
  refine Sq.assign .plain rfl rfl ?_
  refine Sq.nil ?_
  refine Eq.next ?_
  refine Cq.ret ?_
  refine Eq.ret1 rfl rfl ?_
  exact ⟨rfl, rfl⟩
end Go.Proofs.YtoboklelbbgcnaaDoor
set_option linter.unusedSimpArgs false
set_option linter.unusedVariables false
namespace Go.Proofs.YtoboklelbbgcnaaDoor
open Go.RowKit
set_option maxRecDepth 100000 in
theorem classesOf_c (w0 : World) (a : A) (nx ac : Value) (hnx : Rows w0 28 3 nx a.next) (hac : Bools w0 4 ac a.acc) (hv : validA a = true) : Ret Tryd.prog 14 #[Value.agg #[Value.int .i64 a.al, nx, ac]] w0 (fun v w => Own w w0.heap.size 3 v ((classes a).map (Value.int .i64)) ∧ Ext w0 w) := by
  have E := Ext.refl w0
  have hvs := validA_spec.1 hv
  have hv1 := hvs.2.1
  have hv2 := hvs.2.2.1
  refine Ret.of (args := [Value.agg #[Value.int .i64 a.al, nx, ac]]) Tryd.func14 rfl rfl rfl ?_
  rintro _ rfl
  show Cq _ _ _ _ [(0, Value.agg #[Value.int .i64 a.al, nx, ac])] _
  refine Cq.seq ?_
  refine Cq.region ?_
  refine Sq.box .plain rfl rfl (fun b1 w2 e3 hB4 hlo5 => ?_)
  have hd6 := Nat.le_trans (Below.size E) hlo5
  have hs7 := Below.size e3
  replace E := E.trans e3
  refine Sq.assign .plain rfl rfl ?_
  refine Sq.nil ?_
  refine Eq.next ?_
  refine Cq.seq ?_
  refine Cq.region ?_
  refine Sq.fieldAddr fld26_1 .plain rfl rfl ?_
  refine Sq.loadB one23 .plain rfl rfl hB4 rfl ?_
  refine Sq.lenRows (hnx.ext E) .plain rfl und23 rfl ?_
  refine Sq.make sl28 .plain rfl rfl rfl rfl (by omega) (fun b8 w9 e10 hlo11 hB12 => ?_)
  replace hB12 := hB12 w2.heap.size (Nat.le_refl _)
  have hs13 := Below.size e10
  replace E := E.trans e10
  replace hB4 := hB4.ext e10
  refine Sq.assign .plain rfl rfl ?_
  refine Sq.nil ?_
  refine Eq.next ?_
  refine Cq.seq ?_
  refine Cq.seq ?_
  refine Cq.region ?_
  replace hB12 := Own.rep hB12
  refine Sq.move .plain rfl rfl ?_
  refine Sq.lenInts (Own.row hB12) .plain rfl und28 rfl ?_
  rw [List.length_replicate]
  refine Sq.move .plain rfl rfl ?_
  refine Sq.nil ?_
  refine Eq.next ?_
  refine Cq.block ?_
  refine Cq.loop (fun nn w ls => ∃ (k : Int), ls = [(1, Value.pointer (some ⟨b1, 0, none⟩)), (2, Value.slice none 0 0), (3, Value.slice (some ⟨b8, 0, none⟩) (List.length a.next : Int).toNat (List.length a.next : Int).toNat), (20, Value.int .i64 ((((List.length a.next : Int).toNat : Nat) : Int))), (21, Value.int .i64 k)] ∧ (0 ≤ k ∧ k ≤ a.next.length) ∧ Own w w0.heap.size 3 (Value.slice (some ⟨b8, 0, none⟩) (List.length a.next : Int).toNat (List.length a.next : Int).toNat) ((initTo a k.toNat).map (Value.int .i64)) ∧ Ext w0 w ∧ Blk w b1 26 [Value.int .i64 a.al, nx, ac] ∧ nn = ((a.next.length : Int) - k).toNat) _ _ ⟨0, rfl, by omega, by rw [show (0 : Int).toNat = 0 from rfl, initTo_zero]; exact Own.mono hB12 (by omega), E, hB4, rfl⟩ (.cons rfl (.cons rfl (.cons rfl (.cons rfl (.cons rfl (.nil)))))) ?_
  rintro nn wl1 ls ⟨k, rfl, hk, hc, E, hB4, rfl⟩
  have hs14 := Below.size E
  have hil := initTo_length (a := a) k.toNat
  refine Cq.seq ?_
  refine Cq.region ?_
  refine Sq.lss .plain rfl rfl rfl ?_
  refine Sq.part (fun c15 => ?_) (fun c15 => ?_)
  · refine Sq.nil ?_
    refine Eq.next ?_
    refine Cq.seq ?_
    refine Cq.thn rfl ?_
    refine Cq.skip ?_
    refine Eq.next ?_
    refine Cq.seq ?_
    refine Cq.block ?_
    refine Cq.seq ?_
    refine Cq.region ?_
    refine Sq.move .plain rfl rfl ?_
    refine Sq.assign .plain rfl rfl ?_
    refine Sq.nil ?_
    refine Eq.next ?_
    refine Cq.seq ?_
    refine Cq.region ?_
    refine Sq.fieldAddr fld26_2 .plain rfl rfl ?_
    refine Sq.loadB one24 .plain rfl rfl hB4 rfl ?_
    refine Sq.move .plain rfl rfl ?_
    refine Sq.idxBools sl24 one4 (hac.ext E) .plain rfl rfl rfl .plain rfl rfl (by omega) (by omega) ?_
    refine Sq.partB (fun hac => ?_) (fun hac => ?_)
    · refine Sq.nil ?_
      refine Eq.next ?_
      refine Cq.thn rfl ?_
      refine Cq.region ?_
      refine Sq.move .plain rfl rfl ?_
      refine Sq.move .plain rfl rfl ?_
      obtain ⟨p16, hp17o⟩ := Own.at hc (i := k) (by omega) (by first | (simp only [List.length_map]; omega) | (simp; omega))
      refine Sq.atO sl28 hp17o .plain rfl rfl rfl ?_
      refine Sq.storeO one3 hc hp17o .plain rfl rfl rfl (fun w18 g19 ho20 => ?_)
      have hs21 := World.grownBy.size g19
      replace E := E.owned hc g19 (by omega)
      replace hB4 := hB4.owned hc g19 (by decide)
      replace hc := ho20
      refine Sq.nil ?_
      refine Eq.end ?_
      refine Eq.next ?_
      refine Cq.region ?_
      refine Sq.add .plain rfl rfl rfl (by omega) ?_
      refine Sq.move .plain rfl rfl ?_
      refine Sq.nil ?_
      have e1 := toNat_succ hk.1
      refine Eq.round _ _ ⟨k + 1, rfl, by omega, by rw [e1, ← initTo_T (by omega) hac]; exact Own.setI hc, E, hB4, rfl⟩ (by omega) (.cons rfl (.cons rfl (.cons rfl (.cons rfl (.cons rfl (.nil))))))
    refine Sq.nil ?_
    refine Eq.next ?_
    refine Cq.els rfl ?_
    refine Cq.skip ?_
    refine Eq.end ?_
    refine Eq.next ?_
    refine Cq.region ?_
    refine Sq.add .plain rfl rfl rfl (by omega) ?_
    refine Sq.move .plain rfl rfl ?_
    refine Sq.nil ?_
    have e1 := toNat_succ hk.1
    refine Eq.round _ _ ⟨k + 1, rfl, by omega, by rw [e1, initTo_F hac]; exact hc, E, hB4, rfl⟩ (by omega) (.cons rfl (.cons rfl (.cons rfl (.cons rfl (.cons rfl (.nil))))))
  refine Sq.nil ?_
  refine Eq.next ?_
  refine Cq.seq ?_
  refine Cq.els rfl ?_
  refine Cq.exit ?_
  refine Eq.past ?_
  refine Eq.past ?_
  refine Eq.hit ?_
  refine Eq.next ?_
  refine Cq.seq ?_
  refine Cq.region ?_
  refine Sq.assign .plain rfl rfl ?_
  refine Sq.nil ?_
  refine Eq.next ?_
  refine Cq.block ?_
  refine Cq.loop (fun nn w ls => ∃ (r : Nat), ∃ (cv : Value), ∃ (m : Int), ls = [(1, Value.pointer (some ⟨b1, 0, none⟩)), (2, Value.slice none 0 0), (3, cv), (5, Value.int .i64 m)] ∧ m = (mN a r : Int) ∧ Own w w0.heap.size 3 cv ((clsN a r).map (Value.int .i64)) ∧ Ext w0 w ∧ Blk w b1 26 [Value.int .i64 a.al, nx, ac] ∧ nn = (a.next.length + 1 - mN a r)) _ _ ⟨0, _, 0, rfl, rfl, by rw [← initTo_all hv (k := k.toNat) (by omega)]; exact hc, E, hB4, rfl⟩ (.cons rfl (.cons rfl (.cons rfl (.cons rfl (.nil))))) ?_
  rintro nn wl2 ls ⟨r, cv, m, rfl, hm, hcv, E, hB4, rfl⟩
  have hs22 := Below.size E
  have hlow := Own.low hcv
  have hcl := clsN_length hv r
  refine Cq.block ?_
  refine Cq.seq ?_
  refine Cq.region ?_
  refine Sq.makeMap encS .plain rfl (fun mb w23 e24 hM hlo25 => ?_)
  have hs26 := Below.size e24
  replace E := E.trans e24
  replace hB4 := hB4.ext e24
  replace hcv := hcv.ext e24
  have hmb : w0.heap.size ≤ mb := by omega
  refine Sq.assign .plain rfl rfl ?_
  refine Sq.nil ?_
  refine Eq.next ?_
  refine Cq.seq ?_
  refine Cq.region ?_
  refine Sq.move .plain rfl rfl ?_
  refine Sq.lenInts (Own.row hcv) .plain rfl und28 rfl ?_
  rw [clsN_length hv]
  refine Sq.make sl28 .plain rfl rfl rfl rfl (by omega) (fun b27 w28 e29 hlo30 hB31 => ?_)
  replace hB31 := hB31 w23.heap.size (Nat.le_refl _)
  have hs32 := Below.size e29
  replace E := E.trans e29
  replace hB4 := hB4.ext e29
  replace hcv := hcv.ext e29
  replace hM := hM.ext e29
  refine Sq.assign .plain rfl rfl ?_
  refine Sq.nil ?_
  refine Eq.next ?_
  refine Cq.seq ?_
  refine Cq.seq ?_
  refine Cq.region ?_
  refine Sq.fieldAddr fld26_1 .plain rfl rfl ?_
  refine Sq.loadB one23 .plain rfl rfl hB4 rfl ?_
  refine Sq.lenRows (hnx.ext E) .plain rfl und23 rfl ?_
  refine Sq.move .plain rfl rfl ?_
  refine Sq.nil ?_
  refine Eq.next ?_
  refine Cq.block ?_
  refine Cq.loop (fun nn w ls => ∃ (q : Int), ls = [(1, Value.pointer (some ⟨b1, 0, none⟩)), (2, Value.slice none 0 0), (3, cv), (5, Value.int .i64 m), (6, Value.map (some mb)), (7, Value.slice (some ⟨b27, 0, none⟩) (List.length a.next : Int).toNat (List.length a.next : Int).toNat), (38, nx), (39, Value.int .i64 (List.length a.next : Int)), (40, Value.int .i64 q)] ∧ (0 ≤ q ∧ q ≤ a.next.length) ∧ wl2.heap.size ≤ w.heap.size ∧ Own w wl2.heap.size 3 (Value.slice (some ⟨b27, 0, none⟩) (List.length a.next : Int).toNat (List.length a.next : Int).toNat) ((nextTo a (clsN a r) q.toNat).map (Value.int .i64)) ∧ MapN encS w mb (keysTo a (clsN a r) q.toNat) ∧ Ext w0 w ∧ Blk w b1 26 [Value.int .i64 a.al, nx, ac] ∧ Own w w0.heap.size 3 cv ((clsN a r).map (Value.int .i64)) ∧ nn = ((a.next.length : Int) - q).toNat) _ _ ⟨0, rfl, by omega, by omega, by rw [show (0 : Int).toNat = 0 from rfl, nextTo_zero]; exact Own.mono (Own.rep hB31) (by omega), hM, E, hB4, hcv, rfl⟩ (.cons rfl (.cons rfl (.cons rfl (.cons rfl (.cons rfl (.cons rfl (.cons rfl (.cons rfl (.cons rfl (.nil)))))))))) ?_
  rintro nn wl3 ls ⟨q, rfl, hq, hsz, hny, hM, E, hB4, hcv, rfl⟩
  have hs33 := Below.size E
  have hnl := nextTo_length (a := a) (clsN a r) q.toNat
  refine Cq.seq ?_
  refine Cq.region ?_
  refine Sq.lss .plain rfl rfl rfl ?_
  refine Sq.part (fun c34 => ?_) (fun c34 => ?_)
  · refine Sq.nil ?_
    refine Eq.next ?_
    refine Cq.seq ?_
    refine Cq.thn rfl ?_
    refine Cq.skip ?_
    refine Eq.next ?_
    refine Cq.seq ?_
    refine Cq.block ?_
    refine Cq.seq ?_
    refine Cq.region ?_
    refine Sq.move .plain rfl rfl ?_
    refine Sq.idxRows sl23 one28 (hnx.ext E) .plain rfl rfl rfl .plain rfl rfl (by omega) (by omega) (fun r35 hr36 => ?_)
    refine Sq.assign .plain rfl rfl ?_
    refine Sq.assign .plain rfl rfl ?_
    refine Sq.nil ?_
    refine Eq.next ?_
    refine Cq.seq ?_
    refine Cq.region ?_
    refine Sq.move .plain rfl rfl ?_
    refine Sq.move .plain rfl rfl ?_
    refine Sq.idxInts sl28 one3 (Own.row hcv) .plain rfl rfl rfl .plain rfl rfl (by omega) (by omega) ?_
    have hcb := clsN_bd hv r q.toNat
    refine Sq.call fn26 .plain rfl rfl (itoa_c ((clsN a r).getD q.toNat 0) (by omega) _) ?_
    rintro _ _ ⟨rfl, rfl⟩
    refine Sq.assign .plain rfl rfl ?_
    refine Sq.nil ?_
    refine Eq.next ?_
    refine Cq.seq ?_
    refine Cq.seq ?_
    refine Cq.region ?_
    refine Sq.move .plain rfl rfl ?_
    refine Sq.lenInts hr36 .plain rfl und28 rfl ?_
    refine Sq.move .plain rfl rfl ?_
    refine Sq.nil ?_
    refine Eq.next ?_
    refine Cq.block ?_
    refine Cq.loop (fun nn w ls => ∃ (j : Int), ∃ (s : ByteArray), ls = [(1, Value.pointer (some ⟨b1, 0, none⟩)), (2, Value.slice none 0 0), (3, cv), (5, Value.int .i64 m), (6, Value.map (some mb)), (7, Value.slice (some ⟨b27, 0, none⟩) (List.length a.next : Int).toNat (List.length a.next : Int).toNat), (8, Value.int .i64 q), (10, Value.string s), (38, nx), (39, Value.int .i64 (List.length a.next : Int)), (40, Value.int .i64 q), (50, r35), (51, Value.int .i64 ((List.length (a.next.getD q.toNat []) : Int))), (52, Value.int .i64 j)] ∧ (0 ≤ j ∧ j ≤ (a.next.getD q.toNat []).length) ∧ s = keyTo a (clsN a r) q.toNat j.toNat ∧ wl2.heap.size ≤ w.heap.size ∧ Ext w0 w ∧ Blk w b1 26 [Value.int .i64 a.al, nx, ac] ∧ Own w w0.heap.size 3 cv ((clsN a r).map (Value.int .i64)) ∧ Own w wl2.heap.size 3 (Value.slice (some ⟨b27, 0, none⟩) (List.length a.next : Int).toNat (List.length a.next : Int).toNat) ((nextTo a (clsN a r) q.toNat).map (Value.int .i64)) ∧ Ints w 3 r35 (a.next.getD q.toNat []) ∧ MapN encS w mb (keysTo a (clsN a r) q.toNat) ∧ nn = (((a.next.getD q.toNat []).length : Int) - j).toNat) _ _ ⟨0, _, rfl, by omega, rfl, by omega, E, hB4, hcv, hny, hr36, hM, rfl⟩ (.cons rfl (.cons rfl (.cons rfl (.cons rfl (.cons rfl (.cons rfl (.cons rfl (.cons rfl (.cons rfl (.cons rfl (.cons rfl (.cons rfl (.cons rfl (.cons rfl (.nil))))))))))))))) ?_
    rintro nn wl4 ls ⟨j, s, rfl, hj, hs, hsz4, E, hB4, hcv, hny, hr36, hM, rfl⟩
    have hs37 := Below.size E
    have hvt := valid_at hv (k := q.toNat) (j := j.toNat)
    have hrl := valid_row hv (k := q.toNat) (by omega)
    have hl6 := letters_len6 a.al
    refine Cq.seq ?_
    refine Cq.region ?_
    refine Sq.lss .plain rfl rfl rfl ?_
    refine Sq.part (fun c38 => ?_) (fun c38 => ?_)
    · refine Sq.nil ?_
      refine Eq.next ?_
      refine Cq.seq ?_
      refine Cq.thn rfl ?_
      refine Cq.skip ?_
      refine Eq.next ?_
      refine Cq.seq ?_
      refine Cq.block ?_
      refine Cq.seq ?_
      refine Cq.region ?_
      refine Sq.idxInts sl28 one3 hr36 .plain rfl rfl rfl .plain rfl rfl (by omega) (by omega) ?_
      refine Sq.assign .plain rfl rfl ?_
      refine Sq.nil ?_
      refine Eq.next ?_
      refine Cq.region ?_
      refine Sq.move .plain rfl rfl ?_
      refine Sq.move .plain rfl rfl ?_
      refine Sq.move .plain rfl rfl ?_
      refine Sq.idxInts sl28 one3 (Own.row hcv) .plain rfl rfl rfl .plain rfl rfl (by have := hvt (by omega) (by omega); omega) (by have := hvt (by omega) (by omega); omega) ?_
      have hcb2 := clsN_bd hv r ((a.next.getD q.toNat []).getD j.toNat 0).toNat
      have hz1 := itoa_size ((clsN a r).getD ((a.next.getD q.toNat []).getD j.toNat 0).toNat 0)
      have hz2 := keyTo_size hv (cs := (clsN a r)) (q := q.toNat) (by omega) j.toNat
      rw [← hs] at hz2
      refine Sq.call fn26 .plain rfl rfl (itoa_c ((clsN a r).getD ((a.next.getD q.toNat []).getD j.toNat 0).toNat 0) (by omega) _) ?_
      rintro _ _ ⟨rfl, rfl⟩
      refine Sq.cat .plain rfl rfl rfl (by exact (show 1 + (itoa ((clsN a r).getD ((a.next.getD q.toNat []).getD j.toNat 0).toNat 0)).size ≤ 9223372036854775807 by omega)) ?_
      refine Sq.cat .plain rfl rfl rfl (by rw [size_cat]; exact (show s.size + (1 + (itoa ((clsN a r).getD ((a.next.getD q.toNat []).getD j.toNat 0).toNat 0)).size) ≤ 9223372036854775807 by omega)) ?_
      refine Sq.assign .plain rfl rfl ?_
      refine Sq.nil ?_
      refine Eq.end ?_
      refine Eq.next ?_
      refine Cq.region ?_
      refine Sq.add .plain rfl rfl rfl (by omega) ?_
      refine Sq.move .plain rfl rfl ?_
      refine Sq.nil ?_
      have e2 := toNat_succ hj.1
      refine Eq.round _ _ ⟨j + 1, _, rfl, by omega, by rw [e2, keyTo_succ (by omega), hs], by omega, E, hB4, hcv, hny, hr36, hM, rfl⟩ (by omega) (.cons rfl (.cons rfl (.cons rfl (.cons rfl (.cons rfl (.cons rfl (.cons rfl (.cons rfl (.cons rfl (.cons rfl (.cons rfl (.cons rfl (.cons rfl (.cons rfl (.nil)))))))))))))))
    refine Sq.nil ?_
    refine Eq.next ?_
    refine Cq.seq ?_
    refine Cq.els rfl ?_
    refine Cq.exit ?_
    refine Eq.past ?_
    refine Eq.past ?_
    refine Eq.hit ?_
    refine Eq.next ?_
    refine Cq.seq ?_
    refine Cq.region ?_
    obtain rfl : s = (keyTx (keyQ a (clsN a r) q.toNat)) := by rw [hs, keyTo_done (by omega)]
    refine Sq.move .plain rfl rfl ?_
    refine Sq.move .plain rfl rfl ?_
    refine Sq.lookup key48 hM .plain rfl rfl (k := (keyTx (keyQ a (clsN a r) q.toNat))) rfl ?_
    refine Sq.move .plain rfl rfl ?_
    refine Sq.extract .plain rfl rfl rfl ?_
    refine Sq.extract .plain rfl rfl rfl ?_
    refine Sq.assign .plain rfl rfl ?_
    refine Sq.assign .plain rfl rfl ?_
    refine Sq.nil ?_
    refine Eq.next ?_
    refine Cq.seq ?_
    refine Cq.seq ?_
    refine Cq.region ?_
    refine Sq.move .plain rfl rfl ?_
    refine Sq.part (fun hin => ?_) (fun hin => ?_)
    · refine Sq.notT .plain rfl rfl ?_
      refine Sq.nil ?_
      refine Eq.next ?_
      refine Cq.els rfl ?_
      refine Cq.skip ?_
      refine Eq.next ?_
      refine Cq.region ?_
      refine Sq.move .plain rfl rfl ?_
      refine Sq.move .plain rfl rfl ?_
      refine Sq.move .plain rfl rfl ?_
      obtain ⟨p39, hp40o⟩ := Own.at hny (i := q) (by omega) (by first | (simp only [List.length_map]; omega) | (simp; omega))
      refine Sq.atO sl28 hp40o .plain rfl rfl rfl ?_
      refine Sq.storeO one3 hny hp40o .plain rfl rfl rfl (fun w41 g42 ho43 => ?_)
      have hs44 := World.grownBy.size g42
      replace E := E.owned hny g42 (by omega)
      replace hB4 := hB4.owned hny g42 (by decide)
      replace hcv := hcv.apart hlow hny g42 (by omega)
      replace hM := hM.owned hny g42
      replace hny := ho43
      refine Sq.nil ?_
      refine Eq.end ?_
      refine Eq.next ?_
      refine Cq.region ?_
      refine Sq.add .plain rfl rfl rfl (by omega) ?_
      refine Sq.move .plain rfl rfl ?_
      refine Sq.nil ?_
      have e1 := toNat_succ hq.1
      obtain ⟨e2, e3⟩ := next_in hv (r := r) (by omega) hin
      rw [if_pos hin] at hny
      refine Eq.round _ _ ⟨q + 1, rfl, by omega, by omega, by rw [e1, ← nextTo_set (by omega) e2]; exact Own.setI hny, by rw [e1, e3]; exact hM, E, hB4, hcv, rfl⟩ (by omega) (.cons rfl (.cons rfl (.cons rfl (.cons rfl (.cons rfl (.cons rfl (.cons rfl (.cons rfl (.cons rfl (.nil))))))))))
    refine Sq.notF .plain rfl rfl ?_
    refine Sq.nil ?_
    refine Eq.next ?_
    refine Cq.thn rfl ?_
    refine Cq.seq ?_
    refine Cq.region ?_
    refine Sq.move .plain rfl rfl ?_
    refine Sq.lenMap undm48 hM .plain rfl rfl ?_
    refine Sq.assign .plain rfl rfl ?_
    refine Sq.nil ?_
    refine Eq.next ?_
    refine Cq.region ?_
    refine Sq.move .plain rfl rfl ?_
    refine Sq.move .plain rfl rfl ?_
    refine Sq.move .plain rfl rfl ?_
    refine Sq.mapUpdate key48 hM .plain rfl (k := (keyTx (keyQ a (clsN a r) q.toNat))) rfl rfl rfl hin (fun w45 g46 hm47 => ?_)
    have hs48 := World.grownBy.size g46
    replace E := E.mapped g46 (by omega)
    replace hB4 := hB4.mapped hM g46
    replace hcv := hcv.mapped hM g46
    replace hny := hny.mapped hM g46
    replace hM := hm47
    refine Sq.nil ?_
    refine Eq.next ?_
    refine Cq.region ?_
    refine Sq.move .plain rfl rfl ?_
    refine Sq.move .plain rfl rfl ?_
    refine Sq.move .plain rfl rfl ?_
    obtain ⟨p49, hp50o⟩ := Own.at hny (i := q) (by omega) (by first | (simp only [List.length_map]; omega) | (simp; omega))
    refine Sq.atO sl28 hp50o .plain rfl rfl rfl ?_
    refine Sq.storeO one3 hny hp50o .plain rfl rfl rfl (fun w51 g52 ho53 => ?_)
    have hs54 := World.grownBy.size g52
    replace E := E.owned hny g52 (by omega)
    replace hB4 := hB4.owned hny g52 (by decide)
    replace hcv := hcv.apart hlow hny g52 (by omega)
    replace hM := hM.owned hny g52
    replace hny := ho53
    refine Sq.nil ?_
    refine Eq.end ?_
    refine Eq.next ?_
    refine Cq.region ?_
    refine Sq.add .plain rfl rfl rfl (by omega) ?_
    refine Sq.move .plain rfl rfl ?_
    refine Sq.nil ?_
    have e1 := toNat_succ hq.1
    obtain ⟨e2, e3⟩ := next_out hv (r := r) (by omega) hin
    refine Eq.round _ _ ⟨q + 1, rfl, by omega, by omega, by rw [e1, ← nextTo_set (by omega) e2]; exact Own.setI hny, by rw [e1, e3]; exact hM, E, hB4, hcv, rfl⟩ (by omega) (.cons rfl (.cons rfl (.cons rfl (.cons rfl (.cons rfl (.cons rfl (.cons rfl (.cons rfl (.cons rfl (.nil))))))))))
  refine Sq.nil ?_
  refine Eq.next ?_
  refine Cq.seq ?_
  refine Cq.els rfl ?_
  refine Cq.exit ?_
  refine Eq.past ?_
  refine Eq.past ?_
  refine Eq.hit ?_
  refine Eq.next ?_
  refine Cq.seq ?_
  refine Cq.region ?_
  refine Sq.move .plain rfl rfl ?_
  refine Sq.assign .plain rfl rfl ?_
  refine Sq.nil ?_
  refine Eq.next ?_
  refine Cq.seq ?_
  refine Cq.seq ?_
  refine Cq.region ?_
  refine Sq.move .plain rfl rfl ?_
  refine Sq.lenMap undm48 hM .plain rfl rfl ?_
  refine Sq.move .plain rfl rfl ?_
  refine Sq.eql .plain rfl rfl rfl ?_
  refine Sq.part (fun he => ?_) (fun he => ?_)
  · refine Sq.nil ?_
    refine Eq.next ?_
    refine Cq.thn rfl ?_
    refine Cq.seq ?_
    refine Cq.region ?_
    refine Sq.move .plain rfl rfl ?_
    refine Sq.assign .plain rfl rfl ?_
    refine Sq.nil ?_
    refine Eq.next ?_
    refine Cq.ret ?_
    refine Eq.pastRet ?_
    refine Eq.outRet ?_
    refine Eq.pastRet ?_
    refine Eq.outRet ?_
    refine Eq.ret1 rfl rfl ?_
    have hkl := keysTo_all (a := a) (r := r) (q := q.toNat) (by omega)
    exact ⟨by rw [← classes_found hv (r := r) (by omega), show clsN a (r + 1) = refine' a (clsN a r) from rfl, ← nextTo_all (q := q.toNat) (by omega)]; exact Own.mono hny (by omega), E⟩
  refine Sq.nil ?_
  refine Eq.next ?_
  refine Cq.els rfl ?_
  refine Cq.skip ?_
  refine Eq.next ?_
  refine Cq.region ?_
  refine Sq.move .plain rfl rfl ?_
  refine Sq.lenMap undm48 hM .plain rfl rfl ?_
  refine Sq.assign .plain rfl rfl ?_
  refine Sq.nil ?_
  refine Eq.end ?_
  have hkl := keysTo_all (a := a) (r := r) (q := q.toNat) (by omega)
  have hmm := mN_mono hv r
  have hml := mN_le (a := a) (r + 1)
  refine Eq.round _ _ ⟨r + 1, _, _, rfl, by rw [hkl], by rw [show clsN a (r + 1) = refine' a (clsN a r) from rfl, ← nextTo_all (q := q.toNat) (by omega)]; exact Own.mono hny (by omega), E, hB4, rfl⟩ (by omega) (.cons rfl (.cons rfl (.cons rfl (.cons rfl (.nil)))))
end Go.Proofs.YtoboklelbbgcnaaDoor
set_option linter.unusedSimpArgs false
set_option linter.unusedVariables false
namespace Go.Proofs.YtoboklelbbgcnaaDoor
open Go.RowKit
set_option maxRecDepth 100000 in
theorem sc_c (w0 : World) (a : A) (nx ac : Value) (hnx : Rows w0 28 3 nx a.next) (hac : Bools w0 4 ac a.acc) : Ret Tryd.prog 7 #[Value.agg #[Value.int .i64 a.al, nx, ac]] w0 (fun v w => Own w w0.heap.size 3 v ((clsA a).map (Value.int .i64)) ∧ Ext w0 w) := by
  have E := Ext.refl w0
  refine Ret.of (args := [Value.agg #[Value.int .i64 a.al, nx, ac]]) Tryd.func7 rfl rfl rfl ?_
  rintro _ rfl
  show Cq _ _ _ _ [(0, Value.agg #[Value.int .i64 a.al, nx, ac])] _
  refine Cq.seq ?_
  refine Cq.region ?_
  refine Sq.box .plain rfl rfl (fun b1 w2 e3 hB4 hlo5 => ?_)
  have hd6 := Nat.le_trans (Below.size E) hlo5
  have hs7 := Below.size e3
  replace E := E.trans e3
  refine Sq.assign .plain rfl rfl ?_
  refine Sq.nil ?_
  refine Eq.next ?_
  refine Cq.seq ?_
  refine Cq.seq ?_
  refine Cq.region ?_
  refine Sq.loadAgg agg26 .plain rfl rfl hB4 rfl ?_
  have hd11 := hB4.lt
  refine Sq.call fn10 .plain rfl rfl (valid_c _ a _ _ (hnx.ext E) (hac.ext E)) ?_
  rintro _ w9 ⟨rfl, e10⟩
  have hs12 := Below.size E
  have hs13 := Below.size e10
  replace E := E.trans e10
  replace hB4 := hB4.ext e10
  refine Sq.partB (fun hv => ?_) (fun hv => ?_)
  · refine Sq.notT .plain rfl rfl ?_
    refine Sq.nil ?_
    refine Eq.next ?_
    refine Cq.els rfl ?_
    refine Cq.skip ?_
    refine Eq.next ?_
    refine Cq.seq ?_
    refine Cq.region ?_
    refine Sq.loadAgg agg26 .plain rfl rfl hB4 rfl ?_
    have hd18 := hB4.lt
    refine Sq.call fn14 .plain rfl rfl (classesOf_c _ a _ _ (hnx.ext E) (hac.ext E) hv) ?_
    rintro v14 w15 ⟨hl17, e16⟩
    have hs19 := Below.size E
    have hs20 := Below.size e16
    replace E := E.trans e16
    refine Sq.assign .plain rfl rfl ?_
    refine Sq.nil ?_
    refine Eq.next ?_
    refine Cq.ret ?_
    refine Eq.ret1 rfl rfl ?_
    exact ⟨by rw [clsA_yes hv]; exact Own.mono hl17 (by omega), E⟩
  refine Sq.notF .plain rfl rfl ?_
  refine Sq.nil ?_
  refine Eq.next ?_
  refine Cq.thn rfl ?_
  refine Cq.seq ?_
  refine Cq.region ?_
  refine Sq.assign .plain rfl rfl ?_
  refine Sq.nil ?_
  refine Eq.next ?_
  refine Cq.ret ?_
  refine Eq.pastRet ?_
  refine Eq.ret1 rfl rfl ?_
  exact ⟨by rw [clsA_no hv]; exact Own.nil _ _ _, E⟩
end Go.Proofs.YtoboklelbbgcnaaDoor
set_option linter.unusedSimpArgs false
set_option linter.unusedVariables false
namespace Go.Proofs.YtoboklelbbgcnaaDoor
open Go.RowKit
set_option maxRecDepth 100000 in
theorem l5Same_c (w0 : World) (a : A) (nx ac : Value) (hnx : Rows w0 28 3 nx a.next) (hac : Bools w0 4 ac a.acc) (hv : validA a = true) (cv : Value) (cs : List Int) (hcv : Ints w0 3 cv cs) (hcl : cs.length = a.next.length) (i j : Int) (hi : 0 ≤ i ∧ i < a.next.length) (hj : 0 ≤ j ∧ j < a.next.length) : Ret Tryd.prog 44 #[Value.agg #[Value.int .i64 a.al, nx, ac], cv, Value.int .i64 i, Value.int .i64 j] w0 (fun v w => v = .bool (decide (keyQ a cs i.toNat = keyQ a cs j.toNat)) ∧ Ext w0 w) := by
  have E := Ext.refl w0
  have hvs := validA_spec.1 hv
  have hv1 := hvs.2.1
  have hv2 := hvs.2.2.1
  have hki := keyQ_iff hv (cs := cs) (i := i.toNat) (j := j.toNat) (by omega) (by omega)
  refine Ret.of (args := [Value.agg #[Value.int .i64 a.al, nx, ac], cv, Value.int .i64 i, Value.int .i64 j]) Tryd.func44 rfl rfl rfl ?_
  rintro _ rfl
  show Cq _ _ _ _ [(0, Value.agg #[Value.int .i64 a.al, nx, ac]), (1, cv), (2, Value.int .i64 i), (3, Value.int .i64 j)] _
  refine Cq.seq ?_
  refine Cq.region ?_
  refine Sq.box .plain rfl rfl (fun b1 w2 e3 hB4 hlo5 => ?_)
  have hd6 := Nat.le_trans (Below.size E) hlo5
  have hs7 := Below.size e3
  replace E := E.trans e3
  refine Sq.assign .plain rfl rfl ?_
  refine Sq.nil ?_
  refine Eq.next ?_
  refine Cq.seq ?_
  refine Cq.seq ?_
  obtain ⟨pI, hpI⟩ := Ints.at hcv (i := i) (by omega) (by omega)
  obtain ⟨pJ, hpJ⟩ := Ints.at hcv (i := j) (by omega) (by omega)
  replace hpI := hpI.ext E
  replace hpJ := hpJ.ext E
  refine Cq.drawS 9 (fun w' => At w' 3 cv i pI (.int .i64 (cs.getD i.toNat 0)) ∧ At w' 3 cv j pJ (.int .i64 (cs.getD j.toNat 0))) mixed (⟨hpI, hpJ⟩) (fun w8 e9 hS => ?_)
  clear hS
  have hs10 := Below.size e9
  replace E := E.trans e9
  replace hB4 := hB4.ext e9
  replace hpI := hpI.ext e9
  replace hpJ := hpJ.ext e9
  refine Gq.st 0 rfl (by kernel_rfl) rfl .plain rfl (fun _ _ _ h => h) ⟨hpI, hpJ⟩ (fun w' x => Still.move rfl) ?_
  refine Gq.st 1 rfl (by kernel_rfl) rfl .plain rfl (fun _ _ _ h => h) ⟨hpI, hpJ⟩ (fun w' x => Still.move rfl) ?_
  refine Gq.st 2 rfl (by kernel_rfl) rfl .plain rfl (fun _ _ _ h => h) ⟨hpI, hpJ⟩ (fun w' x => Still.at' sl28 hpI rfl rfl) ?_
  refine Gq.st 3 rfl (by kernel_rfl) rfl .plain rfl (fun _ _ _ h => h) ⟨hpI, hpJ⟩ (fun w' x => Still.loadA one3 rfl (x.1).1) ?_
  refine Gq.st 4 rfl (by kernel_rfl) rfl .plain rfl (fun _ _ _ h => h) ⟨hpI, hpJ⟩ (fun w' x => Still.move rfl) ?_
  refine Gq.st 5 rfl (by kernel_rfl) rfl .plain rfl (fun _ _ _ h => h) ⟨hpI, hpJ⟩ (fun w' x => Still.move rfl) ?_
  refine Gq.st 6 rfl (by kernel_rfl) rfl .plain rfl (fun _ _ _ h => h) ⟨hpI, hpJ⟩ (fun w' x => Still.at' sl28 hpJ rfl rfl) ?_
  refine Gq.st 7 rfl (by kernel_rfl) rfl .plain rfl (fun _ _ _ h => h) ⟨hpI, hpJ⟩ (fun w' x => Still.loadA one3 rfl (x.2).1) ?_
  refine Gq.st 8 rfl (by kernel_rfl) rfl .plain rfl (fun _ _ _ h => h) ⟨hpI, hpJ⟩ (fun w' x => Still.neq rfl rfl) ?_
  refine Gq.part (fun h1 => ?_) (fun h1 => ?_)
  · refine Gq.done (by kernel_rfl) ?_
    refine Eq.next ?_
    refine Cq.thn rfl ?_
    refine Cq.seq ?_
    refine Cq.region ?_
    refine Sq.assign .plain rfl rfl ?_
    refine Sq.nil ?_
    refine Eq.next ?_
    refine Cq.ret ?_
    refine Eq.pastRet ?_
    refine Eq.ret1 rfl rfl ?_
    exact ⟨by rw [decide_eq_false (fun hc => h1 (hki.1 hc).1)], E⟩
  refine Gq.done (by kernel_rfl) ?_
  refine Eq.next ?_
  refine Cq.els rfl ?_
  refine Cq.skip ?_
  refine Eq.next ?_
  refine Cq.seq ?_
  refine Cq.seq ?_
  refine Cq.region ?_
  refine Sq.assign .plain rfl rfl ?_
  refine Sq.nil ?_
  refine Eq.next ?_
  refine Cq.block ?_
  refine Cq.loop (fun nn w ls => ∃ (k : Int), ls = [(1, cv), (2, Value.int .i64 i), (3, Value.int .i64 j), (4, Value.pointer (some ⟨b1, 0, none⟩)), (9, Value.int .i64 k)] ∧ (0 ≤ k ∧ k ≤ (a.next.getD i.toNat []).length) ∧ (∀ m, m < k.toNat → cs.getD ((a.next.getD i.toNat []).getD m 0).toNat 0 = cs.getD ((a.next.getD j.toNat []).getD m 0).toNat 0) ∧ Ext w0 w ∧ Blk w b1 26 [Value.int .i64 a.al, nx, ac] ∧ nn = (((a.next.getD i.toNat []).length : Int) - k).toNat) _ _ ⟨0, rfl, by omega, fun m hm => by omega, E, hB4, rfl⟩ (.cons rfl (.cons rfl (.cons rfl (.cons rfl (.cons rfl (.nil)))))) ?_
  rintro nn wl1 ls ⟨k, rfl, hk, hal, E, hB4, rfl⟩
  have hs11 := Below.size E
  have hrl0 := valid_row hv (k := i.toNat) (by omega)
  have hl6 := letters_len6 a.al
  refine Cq.seq ?_
  refine Cq.seq ?_
  refine Cq.region ?_
  refine Sq.move .plain rfl rfl ?_
  refine Sq.fieldAddr fld26_1 .plain rfl rfl ?_
  refine Sq.loadB one23 .plain rfl rfl hB4 rfl ?_
  refine Sq.move .plain rfl rfl ?_
  refine Sq.idxRows sl23 one28 (hnx.ext E) .plain rfl rfl rfl .plain rfl rfl (by omega) (by omega) (fun r12 hr13 => ?_)
  refine Sq.lenInts hr13 .plain rfl und28 rfl ?_
  refine Sq.lss .plain rfl rfl rfl ?_
  refine Sq.part (fun c14 => ?_) (fun c14 => ?_)
  · refine Sq.nil ?_
    refine Eq.next ?_
    refine Cq.thn rfl ?_
    refine Cq.skip ?_
    refine Eq.next ?_
    refine Cq.seq ?_
    refine Cq.block ?_
    refine Cq.seq ?_
    have ht1 := valid_at hv (k := i.toNat) (j := k.toNat) (by omega) (by omega)
    have hrl1 := valid_row hv (k := i.toNat) (by omega)
    have hrl2 := valid_row hv (k := j.toNat) (by omega)
    have ht2 := valid_at hv (k := j.toNat) (j := k.toNat) (by omega) (by omega)
    obtain ⟨pRX, rRX, hpRX, hrRX⟩ := Rows.at hnx (i := i) (by omega) (by omega)
    obtain ⟨pTX, hpTX⟩ := Ints.at hrRX (i := k) (by omega) (by omega)
    obtain ⟨pCX, hpCX⟩ := Ints.at hcv (i := ((a.next.getD i.toNat []).getD k.toNat 0)) (by omega) (by omega)
    replace hpRX := hpRX.ext E
    replace hpTX := hpTX.ext E
    replace hpCX := hpCX.ext E
    obtain ⟨pRY, rRY, hpRY, hrRY⟩ := Rows.at hnx (i := j) (by omega) (by omega)
    obtain ⟨pTY, hpTY⟩ := Ints.at hrRY (i := k) (by omega) (by omega)
    obtain ⟨pCY, hpCY⟩ := Ints.at hcv (i := ((a.next.getD j.toNat []).getD k.toNat 0)) (by omega) (by omega)
    replace hpRY := hpRY.ext E
    replace hpTY := hpTY.ext E
    replace hpCY := hpCY.ext E
    refine Cq.drawS 23 (fun w' => Blk w' b1 26 [Value.int .i64 a.al, nx, ac] ∧ At w' 28 nx i pRX rRX ∧ At w' 3 rRX k pTX (.int .i64 ((a.next.getD i.toNat []).getD k.toNat 0)) ∧ At w' 3 cv ((a.next.getD i.toNat []).getD k.toNat 0) pCX (.int .i64 (cs.getD ((a.next.getD i.toNat []).getD k.toNat 0).toNat 0)) ∧ At w' 28 nx j pRY rRY ∧ At w' 3 rRY k pTY (.int .i64 ((a.next.getD j.toNat []).getD k.toNat 0)) ∧ At w' 3 cv ((a.next.getD j.toNat []).getD k.toNat 0) pCY (.int .i64 (cs.getD ((a.next.getD j.toNat []).getD k.toNat 0).toNat 0))) mixed (⟨hB4, hpRX, hpTX, hpCX, hpRY, hpTY, hpCY⟩) (fun w15 e16 hS => ?_)
    clear hS
    have hs17 := Below.size e16
    replace E := E.trans e16
    replace hB4 := hB4.ext e16
    replace hpRX := hpRX.ext e16
    replace hpTX := hpTX.ext e16
    replace hpCX := hpCX.ext e16
    replace hpRY := hpRY.ext e16
    replace hpTY := hpTY.ext e16
    replace hpCY := hpCY.ext e16
    refine Gq.st 0 rfl (by kernel_rfl) rfl .plain rfl (fun _ _ _ h => h) ⟨hB4, hpRX, hpTX, hpCX, hpRY, hpTY, hpCY⟩ (fun w' x => Still.move rfl) ?_
    refine Gq.st 1 rfl (by kernel_rfl) rfl .plain rfl (fun _ _ _ h => h) ⟨hB4, hpRX, hpTX, hpCX, hpRY, hpTY, hpCY⟩ (fun w' x => Still.fieldAddr fld26_1 rfl) ?_
    refine Gq.st 2 rfl (by kernel_rfl) rfl .plain rfl (fun _ _ _ h => h) ⟨hB4, hpRX, hpTX, hpCX, hpRY, hpTY, hpCY⟩ (fun w' x => Still.loadB one23 rfl x.1 rfl) ?_
    refine Gq.st 3 rfl (by kernel_rfl) rfl .plain rfl (fun _ _ _ h => h) ⟨hB4, hpRX, hpTX, hpCX, hpRY, hpTY, hpCY⟩ (fun w' x => Still.move rfl) ?_
    refine Gq.st 4 rfl (by kernel_rfl) rfl .plain rfl (fun _ _ _ h => h) ⟨hB4, hpRX, hpTX, hpCX, hpRY, hpTY, hpCY⟩ (fun w' x => Still.at' sl23 hpRX rfl rfl) ?_
    refine Gq.st 5 rfl (by kernel_rfl) rfl .plain rfl (fun _ _ _ h => h) ⟨hB4, hpRX, hpTX, hpCX, hpRY, hpTY, hpCY⟩ (fun w' x => Still.loadA one28 rfl (x.2.1).1) ?_
    refine Gq.st 6 rfl (by kernel_rfl) rfl .plain rfl (fun _ _ _ h => h) ⟨hB4, hpRX, hpTX, hpCX, hpRY, hpTY, hpCY⟩ (fun w' x => Still.move rfl) ?_
    refine Gq.st 7 rfl (by kernel_rfl) rfl .plain rfl (fun _ _ _ h => h) ⟨hB4, hpRX, hpTX, hpCX, hpRY, hpTY, hpCY⟩ (fun w' x => Still.at' sl28 hpTX rfl rfl) ?_
    refine Gq.st 8 rfl (by kernel_rfl) rfl .plain rfl (fun _ _ _ h => h) ⟨hB4, hpRX, hpTX, hpCX, hpRY, hpTY, hpCY⟩ (fun w' x => Still.loadA one3 rfl (x.2.2.1).1) ?_
    refine Gq.st 9 rfl (by kernel_rfl) rfl .plain rfl (fun _ _ _ h => h) ⟨hB4, hpRX, hpTX, hpCX, hpRY, hpTY, hpCY⟩ (fun w' x => Still.at' sl28 hpCX rfl rfl) ?_
    refine Gq.st 10 rfl (by kernel_rfl) rfl .plain rfl (fun _ _ _ h => h) ⟨hB4, hpRX, hpTX, hpCX, hpRY, hpTY, hpCY⟩ (fun w' x => Still.loadA one3 rfl (x.2.2.2.1).1) ?_
    refine Gq.st 11 rfl (by kernel_rfl) rfl .plain rfl (fun _ _ _ h => h) ⟨hB4, hpRX, hpTX, hpCX, hpRY, hpTY, hpCY⟩ (fun w' x => Still.move rfl) ?_
    refine Gq.st 12 rfl (by kernel_rfl) rfl .plain rfl (fun _ _ _ h => h) ⟨hB4, hpRX, hpTX, hpCX, hpRY, hpTY, hpCY⟩ (fun w' x => Still.fieldAddr fld26_1 rfl) ?_
    refine Gq.st 13 rfl (by kernel_rfl) rfl .plain rfl (fun _ _ _ h => h) ⟨hB4, hpRX, hpTX, hpCX, hpRY, hpTY, hpCY⟩ (fun w' x => Still.loadB one23 rfl x.1 rfl) ?_
    refine Gq.st 14 rfl (by kernel_rfl) rfl .plain rfl (fun _ _ _ h => h) ⟨hB4, hpRX, hpTX, hpCX, hpRY, hpTY, hpCY⟩ (fun w' x => Still.move rfl) ?_
    refine Gq.st 15 rfl (by kernel_rfl) rfl .plain rfl (fun _ _ _ h => h) ⟨hB4, hpRX, hpTX, hpCX, hpRY, hpTY, hpCY⟩ (fun w' x => Still.at' sl23 hpRY rfl rfl) ?_
    refine Gq.st 16 rfl (by kernel_rfl) rfl .plain rfl (fun _ _ _ h => h) ⟨hB4, hpRX, hpTX, hpCX, hpRY, hpTY, hpCY⟩ (fun w' x => Still.loadA one28 rfl (x.2.2.2.2.1).1) ?_
    refine Gq.st 17 rfl (by kernel_rfl) rfl .plain rfl (fun _ _ _ h => h) ⟨hB4, hpRX, hpTX, hpCX, hpRY, hpTY, hpCY⟩ (fun w' x => Still.move rfl) ?_
    refine Gq.st 18 rfl (by kernel_rfl) rfl .plain rfl (fun _ _ _ h => h) ⟨hB4, hpRX, hpTX, hpCX, hpRY, hpTY, hpCY⟩ (fun w' x => Still.at' sl28 hpTY rfl rfl) ?_
    refine Gq.st 19 rfl (by kernel_rfl) rfl .plain rfl (fun _ _ _ h => h) ⟨hB4, hpRX, hpTX, hpCX, hpRY, hpTY, hpCY⟩ (fun w' x => Still.loadA one3 rfl (x.2.2.2.2.2.1).1) ?_
    refine Gq.st 20 rfl (by kernel_rfl) rfl .plain rfl (fun _ _ _ h => h) ⟨hB4, hpRX, hpTX, hpCX, hpRY, hpTY, hpCY⟩ (fun w' x => Still.at' sl28 hpCY rfl rfl) ?_
    refine Gq.st 21 rfl (by kernel_rfl) rfl .plain rfl (fun _ _ _ h => h) ⟨hB4, hpRX, hpTX, hpCX, hpRY, hpTY, hpCY⟩ (fun w' x => Still.loadA one3 rfl (x.2.2.2.2.2.2).1) ?_
    refine Gq.st 22 rfl (by kernel_rfl) rfl .plain rfl (fun _ _ _ h => h) ⟨hB4, hpRX, hpTX, hpCX, hpRY, hpTY, hpCY⟩ (fun w' x => Still.neq rfl rfl) ?_
    refine Gq.part (fun h2 => ?_) (fun h2 => ?_)
    · refine Gq.done (by kernel_rfl) ?_
      refine Eq.next ?_
      refine Cq.thn rfl ?_
      refine Cq.seq ?_
      refine Cq.region ?_
      refine Sq.assign .plain rfl rfl ?_
      refine Sq.nil ?_
      refine Eq.next ?_
      refine Cq.ret ?_
      refine Eq.outRet ?_
      refine Eq.pastRet ?_
      refine Eq.pastRet ?_
      refine Eq.outRet ?_
      refine Eq.pastRet ?_
      refine Eq.ret1 rfl rfl ?_
      exact ⟨by rw [decide_eq_false (fun hc => h2 ((hki.1 hc).2 k.toNat (by omega)))], E⟩
    refine Gq.done (by kernel_rfl) ?_
    refine Eq.next ?_
    refine Cq.els rfl ?_
    refine Cq.skip ?_
    refine Eq.end ?_
    refine Eq.next ?_
    refine Cq.region ?_
    refine Sq.move .plain rfl rfl ?_
    refine Sq.add .plain rfl rfl rfl (by omega) ?_
    refine Sq.assign .plain rfl rfl ?_
    refine Sq.nil ?_
    have e1 := toNat_succ hk.1
    refine Eq.round _ _ ⟨k + 1, rfl, by omega, fun m hm => by rcases Nat.lt_or_ge m k.toNat with h | h; exact hal m h; rw [show m = k.toNat by omega]; exact Classical.not_not.1 h2, E, hB4, rfl⟩ (by omega) (.cons rfl (.cons rfl (.cons rfl (.cons rfl (.cons rfl (.nil))))))
  refine Sq.nil ?_
  refine Eq.next ?_
  refine Cq.els rfl ?_
  refine Cq.exit ?_
  refine Eq.past ?_
  refine Eq.past ?_
  refine Eq.hit ?_
  refine Eq.next ?_
  refine Cq.seq ?_
  refine Cq.region ?_
  refine Sq.assign .plain rfl rfl ?_
  refine Sq.nil ?_
  refine Eq.next ?_
  refine Cq.ret ?_
  refine Eq.ret1 rfl rfl ?_
  exact ⟨by rw [decide_eq_true (hki.2 ⟨Classical.not_not.1 h1, fun m hm => hal m (by omega)⟩)], E⟩
set_option maxRecDepth 100000 in
theorem l5Refine_c (w0 : World) (a : A) (nx ac : Value) (hnx : Rows w0 28 3 nx a.next) (hac : Bools w0 4 ac a.acc) (hv : validA a = true) (cv : Value) (cs : List Int) (hcv : Ints w0 3 cv cs) (hcl : cs.length = a.next.length) : Ret Tryd.prog 30 #[Value.agg #[Value.int .i64 a.al, nx, ac], cv] w0 (fun v w => (∃ nv, v = .tuple #[nv, .int .i64 ((dd (keys a cs)).length : Int)] ∧ Own w w0.heap.size 3 nv ((refine' a cs).map (Value.int .i64))) ∧ Ext w0 w) := by
  have E := Ext.refl w0
  have hvs := validA_spec.1 hv
  have hv1 := hvs.2.1
  have hv2 := hvs.2.2.1
  have hrl := ref_length (a := a) cs
  refine Ret.of (args := [Value.agg #[Value.int .i64 a.al, nx, ac], cv]) Tryd.func30 rfl rfl rfl ?_
  rintro _ rfl
  show Cq _ _ _ _ [(0, Value.agg #[Value.int .i64 a.al, nx, ac]), (1, cv)] _
  refine Cq.seq ?_
  refine Cq.region ?_
  refine Sq.box .plain rfl rfl (fun b1 w2 e3 hB4 hlo5 => ?_)
  have hd6 := Nat.le_trans (Below.size E) hlo5
  have hs7 := Below.size e3
  replace E := E.trans e3
  refine Sq.assign .plain rfl rfl ?_
  refine Sq.assign .plain rfl rfl ?_
  refine Sq.nil ?_
  refine Eq.next ?_
  refine Cq.seq ?_
  refine Cq.region ?_
  refine Sq.lit sl28 rfl rfl .plain rfl rfl one_nil (fun b8 w9 e10 hlo11 ho12 _ => ?_)
  replace ho12 := ho12 w2.heap.size (Nat.le_refl _)
  have hs14 := Below.size e10
  replace E := E.trans e10
  replace hB4 := hB4.ext e10
  refine Sq.assign .plain rfl rfl ?_
  refine Sq.nil ?_
  refine Eq.next ?_
  refine Cq.seq ?_
  refine Cq.region ?_
  refine Sq.assign .plain rfl rfl ?_
  refine Sq.nil ?_
  refine Eq.next ?_
  refine Cq.seq ?_
  refine Cq.seq ?_
  refine Cq.region ?_
  refine Sq.assign .plain rfl rfl ?_
  refine Sq.nil ?_
  refine Eq.next ?_
  refine Cq.block ?_
  refine Cq.loop (fun nn w ls => ∃ (i : Int), ∃ (c : Int), ∃ (nv : Value), ls = [(1, cv), (2, Value.pointer (some ⟨b1, 0, none⟩)), (6, nv), (7, Value.int .i64 c), (8, Value.int .i64 i)] ∧ (0 ≤ i ∧ i ≤ a.next.length) ∧ c = (cntK a cs i.toNat : Int) ∧ Own w w0.heap.size 3 nv (((refine' a cs).take i.toNat).map (Value.int .i64)) ∧ Ext w0 w ∧ Blk w b1 26 [Value.int .i64 a.al, nx, ac] ∧ nn = ((a.next.length : Int) - i).toNat) _ _ ⟨0, 0, _, rfl, by omega, rfl, by exact Own.mono ho12 (by omega), E, hB4, rfl⟩ (.cons rfl (.cons rfl (.cons rfl (.cons rfl (.cons rfl (.nil)))))) ?_
  rintro nn wl1 ls ⟨i, c, nv, rfl, hi, hc, hn0, E, hB4, rfl⟩
  have hs15 := Below.size E
  have hcb := cntK_le (a := a) cs i.toNat
  have htl : ((refine' a cs).take i.toNat).length = i.toNat := by rw [List.length_take]; omega
  refine Cq.seq ?_
  refine Cq.seq ?_
  refine Cq.region ?_
  refine Sq.move .plain rfl rfl ?_
  refine Sq.move .plain rfl rfl ?_
  refine Sq.lenInts (hcv.ext E) .plain rfl und28 rfl ?_
  refine Sq.lss .plain rfl rfl rfl ?_
  refine Sq.part (fun c16 => ?_) (fun c16 => ?_)
  · refine Sq.nil ?_
    refine Eq.next ?_
    refine Cq.thn rfl ?_
    refine Cq.skip ?_
    refine Eq.next ?_
    refine Cq.seq ?_
    refine Cq.block ?_
    refine Cq.seq ?_
    refine Cq.region ?_
    refine Sq.assign .plain rfl rfl ?_
    refine Sq.nil ?_
    refine Eq.next ?_
    refine Cq.seq ?_
    refine Cq.seq ?_
    refine Cq.region ?_
    refine Sq.assign .plain rfl rfl ?_
    refine Sq.nil ?_
    refine Eq.next ?_
    refine Cq.block ?_
    refine Cq.loop (fun nn w ls => ∃ (j : Int), ∃ (id : Int), ls = [(1, cv), (2, Value.pointer (some ⟨b1, 0, none⟩)), (6, nv), (7, Value.int .i64 c), (8, Value.int .i64 i), (9, Value.int .i64 id), (10, Value.int .i64 j)] ∧ (0 ≤ j ∧ j ≤ i) ∧ ((id = -1 ∧ ∀ m, m < j.toNat → keyQ a cs i.toNat ≠ keyQ a cs m) ∨ (id = (refine' a cs).getD i.toNat 0 ∧ ∃ m, m < i.toNat ∧ keyQ a cs i.toNat = keyQ a cs m)) ∧ Ext w0 w ∧ Blk w b1 26 [Value.int .i64 a.al, nx, ac] ∧ Own w w0.heap.size 3 nv (((refine' a cs).take i.toNat).map (Value.int .i64)) ∧ nn = (i - j).toNat) _ _ ⟨0, -1, rfl, by omega, .inl ⟨rfl, fun m hm => by omega⟩, E, hB4, hn0, rfl⟩ (.cons rfl (.cons rfl (.cons rfl (.cons rfl (.cons rfl (.cons rfl (.cons rfl (.nil)))))))) ?_
    rintro nn wl2 ls ⟨j, id, rfl, hj, hid, E, hB4, hn0, rfl⟩
    have hs17 := Below.size E
    have hri : 0 ≤ (refine' a cs).getD i.toNat 0 := by rw [ref_at (by omega)]; exact Int.natCast_nonneg _
    refine Cq.seq ?_
    refine Cq.seq ?_
    refine Cq.region ?_
    refine Sq.move .plain rfl rfl ?_
    refine Sq.move .plain rfl rfl ?_
    refine Sq.lss .plain rfl rfl rfl ?_
    refine Sq.part (fun hjl => ?_) (fun hjl => ?_)
    · refine Sq.move .plain rfl rfl ?_
      refine Sq.move (.met rfl rfl rfl) rfl rfl ?_
      refine Sq.lss (.met rfl rfl rfl) rfl rfl rfl ?_
      refine Sq.part (fun hn => ?_) (fun hn => ?_)
      · refine Sq.pickT .plain rfl rfl rfl ?_
        refine Sq.nil ?_
        refine Eq.next ?_
        refine Cq.thn rfl ?_
        refine Cq.skip ?_
        refine Eq.next ?_
        refine Cq.seq ?_
        refine Cq.block ?_
        refine Cq.seq ?_
        refine Cq.region ?_
        refine Sq.loadAgg agg26 .plain rfl rfl hB4 rfl ?_
        refine Sq.move .plain rfl rfl ?_
        refine Sq.move .plain rfl rfl ?_
        refine Sq.move .plain rfl rfl ?_
        have hd21 := hB4.lt
        refine Sq.call fn44 .plain rfl rfl (l5Same_c _ a _ _ (hnx.ext E) (hac.ext E) hv cv cs (hcv.ext E) (by omega) i j (by omega) (by omega)) ?_
        rintro _ w19 ⟨rfl, e20⟩
        have hs22 := Below.size E
        have hs23 := Below.size e20
        replace E := E.trans e20
        replace hB4 := hB4.ext e20
        replace hn0 := hn0.ext e20
        refine Sq.partB (fun hsm => ?_) (fun hsm => ?_)
        · refine Sq.nil ?_
          refine Eq.next ?_
          refine Cq.thn rfl ?_
          refine Cq.region ?_
          refine Sq.move .plain rfl rfl ?_
          refine Sq.move .plain rfl rfl ?_
          refine Sq.idxInts sl28 one3 (Own.row hn0) .plain rfl rfl rfl .plain rfl rfl (by omega) (by omega) ?_
          refine Sq.assign .plain rfl rfl ?_
          refine Sq.nil ?_
          refine Eq.end ?_
          refine Eq.next ?_
          refine Cq.region ?_
          refine Sq.move .plain rfl rfl ?_
          refine Sq.add .plain rfl rfl rfl (by omega) ?_
          refine Sq.assign .plain rfl rfl ?_
          refine Sq.nil ?_
          have e2 := toNat_succ hj.1
          refine Eq.round _ _ ⟨j + 1, _, rfl, by omega, .inr ⟨by rw [getD_take (by omega)]; exact (ref_old (a := a) (cs := cs) (i := i.toNat) (m := j.toNat) (by omega) (by omega) (of_decide_eq_true hsm)).1, j.toNat, by omega, of_decide_eq_true hsm⟩, E, hB4, hn0, rfl⟩ (by omega) (.cons rfl (.cons rfl (.cons rfl (.cons rfl (.cons rfl (.cons rfl (.cons rfl (.nil))))))))
        refine Sq.nil ?_
        refine Eq.next ?_
        refine Cq.els rfl ?_
        refine Cq.skip ?_
        refine Eq.end ?_
        refine Eq.next ?_
        refine Cq.region ?_
        refine Sq.move .plain rfl rfl ?_
        refine Sq.add .plain rfl rfl rfl (by omega) ?_
        refine Sq.assign .plain rfl rfl ?_
        refine Sq.nil ?_
        have e2 := toNat_succ hj.1
        refine Eq.round _ _ ⟨j + 1, _, rfl, by omega, .inl ⟨(hid.resolve_right (fun hc2 => by omega)).1, fun m hm => by rcases Nat.lt_or_ge m j.toNat with h | h; exact (hid.resolve_right (fun hc2 => by omega)).2 m h; rw [show m = j.toNat by omega]; exact of_decide_eq_false hsm⟩, E, hB4, hn0, rfl⟩ (by omega) (.cons rfl (.cons rfl (.cons rfl (.cons rfl (.cons rfl (.cons rfl (.cons rfl (.nil))))))))
      refine Sq.pickT .plain rfl rfl rfl ?_
      refine Sq.nil ?_
      refine Eq.next ?_
      refine Cq.els rfl ?_
      refine Cq.exit ?_
      refine Eq.past ?_
      refine Eq.past ?_
      refine Eq.hit ?_
      refine Eq.next ?_
      refine Cq.seq ?_
      refine Cq.seq ?_
      refine Cq.region ?_
      refine Sq.move .plain rfl rfl ?_
      refine Sq.lss .plain rfl rfl rfl ?_
      refine Sq.part (fun hneg => ?_) (fun hneg => ?_)
      · refine Sq.nil ?_
        refine Eq.next ?_
        refine Cq.thn rfl ?_
        refine Cq.seq ?_
        refine Cq.region ?_
        refine Sq.move .plain rfl rfl ?_
        refine Sq.assign .plain rfl rfl ?_
        refine Sq.nil ?_
        refine Eq.next ?_
        refine Cq.region ?_
        refine Sq.move .plain rfl rfl ?_
        refine Sq.add .plain rfl rfl rfl (by omega) ?_
        refine Sq.assign .plain rfl rfl ?_
        refine Sq.nil ?_
        refine Eq.next ?_
        refine Cq.region ?_
        refine Sq.move .plain rfl rfl ?_
        refine Sq.move .plain rfl rfl ?_
        refine Sq.app1 sl28 hn0 (by omega) (by first | omega | (simp; omega)) .plain rfl rfl rfl rfl rfl rfl rfl (fun v24 w25 ho27 g26 _ => ?_)
        have hs28 := g26.size
        replace E := E.owned hn0 g26 (by omega)
        replace hB4 := hB4.owned hn0 g26 (by decide)
        refine Sq.assign .plain rfl rfl ?_
        refine Sq.nil ?_
        refine Eq.end ?_
        refine Eq.next ?_
        refine Cq.region ?_
        refine Sq.move .plain rfl rfl ?_
        refine Sq.add .plain rfl rfl rfl (by omega) ?_
        refine Sq.assign .plain rfl rfl ?_
        refine Sq.nil ?_
        have e1 := toNat_succ hi.1
        have hrn := ref_new (a := a) (cs := cs) (i := i.toNat) (by omega) (fun m hm => (hid.resolve_right (by omega)).2 m (by omega))
        refine Eq.round _ _ ⟨i + 1, _, _, rfl, by omega, by rw [e1, hrn.2]; omega, by rw [e1, take_snoc (d := 0) (by omega), hrn.1, ← hc]; exact Own.snocI ho27, E, hB4, rfl⟩ (by omega) (.cons rfl (.cons rfl (.cons rfl (.cons rfl (.cons rfl (.nil))))))
      refine Sq.nil ?_
      refine Eq.next ?_
      refine Cq.els rfl ?_
      refine Cq.skip ?_
      refine Eq.next ?_
      refine Cq.region ?_
      refine Sq.move .plain rfl rfl ?_
      refine Sq.move .plain rfl rfl ?_
      refine Sq.app1 sl28 hn0 (by omega) (by first | omega | (simp; omega)) .plain rfl rfl rfl rfl rfl rfl rfl (fun v29 w30 ho32 g31 _ => ?_)
      have hs33 := g31.size
      replace E := E.owned hn0 g31 (by omega)
      replace hB4 := hB4.owned hn0 g31 (by decide)
      refine Sq.assign .plain rfl rfl ?_
      refine Sq.nil ?_
      refine Eq.end ?_
      refine Eq.next ?_
      refine Cq.region ?_
      refine Sq.move .plain rfl rfl ?_
      refine Sq.add .plain rfl rfl rfl (by omega) ?_
      refine Sq.assign .plain rfl rfl ?_
      refine Sq.nil ?_
      have e1 := toNat_succ hi.1
      obtain ⟨hid1, m, hm1, hm2⟩ := (hid.resolve_left (by omega))
      have hro := ref_old (a := a) (cs := cs) (i := i.toNat) (by omega) hm1 hm2
      refine Eq.round _ _ ⟨i + 1, _, _, rfl, by omega, by rw [e1, hro.2]; exact hc, by rw [e1, take_snoc (d := 0) (by omega), ← hid1]; exact Own.snocI ho32, E, hB4, rfl⟩ (by omega) (.cons rfl (.cons rfl (.cons rfl (.cons rfl (.cons rfl (.nil))))))
    refine Sq.move .plain rfl rfl ?_
    refine Sq.off rfl rfl rfl rfl rfl rfl ?_
    refine Sq.off rfl rfl rfl rfl rfl rfl ?_
    refine Sq.pickF .plain rfl rfl rfl ?_
    refine Sq.nil ?_
    refine Eq.next ?_
    refine Cq.els rfl ?_
    refine Cq.exit ?_
    refine Eq.past ?_
    refine Eq.past ?_
    refine Eq.hit ?_
    refine Eq.next ?_
    refine Cq.seq ?_
    refine Cq.seq ?_
    refine Cq.region ?_
    refine Sq.move .plain rfl rfl ?_
    refine Sq.lss .plain rfl rfl rfl ?_
    refine Sq.part (fun hneg => ?_) (fun hneg => ?_)
    · refine Sq.nil ?_
      refine Eq.next ?_
      refine Cq.thn rfl ?_
      refine Cq.seq ?_
      refine Cq.region ?_
      refine Sq.move .plain rfl rfl ?_
      refine Sq.assign .plain rfl rfl ?_
      refine Sq.nil ?_
      refine Eq.next ?_
      refine Cq.region ?_
      refine Sq.move .plain rfl rfl ?_
      refine Sq.add .plain rfl rfl rfl (by omega) ?_
      refine Sq.assign .plain rfl rfl ?_
      refine Sq.nil ?_
      refine Eq.next ?_
      refine Cq.region ?_
      refine Sq.move .plain rfl rfl ?_
      refine Sq.move .plain rfl rfl ?_
      refine Sq.app1 sl28 hn0 (by omega) (by first | omega | (simp; omega)) .plain rfl rfl rfl rfl rfl rfl rfl (fun v34 w35 ho37 g36 _ => ?_)
      have hs38 := g36.size
      replace E := E.owned hn0 g36 (by omega)
      replace hB4 := hB4.owned hn0 g36 (by decide)
      refine Sq.assign .plain rfl rfl ?_
      refine Sq.nil ?_
      refine Eq.end ?_
      refine Eq.next ?_
      refine Cq.region ?_
      refine Sq.move .plain rfl rfl ?_
      refine Sq.add .plain rfl rfl rfl (by omega) ?_
      refine Sq.assign .plain rfl rfl ?_
      refine Sq.nil ?_
      have e1 := toNat_succ hi.1
      have hrn := ref_new (a := a) (cs := cs) (i := i.toNat) (by omega) (fun m hm => (hid.resolve_right (by omega)).2 m (by omega))
      refine Eq.round _ _ ⟨i + 1, _, _, rfl, by omega, by rw [e1, hrn.2]; omega, by rw [e1, take_snoc (d := 0) (by omega), hrn.1, ← hc]; exact Own.snocI ho37, E, hB4, rfl⟩ (by omega) (.cons rfl (.cons rfl (.cons rfl (.cons rfl (.cons rfl (.nil))))))
    refine Sq.nil ?_
    refine Eq.next ?_
    refine Cq.els rfl ?_
    refine Cq.skip ?_
    refine Eq.next ?_
    refine Cq.region ?_
    refine Sq.move .plain rfl rfl ?_
    refine Sq.move .plain rfl rfl ?_
    refine Sq.app1 sl28 hn0 (by omega) (by first | omega | (simp; omega)) .plain rfl rfl rfl rfl rfl rfl rfl (fun v39 w40 ho42 g41 _ => ?_)
    have hs43 := g41.size
    replace E := E.owned hn0 g41 (by omega)
    replace hB4 := hB4.owned hn0 g41 (by decide)
    refine Sq.assign .plain rfl rfl ?_
    refine Sq.nil ?_
    refine Eq.end ?_
    refine Eq.next ?_
    refine Cq.region ?_
    refine Sq.move .plain rfl rfl ?_
    refine Sq.add .plain rfl rfl rfl (by omega) ?_
    refine Sq.assign .plain rfl rfl ?_
    refine Sq.nil ?_
    have e1 := toNat_succ hi.1
    obtain ⟨hid1, m, hm1, hm2⟩ := (hid.resolve_left (by omega))
    have hro := ref_old (a := a) (cs := cs) (i := i.toNat) (by omega) hm1 hm2
    refine Eq.round _ _ ⟨i + 1, _, _, rfl, by omega, by rw [e1, hro.2]; exact hc, by rw [e1, take_snoc (d := 0) (by omega), ← hid1]; exact Own.snocI ho42, E, hB4, rfl⟩ (by omega) (.cons rfl (.cons rfl (.cons rfl (.cons rfl (.cons rfl (.nil))))))
  refine Sq.nil ?_
  refine Eq.next ?_
  refine Cq.els rfl ?_
  refine Cq.exit ?_
  refine Eq.past ?_
  refine Eq.past ?_
  refine Eq.hit ?_
  refine Eq.next ?_
  refine Cq.seq ?_
  refine Cq.region ?_
  refine Sq.move .plain rfl rfl ?_
  refine Sq.move .plain rfl rfl ?_
  refine Sq.assign .plain rfl rfl ?_
  refine Sq.assign .plain rfl rfl ?_
  refine Sq.nil ?_
  refine Eq.next ?_
  refine Cq.ret ?_
  refine Eq.ret2 rfl rfl rfl ?_
  exact ⟨⟨_, by rw [hc, cntK_all _ (by omega)], by rw [← List.take_of_length_le (l := (refine' a cs)) (i := i.toNat) (by omega)]; exact hn0⟩, E⟩
end Go.Proofs.YtoboklelbbgcnaaDoor
set_option linter.unusedSimpArgs false
set_option linter.unusedVariables false
namespace Go.Proofs.YtoboklelbbgcnaaDoor
open Go.RowKit
set_option maxRecDepth 100000 in
theorem l5Classes_c (w0 : World) (a : A) (nx ac : Value) (hnx : Rows w0 28 3 nx a.next) (hac : Bools w0 4 ac a.acc) (hv : validA a = true) : Ret Tryd.prog 16 #[Value.agg #[Value.int .i64 a.al, nx, ac]] w0 (fun v w => (∃ nv, v = .tuple #[nv, .int .i64 (nCls a : Int)] ∧ Own w w0.heap.size 3 nv ((classes a).map (Value.int .i64))) ∧ Ext w0 w) := by
  have E := Ext.refl w0
  have hvs := validA_spec.1 hv
  have hv1 := hvs.2.1
  have hv2 := hvs.2.2.1
  refine Ret.of (args := [Value.agg #[Value.int .i64 a.al, nx, ac]]) Tryd.func16 rfl rfl rfl ?_
  rintro _ rfl
  show Cq _ _ _ _ [(0, Value.agg #[Value.int .i64 a.al, nx, ac])] _
  refine Cq.seq ?_
  refine Cq.region ?_
  refine Sq.box .plain rfl rfl (fun b1 w2 e3 hB4 hlo5 => ?_)
  have hd6 := Nat.le_trans (Below.size E) hlo5
  have hs7 := Below.size e3
  replace E := E.trans e3
  refine Sq.assign .plain rfl rfl ?_
  refine Sq.assign .plain rfl rfl ?_
  refine Sq.nil ?_
  refine Eq.next ?_
  refine Cq.seq ?_
  refine Cq.region ?_
  refine Sq.lit sl28 rfl rfl .plain rfl rfl one_nil (fun b8 w9 e10 hlo11 ho12 _ => ?_)
  replace ho12 := ho12 w2.heap.size (Nat.le_refl _)
  have hs14 := Below.size e10
  replace E := E.trans e10
  replace hB4 := hB4.ext e10
  refine Sq.assign .plain rfl rfl ?_
  refine Sq.nil ?_
  refine Eq.next ?_
  refine Cq.seq ?_
  refine Cq.seq ?_
  refine Cq.region ?_
  refine Sq.assign .plain rfl rfl ?_
  refine Sq.nil ?_
  refine Eq.next ?_
  refine Cq.block ?_
  refine Cq.loop (fun nn w ls => ∃ (k : Int), ∃ (cv : Value), ls = [(1, Value.pointer (some ⟨b1, 0, none⟩)), (2, Value.slice none 0 0), (3, Value.int .i64 0), (4, cv), (5, Value.int .i64 k)] ∧ (0 ≤ k ∧ k ≤ a.next.length) ∧ Own w w0.heap.size 3 cv (((cls0 a).take k.toNat).map (Value.int .i64)) ∧ Ext w0 w ∧ Blk w b1 26 [Value.int .i64 a.al, nx, ac] ∧ nn = ((a.next.length : Int) - k).toNat) _ _ ⟨0, _, rfl, by omega, by exact Own.mono ho12 (by omega), E, hB4, rfl⟩ (.cons rfl (.cons rfl (.cons rfl (.cons rfl (.cons rfl (.nil)))))) ?_
  rintro nn wl1 ls ⟨k, cv, rfl, hk, hc0, E, hB4, rfl⟩
  have hs15 := Below.size E
  have hzl := cls0_length (a := a)
  have htl : ((cls0 a).take k.toNat).length = k.toNat := by rw [List.length_take]; omega
  refine Cq.seq ?_
  refine Cq.seq ?_
  refine Cq.region ?_
  refine Sq.move .plain rfl rfl ?_
  refine Sq.fieldAddr fld26_2 .plain rfl rfl ?_
  refine Sq.loadB one24 .plain rfl rfl hB4 rfl ?_
  refine Sq.lenBools (hac.ext E) .plain rfl und24 rfl ?_
  refine Sq.lss .plain rfl rfl rfl ?_
  refine Sq.part (fun c16 => ?_) (fun c16 => ?_)
  · refine Sq.nil ?_
    refine Eq.next ?_
    refine Cq.thn rfl ?_
    refine Cq.skip ?_
    refine Eq.next ?_
    refine Cq.seq ?_
    refine Cq.block ?_
    refine Cq.seq ?_
    refine Cq.region ?_
    refine Sq.assign .plain rfl rfl ?_
    refine Sq.nil ?_
    refine Eq.next ?_
    refine Cq.seq ?_
    refine Cq.seq ?_
    refine Cq.region ?_
    refine Sq.fieldAddr fld26_2 .plain rfl rfl ?_
    refine Sq.loadB one24 .plain rfl rfl hB4 rfl ?_
    refine Sq.move .plain rfl rfl ?_
    refine Sq.idxBools sl24 one4 (hac.ext E) .plain rfl rfl rfl .plain rfl rfl (by omega) (by omega) ?_
    refine Sq.partB (fun hac => ?_) (fun hac => ?_)
    · refine Sq.nil ?_
      refine Eq.next ?_
      refine Cq.thn rfl ?_
      refine Cq.region ?_
      refine Sq.assign .plain rfl rfl ?_
      refine Sq.nil ?_
      refine Eq.next ?_
      refine Cq.region ?_
      refine Sq.move .plain rfl rfl ?_
      refine Sq.move .plain rfl rfl ?_
      refine Sq.app1 sl28 hc0 (by omega) (by first | omega | (simp; omega)) .plain rfl rfl rfl rfl rfl rfl rfl (fun v17 w18 ho20 g19 _ => ?_)
      have hs21 := g19.size
      replace E := E.owned hc0 g19 (by omega)
      replace hB4 := hB4.owned hc0 g19 (by decide)
      refine Sq.assign .plain rfl rfl ?_
      refine Sq.nil ?_
      refine Eq.end ?_
      refine Eq.next ?_
      refine Cq.region ?_
      refine Sq.move .plain rfl rfl ?_
      refine Sq.add .plain rfl rfl rfl (by omega) ?_
      refine Sq.assign .plain rfl rfl ?_
      refine Sq.nil ?_
      have e1 := toNat_succ hk.1
      refine Eq.round _ _ ⟨k + 1, _, rfl, by omega, by rw [e1, take_snoc (d := 0) (by omega), cls0_at (by omega), if_pos hac]; exact Own.snocI ho20, E, hB4, rfl⟩ (by omega) (.cons rfl (.cons rfl (.cons rfl (.cons rfl (.cons rfl (.nil))))))
    refine Sq.nil ?_
    refine Eq.next ?_
    refine Cq.els rfl ?_
    refine Cq.skip ?_
    refine Eq.next ?_
    refine Cq.region ?_
    refine Sq.move .plain rfl rfl ?_
    refine Sq.move .plain rfl rfl ?_
    refine Sq.app1 sl28 hc0 (by omega) (by first | omega | (simp; omega)) .plain rfl rfl rfl rfl rfl rfl rfl (fun v22 w23 ho25 g24 _ => ?_)
    have hs26 := g24.size
    replace E := E.owned hc0 g24 (by omega)
    replace hB4 := hB4.owned hc0 g24 (by decide)
    refine Sq.assign .plain rfl rfl ?_
    refine Sq.nil ?_
    refine Eq.end ?_
    refine Eq.next ?_
    refine Cq.region ?_
    refine Sq.move .plain rfl rfl ?_
    refine Sq.add .plain rfl rfl rfl (by omega) ?_
    refine Sq.assign .plain rfl rfl ?_
    refine Sq.nil ?_
    have e1 := toNat_succ hk.1
    refine Eq.round _ _ ⟨k + 1, _, rfl, by omega, by rw [e1, take_snoc (d := 0) (by omega), cls0_at (by omega), if_neg (by rw [hac]; decide)]; exact Own.snocI ho25, E, hB4, rfl⟩ (by omega) (.cons rfl (.cons rfl (.cons rfl (.cons rfl (.cons rfl (.nil))))))
  refine Sq.nil ?_
  refine Eq.next ?_
  refine Cq.els rfl ?_
  refine Cq.exit ?_
  refine Eq.past ?_
  refine Eq.past ?_
  refine Eq.hit ?_
  refine Eq.next ?_
  refine Cq.seq ?_
  refine Cq.region ?_
  rw [List.take_of_length_le (by rw [cls0_length]; omega), show cls0 a = clsN a 0 from rfl] at hc0
  have hcl0 := clsN_length hv 0
  refine Sq.assign .plain rfl rfl ?_
  refine Sq.nil ?_
  refine Eq.next ?_
  refine Cq.seq ?_
  refine Cq.region ?_
  refine Sq.loadAgg agg26 .plain rfl rfl hB4 rfl ?_
  refine Sq.move .plain rfl rfl ?_
  have hd32 := hB4.lt
  refine Sq.call fn30 .plain rfl rfl (l5Refine_c _ a _ _ (hnx.ext E) (hac.ext E) hv cv (clsN a 0) (Own.row hc0) (by omega)) ?_
  rintro _ w28 ⟨⟨nv30, rfl, hl31⟩, e29⟩
  have hs33 := Below.size E
  have hs34 := Below.size e29
  replace E := E.trans e29
  replace hB4 := hB4.ext e29
  refine Sq.move .plain rfl rfl ?_
  refine Sq.extract .plain rfl rfl rfl ?_
  refine Sq.extract .plain rfl rfl rfl ?_
  refine Sq.assign .plain rfl rfl ?_
  refine Sq.assign .plain rfl rfl ?_
  refine Sq.nil ?_
  refine Eq.next ?_
  refine Cq.seq ?_
  refine Cq.block ?_
  refine Cq.loop (fun nn w ls => ∃ (r : Nat), ∃ (cv2 : Value), ∃ (p : Int), ∃ (m : Int), ls = [(1, Value.pointer (some ⟨b1, 0, none⟩)), (2, Value.slice none 0 0), (3, Value.int .i64 0), (4, cv2), (7, Value.int .i64 p), (8, Value.int .i64 m)] ∧ p = (mN a r : Int) ∧ m = (mN a (r + 1) : Int) ∧ Own w w0.heap.size 3 cv2 ((clsN a (r + 1)).map (Value.int .i64)) ∧ Ext w0 w ∧ Blk w b1 26 [Value.int .i64 a.al, nx, ac] ∧ nn = (a.next.length + 1 - mN a r)) _ _ ⟨0, _, 0, _, rfl, rfl, rfl, Own.mono hl31 (by omega), E, hB4, rfl⟩ (.cons rfl (.cons rfl (.cons rfl (.cons rfl (.cons rfl (.cons rfl (.nil))))))) ?_
  rintro nn wl2 ls ⟨r, cv2, p, m, rfl, hp, hm, hcv, E, hB4, rfl⟩
  have hs35 := Below.size E
  have hmm := mN_mono hv r
  have hml := mN_le (a := a) (r + 1)
  have hcl := clsN_length hv (r + 1)
  refine Cq.seq ?_
  refine Cq.seq ?_
  refine Cq.region ?_
  refine Sq.move .plain rfl rfl ?_
  refine Sq.move .plain rfl rfl ?_
  refine Sq.gtr .plain rfl rfl rfl ?_
  refine Sq.part (fun c36 => ?_) (fun c36 => ?_)
  · refine Sq.nil ?_
    refine Eq.next ?_
    refine Cq.thn rfl ?_
    refine Cq.skip ?_
    refine Eq.next ?_
    refine Cq.block ?_
    refine Cq.seq ?_
    refine Cq.region ?_
    refine Sq.move .plain rfl rfl ?_
    refine Sq.assign .plain rfl rfl ?_
    refine Sq.nil ?_
    refine Eq.next ?_
    refine Cq.region ?_
    refine Sq.loadAgg agg26 .plain rfl rfl hB4 rfl ?_
    refine Sq.move .plain rfl rfl ?_
    have hd42 := hB4.lt
    refine Sq.call fn30 .plain rfl rfl (l5Refine_c _ a _ _ (hnx.ext E) (hac.ext E) hv cv2 ((clsN a (r + 1))) (Own.row hcv) (by omega)) ?_
    rintro _ w38 ⟨⟨nv40, rfl, hl41⟩, e39⟩
    have hs43 := Below.size E
    have hs44 := Below.size e39
    replace E := E.trans e39
    replace hB4 := hB4.ext e39
    refine Sq.move .plain rfl rfl ?_
    refine Sq.extract .plain rfl rfl rfl ?_
    refine Sq.extract .plain rfl rfl rfl ?_
    refine Sq.assign .plain rfl rfl ?_
    refine Sq.assign .plain rfl rfl ?_
    refine Sq.nil ?_
    refine Eq.end ?_
    refine Eq.round _ _ ⟨r + 1, _, _, _, rfl, hm, rfl, Own.mono hl41 (by omega), E, hB4, rfl⟩ (by omega) (.cons rfl (.cons rfl (.cons rfl (.cons rfl (.cons rfl (.cons rfl (.nil)))))))
  refine Sq.nil ?_
  refine Eq.next ?_
  refine Cq.els rfl ?_
  refine Cq.exit ?_
  refine Eq.past ?_
  refine Eq.past ?_
  refine Eq.hit ?_
  refine Eq.next ?_
  refine Cq.seq ?_
  refine Cq.region ?_
  refine Sq.move .plain rfl rfl ?_
  refine Sq.move .plain rfl rfl ?_
  refine Sq.assign .plain rfl rfl ?_
  refine Sq.assign .plain rfl rfl ?_
  refine Sq.nil ?_
  refine Eq.next ?_
  refine Cq.ret ?_
  refine Eq.ret2 rfl rfl rfl ?_
  have hf := classes_found hv (r := r) (by omega)
  have hcN : (nCls a : Int) = p := by rw [nCls, ← hf, mN_cls]; omega
  exact ⟨⟨_, by rw [hcN], by rw [← hf]; exact hcv⟩, E⟩
set_option maxRecDepth 100000 in
theorem sClasses_c (w0 : World) (a : A) (nx ac : Value) (hnx : Rows w0 28 3 nx a.next) (hac : Bools w0 4 ac a.acc) : Ret Tryd.prog 9 #[Value.agg #[Value.int .i64 a.al, nx, ac]] w0 (fun v w => Own w w0.heap.size 3 v ((clsA a).map (Value.int .i64)) ∧ Ext w0 w) := by
  have E := Ext.refl w0
  refine Ret.of (args := [Value.agg #[Value.int .i64 a.al, nx, ac]]) Tryd.func9 rfl rfl rfl ?_
  rintro _ rfl
  show Cq _ _ _ _ [(0, Value.agg #[Value.int .i64 a.al, nx, ac])] _
  refine Cq.seq ?_
  refine Cq.region ?_
  refine Sq.box .plain rfl rfl (fun b1 w2 e3 hB4 hlo5 => ?_)
  have hd6 := Nat.le_trans (Below.size E) hlo5
  have hs7 := Below.size e3
  replace E := E.trans e3
  refine Sq.assign .plain rfl rfl ?_
  refine Sq.nil ?_
  refine Eq.next ?_
  refine Cq.seq ?_
  refine Cq.seq ?_
  refine Cq.region ?_
  refine Sq.loadAgg agg26 .plain rfl rfl hB4 rfl ?_
  have hd11 := hB4.lt
  refine Sq.call fn15 .plain rfl rfl (sValid_c _ a _ _ (hnx.ext E) (hac.ext E)) ?_
  rintro _ w9 ⟨rfl, e10⟩
  have hs12 := Below.size E
  have hs13 := Below.size e10
  replace E := E.trans e10
  replace hB4 := hB4.ext e10
  refine Sq.partB (fun hv => ?_) (fun hv => ?_)
  · refine Sq.notT .plain rfl rfl ?_
    refine Sq.nil ?_
    refine Eq.next ?_
    refine Cq.els rfl ?_
    refine Cq.skip ?_
    refine Eq.next ?_
    refine Cq.seq ?_
    refine Cq.region ?_
    refine Sq.loadAgg agg26 .plain rfl rfl hB4 rfl ?_
    have hd19 := hB4.lt
    refine Sq.call fn16 .plain rfl rfl (l5Classes_c _ a _ _ (hnx.ext E) (hac.ext E) hv) ?_
    rintro _ w15 ⟨⟨nv17, rfl, hl18⟩, e16⟩
    have hs20 := Below.size E
    have hs21 := Below.size e16
    replace E := E.trans e16
    refine Sq.move .plain rfl rfl ?_
    refine Sq.extract .plain rfl rfl rfl ?_
    refine Sq.extract .plain rfl rfl rfl ?_
    refine Sq.assign .plain rfl rfl ?_
    refine Sq.assign .plain rfl rfl ?_
    refine Sq.nil ?_
    refine Eq.next ?_
    refine Cq.seq ?_
    refine Cq.region ?_
    refine Sq.move .plain rfl rfl ?_
    refine Sq.assign .plain rfl rfl ?_
    refine Sq.nil ?_
    refine Eq.next ?_
    refine Cq.ret ?_
    refine Eq.ret1 rfl rfl ?_
    exact ⟨by rw [clsA_yes hv]; exact Own.mono hl18 (by omega), E⟩
  refine Sq.notF .plain rfl rfl ?_
  refine Sq.nil ?_
  refine Eq.next ?_
  refine Cq.thn rfl ?_
  refine Cq.seq ?_
  refine Cq.region ?_
  refine Sq.assign .plain rfl rfl ?_
  refine Sq.nil ?_
  refine Eq.next ?_
  refine Cq.ret ?_
  refine Eq.pastRet ?_
  refine Eq.ret1 rfl rfl ?_
  exact ⟨by rw [clsA_no hv]; exact Own.nil _ _ _, E⟩
end Go.Proofs.YtoboklelbbgcnaaDoor
set_option linter.unusedSimpArgs false
set_option linter.unusedVariables false
namespace Go.Proofs.YtoboklelbbgcnaaDoor
open Go.RowKit
set_option maxRecDepth 100000 in
theorem tableOf_c (w0 : World) (a : A) (nx ac : Value) (hnx : Rows w0 28 3 nx a.next) (hac : Bools w0 4 ac a.acc) (hv : validA a = true) : Ret Tryd.prog 32 #[Value.agg #[Value.int .i64 a.al, nx, ac]] w0 (fun v w => (∃ b xs, v = .slice (some ⟨b, 0, none⟩) a.next.length a.next.length ∧ w0.heap.size ≤ b ∧ Blk w b 56 (xs.map (Value.int .i64)) ∧ Tab a xs) ∧ Ext w0 w) := by
  have E := Ext.refl w0
  have hvs := validA_spec.1 hv
  have hvs1 := hvs.1
  have hvs2 := hvs.2.1
  refine Ret.of (args := [Value.agg #[Value.int .i64 a.al, nx, ac]]) Tryd.func32 rfl rfl rfl ?_
  rintro _ rfl
  show Cq _ _ _ _ [(0, Value.agg #[Value.int .i64 a.al, nx, ac])] _
  refine Cq.seq ?_
  refine Cq.region ?_
  refine Sq.box .plain rfl rfl (fun b1 w2 e3 hB4 hlo5 => ?_)
  have hd6 := Nat.le_trans (Below.size E) hlo5
  have hs7 := Below.size e3
  replace E := E.trans e3
  refine Sq.assign .plain rfl rfl ?_
  refine Sq.nil ?_
  refine Eq.next ?_
  refine Cq.seq ?_
  refine Cq.region ?_
  refine Sq.fieldAddr fld26_1 .plain rfl rfl ?_
  refine Sq.loadB one23 .plain rfl rfl hB4 rfl ?_
  refine Sq.lenRows (hnx.ext E) .plain rfl und23 rfl ?_
  refine Sq.makeK slk54 (mk54).1 (by decide) (mk54).2 .plain rfl rfl rfl rfl (by omega) (fun b8 w9 e10 hlo11 hB12 => ?_)
  have hd13 := Nat.le_trans (Below.size E) hlo11
  have hd14 := Nat.lt_of_lt_of_le hB4.lt hlo11
  have hs15 := Below.size e10
  replace E := E.trans e10
  replace hB4 := hB4.ext e10
  refine Sq.assign .plain rfl rfl ?_
  refine Sq.nil ?_
  refine Eq.next ?_
  refine Cq.seq ?_
  refine Cq.region ?_
  refine Sq.fieldAddr fld26_0 .plain rfl rfl ?_
  refine Sq.loadB one3 .plain rfl rfl hB4 rfl ?_
  have hd20 := hB4.lt
  have hd21 := hB12.lt
  refine Sq.call fn18 .plain rfl rfl (lettersOf_c a.al (by omega) _) ?_
  rintro v16 w17 ⟨hl19, e18⟩
  have hs22 := Below.size E
  have hs23 := Below.size e18
  replace E := E.trans e18
  replace hB4 := hB4.ext e18
  replace hB12 := hB12.ext e18
  refine Sq.assign .plain rfl rfl ?_
  refine Sq.nil ?_
  refine Eq.next ?_
  refine Cq.seq ?_
  refine Cq.seq ?_
  refine Cq.region ?_
  refine Sq.fieldAddr fld26_1 .plain rfl rfl ?_
  refine Sq.loadB one23 .plain rfl rfl hB4 rfl ?_
  refine Sq.lenRows (hnx.ext E) .plain rfl und23 rfl ?_
  refine Sq.move .plain rfl rfl ?_
  refine Sq.nil ?_
  refine Eq.next ?_
  refine Cq.block ?_
  refine Cq.loop (fun nn w ls => ∃ (q : Int), ∃ (xs : List Int), ls = [(3, Value.slice (some ⟨b8, 0, none⟩) a.next.length a.next.length), (4, v16), (18, nx), (19, Value.int .i64 (List.length a.next : Int)), (20, Value.int .i64 q)] ∧ (0 ≤ q ∧ q ≤ a.next.length) ∧ Blk w b8 56 (xs.map (Value.int .i64)) ∧ TabPre a q.toNat 0 xs ∧ Ext w0 w ∧ Own w w9.heap.size 3 v16 ((letters a.al).map (Value.int .i64)) ∧ nn = ((a.next.length : Int) - q).toNat) _ _ ⟨0, _, rfl, by omega, hB12, TabPre.zero a, E, hl19, rfl⟩ (.cons rfl (.cons rfl (.cons rfl (.cons rfl (.cons rfl (.nil)))))) ?_
  rintro nn wl1 ls ⟨q, xs, rfl, hq, hT, ht, E, hl19, rfl⟩
  have hs24 := Below.size E
  have htl := ht.1
  refine Cq.seq ?_
  refine Cq.region ?_
  refine Sq.lss .plain rfl rfl rfl ?_
  refine Sq.part (fun c25 => ?_) (fun c25 => ?_)
  · refine Sq.nil ?_
    refine Eq.next ?_
    refine Cq.seq ?_
    refine Cq.thn rfl ?_
    refine Cq.skip ?_
    refine Eq.next ?_
    refine Cq.seq ?_
    refine Cq.block ?_
    refine Cq.seq ?_
    refine Cq.region ?_
    refine Sq.move .plain rfl rfl ?_
    refine Sq.idxRows sl23 one28 (hnx.ext E) .plain rfl rfl rfl .plain rfl rfl (by omega) (by omega) (fun r26 hr27 => ?_)
    refine Sq.assign .plain rfl rfl ?_
    refine Sq.assign .plain rfl rfl ?_
    refine Sq.nil ?_
    refine Eq.next ?_
    refine Cq.seq ?_
    refine Cq.seq ?_
    refine Cq.region ?_
    refine Sq.move .plain rfl rfl ?_
    refine Sq.nil ?_
    refine Eq.next ?_
    refine Cq.block ?_
    refine Cq.loop (fun nn w ls => ∃ (l : Int), ∃ (xs : List Int), ls = [(3, Value.slice (some ⟨b8, 0, none⟩) a.next.length a.next.length), (4, v16), (5, Value.int .i64 q), (6, r26), (18, nx), (19, Value.int .i64 (List.length a.next : Int)), (20, Value.int .i64 q), (25, Value.int .i64 l)] ∧ (0 ≤ l ∧ l ≤ 6) ∧ Blk w b8 56 (xs.map (Value.int .i64)) ∧ TabPre a q.toNat l.toNat xs ∧ Ext w0 w ∧ Own w w9.heap.size 3 v16 ((letters a.al).map (Value.int .i64)) ∧ Ints w 3 r26 (a.next.getD q.toNat []) ∧ nn = (6 - l).toNat) _ _ ⟨0, _, rfl, by omega, hT, ht, E, hl19, hr27, rfl⟩ (.cons rfl (.cons rfl (.cons rfl (.cons rfl (.cons rfl (.cons rfl (.cons rfl (.cons rfl (.nil))))))))) ?_
    rintro nn wl2 ls ⟨l, xs, rfl, hl, hT, ht, E, hl19, hr27, rfl⟩
    have hs28 := Below.size E
    have htl := ht.1
    refine Cq.seq ?_
    refine Cq.region ?_
    refine Sq.lss .plain rfl rfl rfl ?_
    refine Sq.part (fun c29 => ?_) (fun c29 => ?_)
    · refine Sq.nil ?_
      refine Eq.next ?_
      refine Cq.seq ?_
      refine Cq.thn rfl ?_
      refine Cq.skip ?_
      refine Eq.next ?_
      refine Cq.seq ?_
      refine Cq.block ?_
      refine Cq.seq ?_
      refine Cq.region ?_
      refine Sq.move .plain rfl rfl ?_
      refine Sq.assign .plain rfl rfl ?_
      refine Sq.nil ?_
      refine Eq.next ?_
      refine Cq.region ?_
      refine Sq.move .plain rfl rfl ?_
      refine Sq.move .plain rfl rfl ?_
      refine Sq.move .plain rfl rfl ?_
      refine Sq.move .plain rfl rfl ?_
      refine Sq.val .plain rfl rfl (Still.ixS slk54 rfl rfl (by omega) (by omega)) ?_
      refine Sq.val .plain rfl rfl (Still.ixA ar56 rfl rfl (by omega) (by omega)) ?_
      refine Sq.store one3 .plain rfl rfl rfl hT (by rw [List.length_map]; omega) (fun w30 g31 hB32 => ?_)
      have hs33 := World.grownBy.size g31
      replace E := E.grown g31 (fun k hk => by injection hk with hk; subst hk; omega)
      replace hl19 := hl19.stored g31 hT (by decide)
      replace hr27 := hr27.stored g31 hT (by decide)
      replace hT := hB32
      rw [← List.map_set] at hT
      refine Sq.nil ?_
      refine Eq.end ?_
      refine Eq.next ?_
      refine Cq.region ?_
      refine Sq.add .plain rfl rfl rfl (by omega) ?_
      refine Sq.move .plain rfl rfl ?_
      refine Sq.nil ?_
      have e1 := toNat_succ hl.1
      have e2 := ht.step (by omega) (by omega)
      rw [Int.toNat_of_nonneg hq.1] at e2
      refine Eq.round _ _ ⟨l + 1, _, rfl, by omega, by rw [Nat.zero_add] at hT; exact hT, by rw [e1]; exact e2, E, hl19, hr27, rfl⟩ (by omega) (.cons rfl (.cons rfl (.cons rfl (.cons rfl (.cons rfl (.cons rfl (.cons rfl (.cons rfl (.nil)))))))))
    refine Sq.nil ?_
    refine Eq.next ?_
    refine Cq.seq ?_
    refine Cq.els rfl ?_
    refine Cq.exit ?_
    refine Eq.past ?_
    refine Eq.past ?_
    refine Eq.hit ?_
    refine Eq.next ?_
    refine Cq.seq ?_
    refine Cq.region ?_
    refine Sq.move .plain rfl rfl ?_
    refine Sq.lenInts (Own.row hl19) .plain rfl und28 rfl ?_
    refine Sq.move .plain rfl rfl ?_
    refine Sq.nil ?_
    refine Eq.next ?_
    refine Cq.block ?_
    obtain rfl : l = 6 := by omega
    refine Cq.loop (fun nn w ls => ∃ (k : Int), ∃ (xs : List Int), ls = [(3, Value.slice (some ⟨b8, 0, none⟩) a.next.length a.next.length), (4, v16), (5, Value.int .i64 q), (6, r26), (18, nx), (19, Value.int .i64 (List.length a.next : Int)), (20, Value.int .i64 q), (35, v16), (36, Value.int .i64 ((List.length (letters a.al) : Int))), (37, Value.int .i64 k)] ∧ (0 ≤ k ∧ k ≤ (letters a.al).length) ∧ Blk w b8 56 (xs.map (Value.int .i64)) ∧ TabAt a q.toNat k.toNat xs ∧ Ext w0 w ∧ Own w w9.heap.size 3 v16 ((letters a.al).map (Value.int .i64)) ∧ Ints w 3 r26 (a.next.getD q.toNat []) ∧ nn = ((letters a.al).length - k).toNat) _ _ ⟨0, _, rfl, by omega, hT, ht.at, E, hl19, hr27, rfl⟩ (.cons rfl (.cons rfl (.cons rfl (.cons rfl (.cons rfl (.cons rfl (.cons rfl (.cons rfl (.cons rfl (.cons rfl (.nil))))))))))) ?_
    rintro nn wl3 ls ⟨k, xs, rfl, hk, hT, ht, E, hl19, hr27, rfl⟩
    have hs34 := Below.size E
    have htl := ht.1
    have hlet := letters_len6 a.al
    have hlt := letters_at a.al (k := k.toNat)
    have hvr := valid_row hv (k := q.toNat) (by omega)
    refine Cq.seq ?_
    refine Cq.region ?_
    refine Sq.lss .plain rfl rfl rfl ?_
    refine Sq.part (fun c35 => ?_) (fun c35 => ?_)
    · refine Sq.nil ?_
      refine Eq.next ?_
      refine Cq.seq ?_
      refine Cq.thn rfl ?_
      refine Cq.skip ?_
      refine Eq.next ?_
      refine Cq.seq ?_
      refine Cq.block ?_
      refine Cq.seq ?_
      refine Cq.region ?_
      refine Sq.move .plain rfl rfl ?_
      refine Sq.idxInts sl28 one3 (Own.row hl19) .plain rfl rfl rfl .plain rfl rfl (by omega) (by omega) ?_
      refine Sq.assign .plain rfl rfl ?_
      refine Sq.assign .plain rfl rfl ?_
      refine Sq.nil ?_
      refine Eq.next ?_
      obtain ⟨pA, hpA⟩ := Ints.at hr27 (i := k) (by omega) (by omega)
      refine Cq.drawS 10 (fun w' => At w' 3 r26 k pA (.int .i64 ((a.next.getD q.toNat []).getD k.toNat 0))) mixed (hpA) (fun w36 e37 hS => ?_)
      clear hS
      have hs38 := Below.size e37
      replace E := E.trans e37
      replace hl19 := hl19.ext e37
      replace hr27 := hr27.ext e37
      replace hT := hT.ext e37
      replace hpA := hpA.ext e37
      refine Gq.st 0 rfl (by kernel_rfl) rfl .plain rfl (fun _ _ _ h => h) hpA (fun w' x => Still.move rfl) ?_
      refine Gq.st 1 rfl (by kernel_rfl) rfl .plain rfl (fun _ _ _ h => h) hpA (fun w' x => Still.move rfl) ?_
      refine Gq.st 2 rfl (by kernel_rfl) rfl .plain rfl (fun _ _ _ h => h) hpA (fun w' x => Still.move rfl) ?_
      refine Gq.st 3 rfl (by kernel_rfl) rfl .plain rfl (fun _ _ _ h => h) hpA (fun w' x => Still.move rfl) ?_
      refine Gq.st 4 rfl (by kernel_rfl) rfl .plain rfl (fun _ _ _ h => h) hpA (fun w' x => Still.move rfl) ?_
      refine Gq.st 5 rfl (by kernel_rfl) rfl .plain rfl (fun _ _ _ h => h) hpA (fun w' x => Still.at' sl28 hpA rfl rfl) ?_
      refine Gq.st 6 rfl (by kernel_rfl) rfl .plain rfl (fun _ _ _ h => h) hpA (fun w' x => Still.loadA one3 rfl (x).1) ?_
      refine Gq.st 7 rfl (by kernel_rfl) rfl .plain rfl (fun _ _ _ h => h) hpA (fun w' x => Still.ixS slk54 rfl rfl (by omega) (by omega)) ?_
      refine Gq.st 8 rfl (by kernel_rfl) rfl .plain rfl (fun _ _ _ h => h) hpA (fun w' x => Still.ixA ar56 rfl rfl (by have := hlt (by omega); omega) (by have := hlt (by omega); omega)) ?_
      refine Gq.one 9 rfl (by kernel_rfl) ?_
      refine Sq.store one3 .plain rfl rfl rfl hT (by rw [List.length_map]; omega) (fun w39 g40 hB41 => ?_)
      have hs42 := World.grownBy.size g40
      replace E := E.grown g40 (fun k hk => by injection hk with hk; subst hk; omega)
      replace hl19 := hl19.stored g40 hT (by decide)
      replace hr27 := hr27.stored g40 hT (by decide)
      replace hpA := hpA.stored g40 hT (by decide)
      replace hT := hB41
      rw [← List.map_set] at hT
      refine Sq.nil ?_
      refine Eq.goes (fun _ => hpA) ?_
      refine Gq.done (by kernel_rfl) ?_
      refine Eq.end ?_
      refine Eq.next ?_
      refine Cq.region ?_
      refine Sq.add .plain rfl rfl rfl (by omega) ?_
      refine Sq.move .plain rfl rfl ?_
      refine Sq.nil ?_
      have e1 := toNat_succ hk.1
      refine Eq.round _ _ ⟨k + 1, _, rfl, by omega, by rw [Nat.zero_add] at hT; exact hT, by rw [e1]; exact ht.step hvs1 (by omega) (by omega), E, hl19, hr27, rfl⟩ (by omega) (.cons rfl (.cons rfl (.cons rfl (.cons rfl (.cons rfl (.cons rfl (.cons rfl (.cons rfl (.cons rfl (.cons rfl (.nil)))))))))))
    refine Sq.nil ?_
    refine Eq.next ?_
    refine Cq.seq ?_
    refine Cq.els rfl ?_
    refine Cq.exit ?_
    refine Eq.past ?_
    refine Eq.past ?_
    refine Eq.hit ?_
    refine Eq.end ?_
    refine Eq.next ?_
    refine Cq.region ?_
    refine Sq.add .plain rfl rfl rfl (by omega) ?_
    refine Sq.move .plain rfl rfl ?_
    refine Sq.nil ?_
    have e1 := toNat_succ hq.1
    refine Eq.round _ _ ⟨q + 1, _, rfl, by omega, hT, by rw [e1]; exact ht.next hvs1 (by omega) (by omega), E, hl19, rfl⟩ (by omega) (.cons rfl (.cons rfl (.cons rfl (.cons rfl (.cons rfl (.nil))))))
  refine Sq.nil ?_
  refine Eq.next ?_
  refine Cq.seq ?_
  refine Cq.els rfl ?_
  refine Cq.exit ?_
  refine Eq.past ?_
  refine Eq.past ?_
  refine Eq.hit ?_
  refine Eq.next ?_
  refine Cq.seq ?_
  refine Cq.region ?_
  refine Sq.move .plain rfl rfl ?_
  refine Sq.assign .plain rfl rfl ?_
  refine Sq.nil ?_
  refine Eq.next ?_
  refine Cq.ret ?_
  refine Eq.ret1 rfl rfl ?_
  exact ⟨⟨_, xs, rfl, by omega, hT, ht.done (by omega)⟩, E⟩
end Go.Proofs.YtoboklelbbgcnaaDoor
set_option linter.unusedSimpArgs false
set_option linter.unusedVariables false
namespace Go.Proofs.YtoboklelbbgcnaaDoor
open Go.RowKit
set_option maxRecDepth 100000 in
theorem letterByte_c (x : Int) (hx : 0 ≤ x ∧ x ≤ 100) (w0 : World) : Ret Tryd.prog 54 #[Value.int .i64 x] w0 (fun v w => v = .int .u8 (97 + x) ∧ w0 = w) := by
  refine Ret.of (args := [Value.int .i64 x]) Tryd.func54 rfl rfl rfl ?_
  rintro _ rfl
  show Cq _ _ _ _ [(0, Value.int .i64 x)] _
  refine Cq.seq ?_
  refine Cq.region ?_
  refine Sq.assign .plain rfl rfl ?_
  refine Sq.nil ?_
  refine Eq.next ?_
  refine Cq.seq ?_
  refine Cq.region ?_
  refine Sq.move .plain rfl rfl ?_
  refine Sq.add .plain rfl rfl rfl (by omega) ?_
  refine Sq.conv8 conv3_5 .plain rfl rfl (by omega) ?_
  refine Sq.assign .plain rfl rfl ?_
  refine Sq.nil ?_
  refine Eq.next ?_
  refine Cq.ret ?_
  refine Eq.ret1 rfl rfl ?_
  exact ⟨rfl, rfl⟩
set_option maxRecDepth 100000 in
theorem reverse_c (w0 : World) (B : Nat) (r : Value) (xs : List UInt8) (ho : Own w0 B 5 r (xs.map fun b => Value.int .u8 (b.toNat : Int))) (hl : xs.length ≤ 1000) : Ret Tryd.prog 55 #[r] w0 (fun v w => v = .tuple #[] ∧ Own w B 5 r (xs.reverse.map fun b => Value.int .u8 (b.toNat : Int)) ∧ w0.grownBy w r.ownBlock) := by
  have hgo := World.grownBy.refl w0 r.ownBlock
  refine Ret.of (args := [r]) Tryd.func55 rfl rfl rfl ?_
  rintro _ rfl
  show Cq _ _ _ _ [(0, r)] _
  refine Cq.seq ?_
  refine Cq.region ?_
  refine Sq.move .plain rfl rfl ?_
  refine Sq.lenBytes (Own.row ho) .plain rfl und22 rfl ?_
  refine Sq.sub .plain rfl rfl rfl (by omega) ?_
  refine Sq.assign .plain rfl rfl ?_
  refine Sq.assign .plain rfl rfl ?_
  refine Sq.nil ?_
  refine Eq.next ?_
  refine Cq.block ?_
  rw [show ((xs.length : Int) - 1) = (xs.length : Int) - 1 - 0 by omega]
  refine Cq.loop (fun nn w ls => ∃ (i : Int), ∃ (ys : List UInt8), ls = [(0, r), (2, Value.int .i64 i), (3, Value.int .i64 ((xs.length : Int) - 1 - i))] ∧ (0 ≤ i ∧ i ≤ xs.length) ∧ Own w B 5 r (ys.map fun b => Value.int .u8 (b.toNat : Int)) ∧ RevAt xs i.toNat ys ∧ World.grownBy w0 w r.ownBlock ∧ nn = ((xs.length : Int) - i).toNat) _ _ ⟨0, _, rfl, by omega, ho, RevAt.zero xs, hgo, rfl⟩ (.cons rfl (.cons rfl (.cons rfl (.nil)))) ?_
  rintro nn wl1 ls ⟨i, ys, rfl, hi, ho, hr, hgo, rfl⟩
  have hyl := hr.1
  refine Cq.seq ?_
  refine Cq.seq ?_
  refine Cq.region ?_
  refine Sq.move .plain rfl rfl ?_
  refine Sq.move .plain rfl rfl ?_
  refine Sq.lss .plain rfl rfl rfl ?_
  refine Sq.part (fun c1 => ?_) (fun c1 => ?_)
  · refine Sq.nil ?_
    refine Eq.next ?_
    refine Cq.thn rfl ?_
    refine Cq.skip ?_
    refine Eq.next ?_
    refine Cq.seq ?_
    refine Cq.block ?_
    refine Cq.drawS 14 (fun w' => World.grownBy w0 w' r.ownBlock) mixed (hgo) (fun w2 e3 hS => ?_)
    clear hS
    have hs4 := Below.size e3
    replace hgo := grown_trans hgo (Ext.to_grown e3 _)
    replace ho := ho.ext e3
    have ho_w2 := ho
    refine Gq.st 0 rfl (by kernel_rfl) rfl .plain rfl (fun _ _ _ h => h) hgo (fun w' x => Still.move rfl) ?_
    refine Gq.st 1 rfl (by kernel_rfl) rfl .plain rfl (fun _ _ _ h => h) hgo (fun w' x => Still.move rfl) ?_
    refine Gq.st 2 rfl (by kernel_rfl) rfl .plain rfl (fun _ _ _ h => h) hgo (fun w' x => Still.move rfl) ?_
    refine Gq.st 3 rfl (by kernel_rfl) rfl .plain rfl (fun _ _ _ h => h) hgo (fun w' x => Still.move rfl) ?_
    refine Gq.st 4 rfl (by kernel_rfl) rfl .plain rfl (fun _ _ _ h => h) hgo (fun w' x => Still.move rfl) ?_
    refine Gq.st 5 rfl (by kernel_rfl) rfl .plain rfl (fun _ _ _ h => h) hgo (fun w' x => Still.move rfl) ?_
    refine Gq.st 8 rfl (by kernel_rfl) rfl .plain rfl (fun _ _ _ h => h) hgo (fun w' x => Still.move rfl) ?_
    refine Gq.st 9 rfl (by kernel_rfl) rfl .plain rfl (fun _ _ _ h => h) hgo (fun w' x => Still.move rfl) ?_
    refine Gq.two 6 10 rfl rfl (by kernel_rfl) ?_ ?_
    · obtain ⟨p5, hp6⟩ := Bytes.at (Own.row ho) (i := ((xs.length : Int) - 1 - i)) (by omega) (by omega)
      refine Sq.val .plain rfl rfl (Still.at' sl22 hp6 rfl rfl) ?_
      refine Sq.nil ?_
      refine Eq.goes (fun _ => hgo) ?_
      refine Gq.two 7 10 rfl rfl (by kernel_rfl) ?_ ?_
      · refine Sq.val .plain rfl rfl (Still.loadA one5 rfl hp6.1) ?_
        refine Sq.nil ?_
        refine Eq.goes (fun _ => hgo) ?_
        refine Gq.one 10 rfl (by kernel_rfl) ?_
        obtain ⟨p7, hp8⟩ := Bytes.at (Own.row ho) (i := i) (by omega) (by omega)
        refine Sq.val .plain rfl rfl (Still.at' sl22 hp8 rfl rfl) ?_
        refine Sq.nil ?_
        refine Eq.goes (fun _ => hgo) ?_
        refine Gq.one 11 rfl (by kernel_rfl) ?_
        refine Sq.val .plain rfl rfl (Still.loadA one5 rfl hp8.1) ?_
        refine Sq.nil ?_
        refine Eq.goes (fun _ => hgo) ?_
        obtain ⟨p9, hp10_w2⟩ := Bytes.at (Own.row ho_w2) (i := i) (by omega) (by omega)
        have hp10o := AtO.of ho_w2 hp10_w2
        refine Gq.st 12 rfl (by kernel_rfl) rfl .plain rfl (fun _ _ _ h => h) hgo (fun w' x => Still.at' sl22 hp10_w2 rfl rfl) ?_
        refine Gq.one 13 rfl (by kernel_rfl) ?_
        refine Sq.storeO one5 ho hp10o .plain rfl rfl rfl (fun w11 g12 ho13 => ?_)
        have hs14 := World.grownBy.size g12
        replace hgo := grown_trans hgo g12
        replace ho := ho13
        refine Sq.nil ?_
        refine Eq.goes (fun _ => hgo) ?_
        refine Gq.one 14 rfl (by kernel_rfl) ?_
        obtain ⟨p15, hp16o⟩ := Own.at ho (i := ((xs.length : Int) - 1 - i)) (by omega) (by first | (simp only [List.length_map]; omega) | (simp; omega))
        refine Sq.atO sl22 hp16o .plain rfl rfl rfl ?_
        refine Sq.nil ?_
        refine Eq.goes (fun h => absurd h (by decide)) ?_
        refine Gq.one 15 rfl (by kernel_rfl) ?_
        refine Sq.storeO one5 ho hp16o .plain rfl rfl rfl (fun w17 g18 ho19 => ?_)
        have hs20 := World.grownBy.size g18
        replace hgo := grown_trans hgo g18
        replace ho := ho19
        refine Sq.nil ?_
        refine Eq.goes (fun h => absurd h (by decide)) ?_
        refine Gq.done (by kernel_rfl) ?_
        refine Eq.end ?_
        refine Eq.next ?_
        refine Cq.region ?_
        refine Sq.move .plain rfl rfl ?_
        refine Sq.add .plain rfl rfl rfl (by omega) ?_
        refine Sq.move .plain rfl rfl ?_
        refine Sq.sub .plain rfl rfl rfl (by omega) ?_
        refine Sq.assign .plain rfl rfl ?_
        refine Sq.assign .plain rfl rfl ?_
        refine Sq.nil ?_
        have e1 := toNat_succ hi.1
        have e2 : (((xs.length : Int) - 1 - i) - 1) = (xs.length : Int) - 1 - (i + 1) := by omega
        have e3 := hr.step (by omega)
        have e4 : ((xs.length : Int) - 1 - i).toNat = xs.length - 1 - i.toNat := by omega
        rw [e2]
        refine Eq.round _ _ ⟨i + 1, _, rfl, by omega, Own.setU2 ho, by rw [e1, e4]; exact e3, hgo, rfl⟩ (by omega) (.cons rfl (.cons rfl (.cons rfl (.nil))))
      obtain ⟨p21, hp22⟩ := Bytes.at (Own.row ho) (i := i) (by omega) (by omega)
      refine Sq.val .plain rfl rfl (Still.at' sl22 hp22 rfl rfl) ?_
      refine Sq.nil ?_
      refine Eq.goes (fun _ => hgo) ?_
      refine Gq.two 7 11 rfl rfl (by kernel_rfl) ?_ ?_
      · refine Sq.val .plain rfl rfl (Still.loadA one5 rfl hp6.1) ?_
        refine Sq.nil ?_
        refine Eq.goes (fun _ => hgo) ?_
        refine Gq.one 11 rfl (by kernel_rfl) ?_
        refine Sq.val .plain rfl rfl (Still.loadA one5 rfl hp22.1) ?_
        refine Sq.nil ?_
        refine Eq.goes (fun _ => hgo) ?_
        obtain ⟨p23, hp24_w2⟩ := Bytes.at (Own.row ho_w2) (i := i) (by omega) (by omega)
        have hp24o := AtO.of ho_w2 hp24_w2
        refine Gq.st 12 rfl (by kernel_rfl) rfl .plain rfl (fun _ _ _ h => h) hgo (fun w' x => Still.at' sl22 hp24_w2 rfl rfl) ?_
        refine Gq.one 13 rfl (by kernel_rfl) ?_
        refine Sq.storeO one5 ho hp24o .plain rfl rfl rfl (fun w25 g26 ho27 => ?_)
        have hs28 := World.grownBy.size g26
        replace hgo := grown_trans hgo g26
        replace ho := ho27
        refine Sq.nil ?_
        refine Eq.goes (fun _ => hgo) ?_
        refine Gq.one 14 rfl (by kernel_rfl) ?_
        obtain ⟨p29, hp30o⟩ := Own.at ho (i := ((xs.length : Int) - 1 - i)) (by omega) (by first | (simp only [List.length_map]; omega) | (simp; omega))
        refine Sq.atO sl22 hp30o .plain rfl rfl rfl ?_
        refine Sq.nil ?_
        refine Eq.goes (fun h => absurd h (by decide)) ?_
        refine Gq.one 15 rfl (by kernel_rfl) ?_
        refine Sq.storeO one5 ho hp30o .plain rfl rfl rfl (fun w31 g32 ho33 => ?_)
        have hs34 := World.grownBy.size g32
        replace hgo := grown_trans hgo g32
        replace ho := ho33
        refine Sq.nil ?_
        refine Eq.goes (fun h => absurd h (by decide)) ?_
        refine Gq.done (by kernel_rfl) ?_
        refine Eq.end ?_
        refine Eq.next ?_
        refine Cq.region ?_
        refine Sq.move .plain rfl rfl ?_
        refine Sq.add .plain rfl rfl rfl (by omega) ?_
        refine Sq.move .plain rfl rfl ?_
        refine Sq.sub .plain rfl rfl rfl (by omega) ?_
        refine Sq.assign .plain rfl rfl ?_
        refine Sq.assign .plain rfl rfl ?_
        refine Sq.nil ?_
        have e1 := toNat_succ hi.1
        have e2 : (((xs.length : Int) - 1 - i) - 1) = (xs.length : Int) - 1 - (i + 1) := by omega
        have e3 := hr.step (by omega)
        have e4 : ((xs.length : Int) - 1 - i).toNat = xs.length - 1 - i.toNat := by omega
        rw [e2]
        refine Eq.round _ _ ⟨i + 1, _, rfl, by omega, Own.setU2 ho, by rw [e1, e4]; exact e3, hgo, rfl⟩ (by omega) (.cons rfl (.cons rfl (.cons rfl (.nil))))
      refine Sq.val .plain rfl rfl (Still.loadA one5 rfl hp22.1) ?_
      refine Sq.nil ?_
      refine Eq.goes (fun _ => hgo) ?_
      refine Gq.one 7 rfl (by kernel_rfl) ?_
      refine Sq.val .plain rfl rfl (Still.loadA one5 rfl hp6.1) ?_
      refine Sq.nil ?_
      refine Eq.goes (fun _ => hgo) ?_
      obtain ⟨p35, hp36_w2⟩ := Bytes.at (Own.row ho_w2) (i := i) (by omega) (by omega)
      have hp36o := AtO.of ho_w2 hp36_w2
      refine Gq.st 12 rfl (by kernel_rfl) rfl .plain rfl (fun _ _ _ h => h) hgo (fun w' x => Still.at' sl22 hp36_w2 rfl rfl) ?_
      refine Gq.one 13 rfl (by kernel_rfl) ?_
      refine Sq.storeO one5 ho hp36o .plain rfl rfl rfl (fun w37 g38 ho39 => ?_)
      have hs40 := World.grownBy.size g38
      replace hgo := grown_trans hgo g38
      replace ho := ho39
      refine Sq.nil ?_
      refine Eq.goes (fun _ => hgo) ?_
      refine Gq.one 14 rfl (by kernel_rfl) ?_
      obtain ⟨p41, hp42o⟩ := Own.at ho (i := ((xs.length : Int) - 1 - i)) (by omega) (by first | (simp only [List.length_map]; omega) | (simp; omega))
      refine Sq.atO sl22 hp42o .plain rfl rfl rfl ?_
      refine Sq.nil ?_
      refine Eq.goes (fun h => absurd h (by decide)) ?_
      refine Gq.one 15 rfl (by kernel_rfl) ?_
      refine Sq.storeO one5 ho hp42o .plain rfl rfl rfl (fun w43 g44 ho45 => ?_)
      have hs46 := World.grownBy.size g44
      replace hgo := grown_trans hgo g44
      replace ho := ho45
      refine Sq.nil ?_
      refine Eq.goes (fun h => absurd h (by decide)) ?_
      refine Gq.done (by kernel_rfl) ?_
      refine Eq.end ?_
      refine Eq.next ?_
      refine Cq.region ?_
      refine Sq.move .plain rfl rfl ?_
      refine Sq.add .plain rfl rfl rfl (by omega) ?_
      refine Sq.move .plain rfl rfl ?_
      refine Sq.sub .plain rfl rfl rfl (by omega) ?_
      refine Sq.assign .plain rfl rfl ?_
      refine Sq.assign .plain rfl rfl ?_
      refine Sq.nil ?_
      have e1 := toNat_succ hi.1
      have e2 : (((xs.length : Int) - 1 - i) - 1) = (xs.length : Int) - 1 - (i + 1) := by omega
      have e3 := hr.step (by omega)
      have e4 : ((xs.length : Int) - 1 - i).toNat = xs.length - 1 - i.toNat := by omega
      rw [e2]
      refine Eq.round _ _ ⟨i + 1, _, rfl, by omega, Own.setU2 ho, by rw [e1, e4]; exact e3, hgo, rfl⟩ (by omega) (.cons rfl (.cons rfl (.cons rfl (.nil))))
    obtain ⟨p47, hp48⟩ := Bytes.at (Own.row ho) (i := i) (by omega) (by omega)
    refine Sq.val .plain rfl rfl (Still.at' sl22 hp48 rfl rfl) ?_
    refine Sq.nil ?_
    refine Eq.goes (fun _ => hgo) ?_
    refine Gq.two 6 11 rfl rfl (by kernel_rfl) ?_ ?_
    · obtain ⟨p49, hp50⟩ := Bytes.at (Own.row ho) (i := ((xs.length : Int) - 1 - i)) (by omega) (by omega)
      refine Sq.val .plain rfl rfl (Still.at' sl22 hp50 rfl rfl) ?_
      refine Sq.nil ?_
      refine Eq.goes (fun _ => hgo) ?_
      refine Gq.two 7 11 rfl rfl (by kernel_rfl) ?_ ?_
      · refine Sq.val .plain rfl rfl (Still.loadA one5 rfl hp50.1) ?_
        refine Sq.nil ?_
        refine Eq.goes (fun _ => hgo) ?_
        refine Gq.one 11 rfl (by kernel_rfl) ?_
        refine Sq.val .plain rfl rfl (Still.loadA one5 rfl hp48.1) ?_
        refine Sq.nil ?_
        refine Eq.goes (fun _ => hgo) ?_
        obtain ⟨p51, hp52_w2⟩ := Bytes.at (Own.row ho_w2) (i := i) (by omega) (by omega)
        have hp52o := AtO.of ho_w2 hp52_w2
        refine Gq.st 12 rfl (by kernel_rfl) rfl .plain rfl (fun _ _ _ h => h) hgo (fun w' x => Still.at' sl22 hp52_w2 rfl rfl) ?_
        refine Gq.one 13 rfl (by kernel_rfl) ?_
        refine Sq.storeO one5 ho hp52o .plain rfl rfl rfl (fun w53 g54 ho55 => ?_)
        have hs56 := World.grownBy.size g54
        replace hgo := grown_trans hgo g54
        replace ho := ho55
        refine Sq.nil ?_
        refine Eq.goes (fun _ => hgo) ?_
        refine Gq.one 14 rfl (by kernel_rfl) ?_
        obtain ⟨p57, hp58o⟩ := Own.at ho (i := ((xs.length : Int) - 1 - i)) (by omega) (by first | (simp only [List.length_map]; omega) | (simp; omega))
        refine Sq.atO sl22 hp58o .plain rfl rfl rfl ?_
        refine Sq.nil ?_
        refine Eq.goes (fun h => absurd h (by decide)) ?_
        refine Gq.one 15 rfl (by kernel_rfl) ?_
        refine Sq.storeO one5 ho hp58o .plain rfl rfl rfl (fun w59 g60 ho61 => ?_)
        have hs62 := World.grownBy.size g60
        replace hgo := grown_trans hgo g60
        replace ho := ho61
        refine Sq.nil ?_
        refine Eq.goes (fun h => absurd h (by decide)) ?_
        refine Gq.done (by kernel_rfl) ?_
        refine Eq.end ?_
        refine Eq.next ?_
        refine Cq.region ?_
        refine Sq.move .plain rfl rfl ?_
        refine Sq.add .plain rfl rfl rfl (by omega) ?_
        refine Sq.move .plain rfl rfl ?_
        refine Sq.sub .plain rfl rfl rfl (by omega) ?_
        refine Sq.assign .plain rfl rfl ?_
        refine Sq.assign .plain rfl rfl ?_
        refine Sq.nil ?_
        have e1 := toNat_succ hi.1
        have e2 : (((xs.length : Int) - 1 - i) - 1) = (xs.length : Int) - 1 - (i + 1) := by omega
        have e3 := hr.step (by omega)
        have e4 : ((xs.length : Int) - 1 - i).toNat = xs.length - 1 - i.toNat := by omega
        rw [e2]
        refine Eq.round _ _ ⟨i + 1, _, rfl, by omega, Own.setU2 ho, by rw [e1, e4]; exact e3, hgo, rfl⟩ (by omega) (.cons rfl (.cons rfl (.cons rfl (.nil))))
      refine Sq.val .plain rfl rfl (Still.loadA one5 rfl hp48.1) ?_
      refine Sq.nil ?_
      refine Eq.goes (fun _ => hgo) ?_
      refine Gq.one 7 rfl (by kernel_rfl) ?_
      refine Sq.val .plain rfl rfl (Still.loadA one5 rfl hp50.1) ?_
      refine Sq.nil ?_
      refine Eq.goes (fun _ => hgo) ?_
      obtain ⟨p63, hp64_w2⟩ := Bytes.at (Own.row ho_w2) (i := i) (by omega) (by omega)
      have hp64o := AtO.of ho_w2 hp64_w2
      refine Gq.st 12 rfl (by kernel_rfl) rfl .plain rfl (fun _ _ _ h => h) hgo (fun w' x => Still.at' sl22 hp64_w2 rfl rfl) ?_
      refine Gq.one 13 rfl (by kernel_rfl) ?_
      refine Sq.storeO one5 ho hp64o .plain rfl rfl rfl (fun w65 g66 ho67 => ?_)
      have hs68 := World.grownBy.size g66
      replace hgo := grown_trans hgo g66
      replace ho := ho67
      refine Sq.nil ?_
      refine Eq.goes (fun _ => hgo) ?_
      refine Gq.one 14 rfl (by kernel_rfl) ?_
      obtain ⟨p69, hp70o⟩ := Own.at ho (i := ((xs.length : Int) - 1 - i)) (by omega) (by first | (simp only [List.length_map]; omega) | (simp; omega))
      refine Sq.atO sl22 hp70o .plain rfl rfl rfl ?_
      refine Sq.nil ?_
      refine Eq.goes (fun h => absurd h (by decide)) ?_
      refine Gq.one 15 rfl (by kernel_rfl) ?_
      refine Sq.storeO one5 ho hp70o .plain rfl rfl rfl (fun w71 g72 ho73 => ?_)
      have hs74 := World.grownBy.size g72
      replace hgo := grown_trans hgo g72
      replace ho := ho73
      refine Sq.nil ?_
      refine Eq.goes (fun h => absurd h (by decide)) ?_
      refine Gq.done (by kernel_rfl) ?_
      refine Eq.end ?_
      refine Eq.next ?_
      refine Cq.region ?_
      refine Sq.move .plain rfl rfl ?_
      refine Sq.add .plain rfl rfl rfl (by omega) ?_
      refine Sq.move .plain rfl rfl ?_
      refine Sq.sub .plain rfl rfl rfl (by omega) ?_
      refine Sq.assign .plain rfl rfl ?_
      refine Sq.assign .plain rfl rfl ?_
      refine Sq.nil ?_
      have e1 := toNat_succ hi.1
      have e2 : (((xs.length : Int) - 1 - i) - 1) = (xs.length : Int) - 1 - (i + 1) := by omega
      have e3 := hr.step (by omega)
      have e4 : ((xs.length : Int) - 1 - i).toNat = xs.length - 1 - i.toNat := by omega
      rw [e2]
      refine Eq.round _ _ ⟨i + 1, _, rfl, by omega, Own.setU2 ho, by rw [e1, e4]; exact e3, hgo, rfl⟩ (by omega) (.cons rfl (.cons rfl (.cons rfl (.nil))))
    refine Sq.val .plain rfl rfl (Still.loadA one5 rfl hp48.1) ?_
    refine Sq.nil ?_
    refine Eq.goes (fun _ => hgo) ?_
    refine Gq.one 6 rfl (by kernel_rfl) ?_
    obtain ⟨p75, hp76⟩ := Bytes.at (Own.row ho) (i := ((xs.length : Int) - 1 - i)) (by omega) (by omega)
    refine Sq.val .plain rfl rfl (Still.at' sl22 hp76 rfl rfl) ?_
    refine Sq.nil ?_
    refine Eq.goes (fun _ => hgo) ?_
    refine Gq.one 7 rfl (by kernel_rfl) ?_
    refine Sq.val .plain rfl rfl (Still.loadA one5 rfl hp76.1) ?_
    refine Sq.nil ?_
    refine Eq.goes (fun _ => hgo) ?_
    obtain ⟨p77, hp78_w2⟩ := Bytes.at (Own.row ho_w2) (i := i) (by omega) (by omega)
    have hp78o := AtO.of ho_w2 hp78_w2
    refine Gq.st 12 rfl (by kernel_rfl) rfl .plain rfl (fun _ _ _ h => h) hgo (fun w' x => Still.at' sl22 hp78_w2 rfl rfl) ?_
    refine Gq.one 13 rfl (by kernel_rfl) ?_
    refine Sq.storeO one5 ho hp78o .plain rfl rfl rfl (fun w79 g80 ho81 => ?_)
    have hs82 := World.grownBy.size g80
    replace hgo := grown_trans hgo g80
    replace ho := ho81
    refine Sq.nil ?_
    refine Eq.goes (fun _ => hgo) ?_
    refine Gq.one 14 rfl (by kernel_rfl) ?_
    obtain ⟨p83, hp84o⟩ := Own.at ho (i := ((xs.length : Int) - 1 - i)) (by omega) (by first | (simp only [List.length_map]; omega) | (simp; omega))
    refine Sq.atO sl22 hp84o .plain rfl rfl rfl ?_
    refine Sq.nil ?_
    refine Eq.goes (fun h => absurd h (by decide)) ?_
    refine Gq.one 15 rfl (by kernel_rfl) ?_
    refine Sq.storeO one5 ho hp84o .plain rfl rfl rfl (fun w85 g86 ho87 => ?_)
    have hs88 := World.grownBy.size g86
    replace hgo := grown_trans hgo g86
    replace ho := ho87
    refine Sq.nil ?_
    refine Eq.goes (fun h => absurd h (by decide)) ?_
    refine Gq.done (by kernel_rfl) ?_
    refine Eq.end ?_
    refine Eq.next ?_
    refine Cq.region ?_
    refine Sq.move .plain rfl rfl ?_
    refine Sq.add .plain rfl rfl rfl (by omega) ?_
    refine Sq.move .plain rfl rfl ?_
    refine Sq.sub .plain rfl rfl rfl (by omega) ?_
    refine Sq.assign .plain rfl rfl ?_
    refine Sq.assign .plain rfl rfl ?_
    refine Sq.nil ?_
    have e1 := toNat_succ hi.1
    have e2 : (((xs.length : Int) - 1 - i) - 1) = (xs.length : Int) - 1 - (i + 1) := by omega
    have e3 := hr.step (by omega)
    have e4 : ((xs.length : Int) - 1 - i).toNat = xs.length - 1 - i.toNat := by omega
    rw [e2]
    refine Eq.round _ _ ⟨i + 1, _, rfl, by omega, Own.setU2 ho, by rw [e1, e4]; exact e3, hgo, rfl⟩ (by omega) (.cons rfl (.cons rfl (.cons rfl (.nil))))
  refine Sq.nil ?_
  refine Eq.next ?_
  refine Cq.els rfl ?_
  refine Cq.exit ?_
  refine Eq.past ?_
  refine Eq.past ?_
  refine Eq.hit ?_
  refine Eq.fall0 rfl ?_
  exact ⟨rfl, by rw [← hr.done (by omega)]; exact ho, hgo⟩
end Go.Proofs.YtoboklelbbgcnaaDoor
set_option linter.unusedSimpArgs false
set_option linter.unusedVariables false
namespace Go.Proofs.YtoboklelbbgcnaaDoor
open Go.RowKit
set_option maxRecDepth 100000 in
theorem pathWord_c (w0 : World) (B : Nat) (tv : Value) (rs : List (Int × Int × Value)) (f : Int → Int → Int) (s : Int) (ws : List (List Int)) (hW : Wid w0 B 70 3 tv (rows3 rs)) (hSt : Trail w0 3 f s ws rs) (wd : List Int) (hwd : ws[ws.length - 1]? = some wd) (hwl : wd.length ≤ 1000) (hsl : ws.length ≤ 1000) : Ret Tryd.prog 46 #[tv] w0 (fun v w => v = .string (txt wd) ∧ Ext w0 w) := by
  have E := Ext.refl w0
  have hwn := (List.getElem?_eq_some_iff.1 hwd).1
  have hrl := hSt.len
  refine Ret.of (args := [tv]) Tryd.func46 rfl rfl rfl ?_
  rintro _ rfl
  show Cq _ _ _ _ [(0, tv)] _
  refine Cq.seq ?_
  refine Cq.region ?_
  refine Sq.assign .plain rfl rfl ?_
  refine Sq.nil ?_
  refine Eq.next ?_
  refine Cq.seq ?_
  refine Cq.region ?_
  refine Sq.assign .plain rfl rfl ?_
  refine Sq.nil ?_
  refine Eq.next ?_
  refine Cq.seq ?_
  refine Cq.seq ?_
  refine Cq.region ?_
  refine Sq.move .plain rfl rfl ?_
  refine Sq.lenWid hW .plain rfl und68 rfl ?_
  rw [rows3_length]
  refine Sq.sub .plain rfl rfl rfl (by omega) ?_
  refine Sq.assign .plain rfl rfl ?_
  refine Sq.nil ?_
  refine Eq.next ?_
  refine Cq.block ?_
  refine Cq.loop (fun nn w ls => ∃ (j : Int), ∃ (u : List Int), ∃ (t : List Int), ∃ (ov : Value), ls = [(0, tv), (3, ov), (4, Value.int .i64 j)] ∧ (0 ≤ j) ∧ ws[j.toNat]? = some u ∧ wd = u ++ t ∧ Own w w0.heap.size 5 ov ((txb t.reverse).map fun b => Value.int .u8 (b.toNat : Int)) ∧ Ext w0 w ∧ Wid w B 70 3 tv (rows3 rs) ∧ nn = u.length) _ _ ⟨(List.length rs : Int) - 1, wd, [], _, rfl, by omega, by rw [show ((List.length rs : Int) - 1).toNat = ws.length - 1 by omega]; exact hwd, by simp, Own.nil _ _ _, E, hW, rfl⟩ (.cons rfl (.cons rfl (.cons rfl (.nil)))) ?_
  rintro nn wl1 ls ⟨j, u, t, ov, rfl, hj, hu, hut, ho, E, hW, rfl⟩
  have hs1 := Below.size E
  obtain ⟨p, l, fv, hr, hlk, hfv⟩ := hSt.row _ _ hu
  have hlt := (List.getElem?_eq_some_iff.1 hr).1
  have htl : t.length ≤ 1000 := by rw [hut, List.length_append] at hwl; omega
  have htx : (txb t.reverse).length = t.length := by simp [txb]
  refine Cq.seq ?_
  refine Cq.seq ?_
  refine Cq.region ?_
  refine Sq.move .plain rfl rfl ?_
  refine Sq.move .plain rfl rfl ?_
  obtain ⟨gq2, kq2, hvq2, hlq2, haq2, hbq2, hcq2⟩ := Wid.triple hW (i := j) (by omega) hr
  refine Sq.val .plain rfl rfl (Still.ixV slw68 hvq2 rfl rfl (by omega)) ?_
  refine Sq.fieldAddr fld70_0 .plain rfl rfl ?_
  refine Sq.val .plain rfl rfl (Still.load one3 rfl haq2) ?_
  refine Sq.geq .plain rfl rfl rfl ?_
  refine Sq.part (fun hp => ?_) (fun hp => ?_)
  · refine Sq.nil ?_
    refine Eq.next ?_
    refine Cq.thn rfl ?_
    refine Cq.skip ?_
    refine Eq.next ?_
    refine Cq.seq ?_
    refine Cq.block ?_
    refine Cq.region ?_
    obtain ⟨u2, hu2, hp0, hu3⟩ : ∃ u2, u = u2 ++ [l] ∧ 0 ≤ p ∧ ws[p.toNat]? = some u2 := hlk.resolve_left (fun h => by have := h.2; omega)
    have hll := hSt.lets u (List.mem_of_getElem? hu) l (by rw [hu2]; simp)
    refine Sq.move .plain rfl rfl ?_
    refine Sq.move .plain rfl rfl ?_
    refine Sq.move .plain rfl rfl ?_
    obtain ⟨gq3, kq3, hvq3, hlq3, haq3, hbq3, hcq3⟩ := Wid.triple hW (i := j) (by omega) hr
    refine Sq.val .plain rfl rfl (Still.ixV slw68 hvq3 rfl rfl (by omega)) ?_
    refine Sq.fieldAddr fld70_1 .plain rfl rfl ?_
    refine Sq.val .plain rfl rfl (Still.load one3 rfl hbq3) ?_
    refine Sq.call fn54 .plain rfl rfl (letterByte_c l (by omega) _) ?_
    rintro _ _ ⟨rfl, rfl⟩
    refine Sq.app1 sl22 ho (by omega) (by first | omega | (rw [List.length_map]; omega)) .plain rfl rfl rfl rfl rfl rfl rfl (fun v4 w5 ho7 g6 _ => ?_)
    have hs8 := g6.size
    replace E := E.owned ho g6 (by omega)
    replace hW := hW.owned ho g6 (by decide)
    refine Sq.assign .plain rfl rfl ?_
    refine Sq.nil ?_
    refine Eq.end ?_
    refine Eq.next ?_
    refine Cq.region ?_
    refine Sq.move .plain rfl rfl ?_
    refine Sq.move .plain rfl rfl ?_
    obtain ⟨gq9, kq9, hvq9, hlq9, haq9, hbq9, hcq9⟩ := Wid.triple hW (i := j) (by omega) hr
    refine Sq.val .plain rfl rfl (Still.ixV slw68 hvq9 rfl rfl (by omega)) ?_
    refine Sq.fieldAddr fld70_0 .plain rfl rfl ?_
    refine Sq.val .plain rfl rfl (Still.load one3 rfl haq9) ?_
    refine Sq.assign .plain rfl rfl ?_
    refine Sq.nil ?_
    refine Eq.round _ _ ⟨p, u2, l :: t, _, rfl, hp0, hu3, by rw [hut, hu2]; simp, Own.snocT ho7 hll, E, hW, rfl⟩ (by rw [hu2, List.length_append]; simp) (.cons rfl (.cons rfl (.cons rfl (.nil))))
  refine Sq.nil ?_
  refine Eq.next ?_
  refine Cq.els rfl ?_
  refine Cq.exit ?_
  refine Eq.past ?_
  refine Eq.past ?_
  refine Eq.hit ?_
  refine Eq.next ?_
  refine Cq.seq ?_
  refine Cq.region ?_
  refine Sq.move .plain rfl rfl ?_
  refine Sq.call fn55 .plain rfl rfl (reverse_c _ _ _ _ ho (by omega)) ?_
  rintro _ w10 ⟨rfl, ho12, g11⟩
  have hs13 := World.grownBy.size g11
  replace E := E.owned ho g11 (by omega)
  replace ho := ho12
  refine Sq.nil ?_
  refine Eq.next ?_
  refine Cq.seq ?_
  refine Cq.region ?_
  refine Sq.move .plain rfl rfl ?_
  refine Sq.val .plain rfl rfl (Still.text und22 und8_22 und9 (Own.row ho) rfl) ?_
  refine Sq.assign .plain rfl rfl ?_
  refine Sq.nil ?_
  refine Eq.next ?_
  refine Cq.ret ?_
  refine Eq.ret1 rfl rfl ?_
  rcases hlk with ⟨rfl, _⟩ | ⟨_, _, h0, _⟩
  · exact ⟨by rw [txb_rev, hut]; rfl, E⟩
  exact absurd h0 (by omega)
end Go.Proofs.YtoboklelbbgcnaaDoor
