/-
  The texts of this proof, joined (wip/merge.py): the calculus of slots, plain mathematics, walks.
-/
import Derived.Test.YtoboklelbbgcnaaGc3
set_option linter.unusedSimpArgs false
set_option linter.unusedVariables false
namespace Go.Proofs.Ytoboklelbbgcnaa
open Go.RowKit
section
variable {w w' : World} {B n : Nat} {e : TypeId} {v : Value} {rows : List (List Value)}
theorem Wid.rowAt (h : Wid w B e n v rows) {i : Int} (h0 : 0 ≤ i) {r : List Value} (hr : rows[i.toNat]? = some r) : ∃ g c, v = .slice (some ⟨g, 0, none⟩) rows.length c ∧ i.toNat < rows.length := by
  have hi := (List.getElem?_eq_some_iff.1 hr).1
  obtain ⟨g, c, hv, _⟩ := h.at h0 (by omega)
  exact ⟨g, c, hv, hi⟩
theorem Wid.cellR {g c : Nat} (hv : v = .slice (some ⟨g, 0, none⟩) rows.length c) (h : Wid w B e n v rows) {i : Int} (h0 : 0 ≤ i) {r : List Value} (hr : rows[i.toNat]? = some r) {j : Nat} (hj : j < n) : w.cell? ⟨g, i.toNat * n + j, none⟩ = r[j]? := by
  have hi := (List.getElem?_eq_some_iff.1 hr).1
  obtain ⟨g', c', hv', _, _, hc⟩ := h.at h0 (by omega)
  rw [hv] at hv'
  injection hv' with hv' _ _
  injection hv' with hv'
  injection hv' with hv' _ _
  subst hv'
  rw [hc j hj, List.getD_eq_getElem?_getD, hr]
  rfl
end
theorem Still.loadAggW {P : Program} {N : Nat} {l : Slots} {w : World} {d : Nat} {ty : TypeId} {pos : String} {after : Array Edge} {g : Option (Nat × Bool)} {t : TypeId} {b o n : Nat} {x : Operand} {cs : List Value} (h1 : Agg P t n) (hx : ev l x = some (.pointer (some ⟨b, o, none⟩))) (hn : cs.length = n) (hc : ∀ j, j < n → w.cell? ⟨b, o + j, none⟩ = cs[j]?) : Still P N l ⟨some d, .load t x, ty, pos, after, g⟩ (.agg cs.toArray) w := fun a ha => by
  have hl : (loadCells ⟨b, o, none⟩ n).run P w = .ok cs.toArray w := by
    rw [← hn]
    refine run_loadCells_list _ _ _ fun j v hv => ?_
    rw [addr_add]
    have hj := (List.getElem?_eq_some_iff.1 hv).1
    rw [hc j (by omega)]
    simpa using hv
  simp [execOp, ha.ev hx, Instr.loadAt, Instr.sureAddr, loadVar, h1.agg, h1.size, hl]
def NetA (w : World) (AU SI I Bo : TypeId) (av : Value) (aas : List A) : Prop :=
  ∃ B rows, Wid w B AU 3 av rows ∧ rows.length = aas.length ∧ ∀ (j : Nat) (a : A), aas[j]? = some a → ∃ nx ac, rows[j]? = some [.int .i64 a.al, nx, ac] ∧ Rows w SI I nx a.next ∧ Bools w Bo ac a.acc
theorem NetA.ext {w w' : World} {AU SI I Bo : TypeId} {av : Value} {aas : List A} (h : NetA w AU SI I Bo av aas) (x : Ext w w') : NetA w' AU SI I Bo av aas := by
  obtain ⟨B, rows, h1, h2, h3⟩ := h
  refine ⟨B, rows, h1.ext x, h2, fun j a ha => ?_⟩
  obtain ⟨nx, ac, g1, g2, g3⟩ := h3 j a ha
  exact ⟨nx, ac, g1, g2.ext x, g3.ext x⟩
theorem NetA.one {w : World} {AU SI I Bo : TypeId} {av : Value} {aas : List A} (h : NetA w AU SI I Bo av aas) : av.oneCell' = true := by
  obtain ⟨B, rows, h1, _⟩ := h
  exact h1.one
def Cell1 (w : World) (p : Addr) (u : Value) : Prop := w.cell? p = some u
theorem Cell1.ext {w w' : World} {p : Addr} {u : Value} (h : Cell1 w p u) (x : Ext w w') : Cell1 w' p u := by
  have hb := World.block_lt_of_cell? w p h
  unfold Cell1 at *
  rw [← h]
  unfold World.cell?
  rw [x.block p.block hb]
theorem at_getD {α : Type} {l : List α} {k : Nat} {d : α} (h : k < l.length) : l[k]? = some (l.getD k d) := by
  rw [List.getD_eq_getElem?_getD, List.getElem?_eq_getElem h]; rfl
def Read3 (w : World) (e3 e2 e1 : TypeId) (v : Value) (xsss : List (List (List Int))) : Prop := ∃ rs, Row w e3 v rs ∧ rs.length = xsss.length ∧ ∀ (i : Nat) (r : Value), rs[i]? = some r → Rows w e2 e1 r (xsss.getD i [])
def RowU (w : World) (U : Nat) (e : TypeId) (v : Value) (vs : List Value) : Prop := Row w e v vs ∧ ∀ k, v.ownBlock = some k → k < U
def RowsU (w : World) (U : Nat) (e e' : TypeId) (v : Value) (xss : List (List Int)) : Prop := ∃ rs, RowU w U e v rs ∧ rs.length = xss.length ∧ ∀ (i : Nat) (r : Value), rs[i]? = some r → RowU w U e' r ((xss.getD i []).map (Value.int .i64))
def Own3 (w : World) (B U : Nat) (e3 e2 e1 : TypeId) (v : Value) (xsss : List (List (List Int))) : Prop := ∃ rs, Own w B e3 v rs ∧ rs.length = xsss.length ∧ ∀ (i : Nat) (r : Value), rs[i]? = some r → RowsU w U e2 e1 r (xsss.getD i [])
section
variable {w w' : World} {B U : Nat} {e e' e1 e2 e3 : TypeId} {v : Value} {vs : List Value} {xss : List (List Int)} {xsss : List (List (List Int))}
theorem RowU.ext (h : RowU w U e v vs) (x : Ext w w') : RowU w' U e v vs := ⟨h.1.ext x, h.2⟩
theorem RowU.apart {g : Nat} (h : RowU w U e v vs) (hg : w.grownBy w' (some g)) (hU : U ≤ g) : RowU w' U e v vs := by
  refine ⟨?_, h.2⟩
  rcases h.1 with h1 | ⟨b, o, c, cur, fr, hv, hb, hx⟩
  · exact .inl h1
  · refine .inr ⟨b, o, c, cur, fr, hv, ?_, hx⟩
    have hlt := h.2 b (by rw [hv]; rfl)
    rw [hg.block b (lt_of_block hb) (fun h => by injection h with h; omega)]
    exact hb
theorem RowU.other {B' : Nat} {t : TypeId} {u : Value} {us : List Value} (h : RowU w U e v vs) (ho : Own w B' t u us) (hg : w.grownBy w' u.ownBlock) (hne : t ≠ e) : RowU w' U e v vs := ⟨h.1.owned ho hg hne, h.2⟩
theorem RowsU.ext (h : RowsU w U e e' v xss) (x : Ext w w') : RowsU w' U e e' v xss := by
  obtain ⟨rs, h1, h2, h3⟩ := h
  exact ⟨rs, h1.ext x, h2, fun i r hr => (h3 i r hr).ext x⟩
theorem RowsU.apart {g : Nat} (h : RowsU w U e e' v xss) (hg : w.grownBy w' (some g)) (hU : U ≤ g) : RowsU w' U e e' v xss := by
  obtain ⟨rs, h1, h2, h3⟩ := h
  exact ⟨rs, h1.apart hg hU, h2, fun i r hr => (h3 i r hr).apart hg hU⟩
theorem RowsU.other {B' : Nat} {t : TypeId} {u : Value} {us : List Value} (h : RowsU w U e e' v xss) (ho : Own w B' t u us) (hg : w.grownBy w' u.ownBlock) (hne : t ≠ e) (hne' : t ≠ e') : RowsU w' U e e' v xss := by
  obtain ⟨rs, h1, h2, h3⟩ := h
  exact ⟨rs, h1.other ho hg hne, h2, fun i r hr => (h3 i r hr).other ho hg hne'⟩
theorem RowsU.up {U' : Nat} (h : RowsU w U e e' v xss) (hU : U ≤ U') : RowsU w U' e e' v xss := by
  obtain ⟨rs, h1, h2, h3⟩ := h
  exact ⟨rs, ⟨h1.1, fun k hk => Nat.lt_of_lt_of_le (h1.2 k hk) hU⟩, h2, fun i r hr => ⟨(h3 i r hr).1, fun k hk => Nat.lt_of_lt_of_le ((h3 i r hr).2 k hk) hU⟩⟩
theorem RowsU.rows (h : RowsU w U e e' v xss) : Rows w e e' v xss := by
  obtain ⟨rs, h1, h2, h3⟩ := h
  exact ⟨rs, h1.1, h2, fun i r hr => (h3 i r hr).1⟩
theorem RowsU.of (h : OwnRows w B w.heap.size e e' v xss) : RowsU w w.heap.size e e' v xss := by
  obtain ⟨rs, h1, h2, h3, h4⟩ := h
  exact ⟨rs, ⟨h1.row, fun k hk => (h1.lt k hk).2⟩, h2, fun i r hr => ⟨(h3 i r hr).1.row, (h3 i r hr).2⟩⟩
theorem Own3.nil (w : World) (B U : Nat) (e3 e2 e1 : TypeId) {v : Value} (h : Own w B e3 v []) : Own3 w B U e3 e2 e1 v [] := ⟨[], h, rfl, by simp⟩
theorem Own3.now (h : Own3 w B U e3 e2 e1 v xsss) (hU : U ≤ w.heap.size := by omega) : Own3 w B w.heap.size e3 e2 e1 v xsss := by
  obtain ⟨rs, h1, h2, h3⟩ := h
  exact ⟨rs, h1, h2, fun i r hr => (h3 i r hr).up hU⟩
theorem OwnRows.nil' (w : World) (B U : Nat) (e e' : TypeId) {v : Value} (h : Own w B e v []) : OwnRows w B U e e' v [] := ⟨[], h, rfl, by simp, by simp⟩
theorem Own3.ext (h : Own3 w B U e3 e2 e1 v xsss) (x : Ext w w') : Own3 w' B U e3 e2 e1 v xsss := by
  obtain ⟨rs, h1, h2, h3⟩ := h
  exact ⟨rs, h1.ext x, h2, fun i r hr => (h3 i r hr).ext x⟩
theorem Own3.apart {B' : Nat} {t : TypeId} {u : Value} {us : List Value} (h : Own3 w B U e3 e2 e1 v xsss) (ho : Own w B' t u us) (hg : w.grownBy w' u.ownBlock) (hB : U ≤ B') (hne : t ≠ e3) : Own3 w' B U e3 e2 e1 v xsss := by
  obtain ⟨rs, h1, h2, h3⟩ := h
  refine ⟨rs, h1.owned ho hg hne, h2, fun i r hr => ?_⟩
  rcases ho.cases with ⟨rfl, rfl⟩ | ⟨g, cap, cs, rfl, hg', hb, _⟩
  · exact (h3 i r hr).ext (Ext.of_grown hg)
  · exact (h3 i r hr).apart (g := g) hg (Nat.le_trans hB hg')
theorem Own3.read (h : Own3 w B U e3 e2 e1 v xsss) : Read3 w e3 e2 e1 v xsss := by
  obtain ⟨rs, h1, h2, h3⟩ := h
  exact ⟨rs, h1.row, h2, fun i r hr => (h3 i r hr).rows⟩
theorem Own3.open (h : Own3 w B U e3 e2 e1 v xsss) (hne : e3 ≠ e2) (hne' : e3 ≠ e1) : ∃ rs, Own w B e3 v rs ∧ rs.length = xsss.length ∧
    ∀ r xss w1 v' w', Ext w w1 → RowsU w1 w1.heap.size e2 e1 r xss → U ≤ w1.heap.size → Own w' B e3 v' (rs ++ [r]) → w1.grownBy w' v.ownBlock → Own3 w' B w'.heap.size e3 e2 e1 v' (xsss ++ [xss]) := by
  obtain ⟨rs, h1, h2, h3⟩ := h
  refine ⟨rs, h1, h2, fun r xss w1 v' w' x hr hU hv hg => ?_⟩
  have hv1 := h1.ext x
  have hsz := World.grownBy.size hg
  refine ⟨rs ++ [r], hv, by simp [h2], fun i q hq => ?_⟩
  rcases Nat.lt_or_ge i rs.length with hi | hi
  · rw [List.getElem?_append_left hi] at hq
    have e4 : (xsss ++ [xss]).getD i [] = xsss.getD i [] := by
      rw [List.getD_eq_getElem?_getD, List.getElem?_append_left (by omega), ← List.getD_eq_getElem?_getD]
    rw [e4]
    exact (((h3 i q hq).ext x).other hv1 hg hne hne').up (by omega)
  · have hi2 := (List.getElem?_eq_some_iff.1 hq).1
    rw [List.length_append, List.length_singleton] at hi2
    obtain rfl : i = rs.length := by omega
    rw [List.getElem?_append_right (Nat.le_refl _), Nat.sub_self] at hq
    have hq' : r = q := by simpa using hq
    subst hq'
    have e4 : (xsss ++ [xss]).getD rs.length [] = xss := by
      rw [h2, List.getD_eq_getElem?_getD, List.getElem?_append_right (Nat.le_refl _), Nat.sub_self]; rfl
    rw [e4]
    exact (hr.other hv1 hg hne hne').up hsz
theorem Read3.ext (h : Read3 w e3 e2 e1 v xsss) (x : Ext w w') : Read3 w' e3 e2 e1 v xsss := by
  obtain ⟨rs, h1, h2, h3⟩ := h
  exact ⟨rs, h1.ext x, h2, fun i r hr => (h3 i r hr).ext x⟩
theorem Read3.at (h : Read3 w e3 e2 e1 v xsss) {i : Int} (hi : 0 ≤ i) (hlt : i.toNat < xsss.length) : ∃ p r, At w e3 v i p r ∧ Rows w e2 e1 r (xsss.getD i.toNat []) := by
  obtain ⟨rs, h1, h2, h3⟩ := h
  have hl : i.toNat < rs.length := by omega
  obtain ⟨p, hp⟩ := h1.at hi hl
  exact ⟨p, rs[i.toNat], hp, h3 _ _ (List.getElem?_eq_getElem hl)⟩
end
def szs (aas : List A) : List Int := aas.map fun a => (a.next.length : Int)
def prodFrom (ss : List Int) (i : Nat) : Int := (ss.drop i).foldr (· * ·) 1
def decL (ss : List Int) (q : Int) : List Int := (List.range ss.length).map fun i => q / prodFrom ss (i + 1) % ss.getD i 0
def decTo (ss : List Int) (q : Int) (m : Nat) : List Int := (List.range ss.length).map fun i => if i < m then 0 else q / prodFrom ss (i + 1) % ss.getD i 0
def encTo (ss st : List Int) : Nat → Int
  | 0 => 0
  | k + 1 => encTo ss st k * ss.getD k 0 + st.getD k 0
def goL (aas : List A) (st : List Int) (x : Int) : List Int := (List.range aas.length).map fun i => goA (aas.getD i zeroA) (st.getD i 0) x
def fN (aas : List A) (q x : Int) : Int := encTo (szs aas) (goL aas (decL (szs aas) q) x) aas.length
def foundN (kd gl : Int) (aas : List A) (st : List Int) : Bool :=
  if kd = 0 then accA (aas.getD 0 zeroA) (st.getD 0 0) else if kd = 1 then accA (aas.getD 0 zeroA) (st.getD 0 0) != accA (aas.getD 1 zeroA) (st.getD 1 0)
  else if kd = 2 then accA (aas.getD 0 zeroA) (st.getD 0 0) && !accA (aas.getD 1 zeroA) (st.getD 1 0) else decide (st.getD 0 0 = gl)
def NetOk (aas : List A) : Prop := (1 ≤ aas.length ∧ aas.length ≤ 2) ∧ ∀ a ∈ aas, validA a = true
def KindOk (kd : Int) (aas : List A) : Prop := kd = 0 ∨ kd = 5 ∨ ((kd = 1 ∨ kd = 2) ∧ aas.length = 2)
theorem szs_length (aas : List A) : (szs aas).length = aas.length := by simp [szs]
theorem szs_at {aas : List A} {k : Nat} (h : k < aas.length) : (szs aas).getD k 0 = ((aas.getD k zeroA).next.length : Int) := by
  simp [szs, List.getD_eq_getElem?_getD, h]
theorem net_at {aas : List A} (h : NetOk aas) {k : Nat} (hk : k < aas.length) : aas[k]? = some (aas.getD k zeroA) ∧ validA (aas.getD k zeroA) = true ∧ 1 ≤ (aas.getD k zeroA).next.length ∧ (aas.getD k zeroA).next.length ≤ 12 ∧ (aas.getD k zeroA).acc.length = (aas.getD k zeroA).next.length := by
  have e : aas[k]? = some (aas.getD k zeroA) := by rw [List.getD_eq_getElem?_getD, List.getElem?_eq_getElem hk]; rfl
  have hv := h.2 _ (List.mem_of_getElem? e)
  have := (validA_spec.1 hv).2
  exact ⟨e, hv, by omega, by omega, by omega⟩
def SzOk (ss : List Int) : Prop := ss.length ≤ 2 ∧ ∀ k, k < ss.length → 1 ≤ ss.getD k 0 ∧ ss.getD k 0 ≤ 12
theorem szs_ok {aas : List A} (h : NetOk aas) : SzOk (szs aas) := ⟨by rw [szs_length]; exact h.1.2, fun k hk => by
  rw [szs_length] at hk
  have := net_at h hk
  rw [szs_at hk]
  omega⟩
theorem prodFrom_step {ss : List Int} {i : Nat} (h : i < ss.length) : prodFrom ss i = ss.getD i 0 * prodFrom ss (i + 1) := by
  unfold prodFrom
  rw [List.drop_eq_getElem_cons h, List.foldr_cons, List.getD_eq_getElem?_getD, List.getElem?_eq_getElem h]
  rfl
theorem prodFrom_end {ss : List Int} {i : Nat} (h : ss.length ≤ i) : prodFrom ss i = 1 := by
  unfold prodFrom
  rw [List.drop_of_length_le h]
  rfl
theorem prodFrom_pos {ss : List Int} (h : SzOk ss) (i : Nat) : 1 ≤ prodFrom ss i ∧ prodFrom ss i ≤ 144 := by
  have h0 : ∀ i, 1 ≤ i → 1 ≤ prodFrom ss i ∧ prodFrom ss i ≤ 12 := fun i hi => by
    rcases Nat.lt_or_ge i ss.length with hl | hl
    · rw [prodFrom_step hl, prodFrom_end (i := i + 1) (by have := h.1; omega), Int.mul_one]
      exact h.2 i hl
    · rw [prodFrom_end hl]; omega
  rcases Nat.eq_zero_or_pos i with rfl | hi
  · rcases Nat.lt_or_ge 0 ss.length with hl | hl
    · rw [prodFrom_step hl]
      have h1 := h.2 0 hl
      have h2 : 1 ≤ prodFrom ss (0 + 1) ∧ prodFrom ss (0 + 1) ≤ 12 := h0 1 (Nat.le_refl _)
      have h3 : 1 * 1 ≤ ss.getD 0 0 * prodFrom ss (0 + 1) := Int.mul_le_mul h1.1 h2.1 (by omega) (by omega)
      have h4 : ss.getD 0 0 * prodFrom ss (0 + 1) ≤ 12 * 12 := Int.mul_le_mul h1.2 h2.2 (by omega) (by omega)
      omega
    · rw [prodFrom_end hl]; omega
  · have := h0 i hi; omega
theorem decTo_zero (ss : List Int) (q : Int) : decTo ss q 0 = decL ss q := by simp [decTo, decL]
theorem decTo_all {ss : List Int} (q : Int) {m : Nat} (h : ss.length ≤ m) : decTo ss q m = List.replicate ss.length 0 := by
  apply List.ext_getElem
  · simp [decTo]
  · intro i h1 h2
    have : i < m := by simp [decTo] at h1; omega
    simp [decTo, this]
theorem decTo_length (ss : List Int) (q : Int) (m : Nat) : (decTo ss q m).length = ss.length := by simp [decTo]
theorem decL_length (ss : List Int) (q : Int) : (decL ss q).length = ss.length := by simp [decL]
theorem decTo_step {ss : List Int} {q : Int} {m : Nat} (h : m < ss.length) : (decTo ss q (m + 1)).set m (q / prodFrom ss (m + 1) % ss.getD m 0) = decTo ss q m := by
  apply List.ext_getElem
  · simp [decTo]
  · intro i h1 h2
    rw [List.getElem_set]
    by_cases hi : m = i
    · subst hi
      simp [decTo]
    · by_cases hl : i < m
      · simp [decTo, hi, hl, Nat.lt_succ_of_lt hl]
      · have hl2 : ¬ i < m + 1 := by omega
        simp [decTo, hi, hl, hl2]
theorem prod_node {ss : List Int} {q : Int} {m : Nat} (h : m < ss.length) (hs : SzOk ss) : q / prodFrom ss (m + 1) / ss.getD m 0 = q / prodFrom ss m := by
  rw [Int.ediv_ediv, if_neg (by have := prodFrom_pos hs (m + 1); omega), Int.sub_zero, prodFrom_step h, Int.mul_comm]
theorem node_bd {ss : List Int} {q : Int} (hs : SzOk ss) (hq : 0 ≤ q ∧ q ≤ 1000) (m : Nat) : 0 ≤ q / prodFrom ss m ∧ q / prodFrom ss m ≤ 1000 := by
  have h1 := prodFrom_pos hs m
  have h2 : 0 ≤ q / prodFrom ss m := Int.ediv_nonneg hq.1 (by omega)
  have h3 := Int.ediv_le_self (a := q) (prodFrom ss m) hq.1
  omega
def StOk (ss st : List Int) : Prop := ∀ k, k < ss.length → 0 ≤ st.getD k 0 ∧ st.getD k 0 < ss.getD k 0
theorem enc_bd {ss st : List Int} (hs : SzOk ss) (h : StOk ss st) {k : Nat} (hk : k < ss.length) : 0 ≤ encTo ss st k ∧ encTo ss st k ≤ 11 ∧ 0 ≤ encTo ss st k * ss.getD k 0 ∧ encTo ss st k * ss.getD k 0 ≤ 132 := by
  have h2 := hs.2 k hk
  have key : 0 ≤ encTo ss st k ∧ encTo ss st k ≤ 11 := by
    cases k with
    | zero => exact ⟨Int.le_refl _, by show (0 : Int) ≤ 11; decide⟩
    | succ k =>
      have : k = 0 := by have := hs.1; omega
      subst this
      have h3 := h 0 (by omega)
      have h4 := hs.2 0 (by omega)
      show 0 ≤ 0 * _ + st.getD 0 0 ∧ 0 * _ + st.getD 0 0 ≤ 11
      rw [Int.zero_mul, Int.zero_add]
      omega
  have h3 : 0 ≤ encTo ss st k * ss.getD k 0 := Int.mul_nonneg key.1 (by omega)
  have h4 : encTo ss st k * ss.getD k 0 ≤ 11 * 12 := Int.mul_le_mul key.2 h2.2 (by omega) (by omega)
  exact ⟨key.1, key.2, h3, by omega⟩
theorem decL_at {ss : List Int} {q : Int} {k : Nat} (h : k < ss.length) : (decL ss q).getD k 0 = q / prodFrom ss (k + 1) % ss.getD k 0 := by
  simp [decL, List.getD_eq_getElem?_getD, h]
theorem decL_ok {ss : List Int} (hs : SzOk ss) (q : Int) : StOk ss (decL ss q) := fun k hk => by
  have h2 := hs.2 k hk
  rw [decL_at hk]
  exact ⟨Int.emod_nonneg _ (by omega), Int.emod_lt_of_pos _ (by omega)⟩
theorem goL_at {aas : List A} {st : List Int} {x : Int} {k : Nat} (h : k < aas.length) : (goL aas st x).getD k 0 = goA (aas.getD k zeroA) (st.getD k 0) x := by
  simp [goL, List.getD_eq_getElem?_getD, h]
theorem st_at {aas : List A} {st : List Int} (h : StOk (szs aas) st) {k : Nat} (hk : k < aas.length) : 0 ≤ st.getD k 0 ∧ st.getD k 0 < ((aas.getD k zeroA).next.length : Int) := by
  have := h k (by rw [szs_length]; exact hk)
  rw [szs_at hk] at this
  exact this
theorem goL_ok {aas : List A} (h : NetOk aas) {st : List Int} (hst : StOk (szs aas) st) {x : Int} (hx : 0 ≤ x ∧ x < 6) : StOk (szs aas) (goL aas st x) := fun k hk => by
  rw [szs_length] at hk
  rw [goL_at hk, szs_at hk]
  exact goA_in (net_at h hk).2.1 (st_at hst hk) hx
theorem enc_lt {ss st : List Int} (hs : SzOk ss) (h : StOk ss st) (h1 : 1 ≤ ss.length) : 0 ≤ encTo ss st ss.length ∧ encTo ss st ss.length < prodFrom ss 0 := by
  rcases Nat.lt_or_ge 1 ss.length with h2 | h2
  · have hl : ss.length = 2 := by have := hs.1; omega
    have a0 := h 0 (by omega)
    have a1 := h 1 (by omega)
    have b0 := hs.2 0 (by omega)
    have b1 := hs.2 1 (by omega)
    rw [hl, prodFrom_step (by omega), prodFrom_step (by omega), prodFrom_end (by omega), Int.mul_one]
    show 0 ≤ (0 * ss.getD 0 0 + st.getD 0 0) * ss.getD 1 0 + st.getD 1 0 ∧ (0 * ss.getD 0 0 + st.getD 0 0) * ss.getD 1 0 + st.getD 1 0 < ss.getD 0 0 * ss.getD (0 + 1) 0
    rw [Int.zero_mul, Int.zero_add]
    have c1 : 0 ≤ st.getD 0 0 * ss.getD 1 0 := Int.mul_nonneg a0.1 (by omega)
    have c2 : (st.getD 0 0 + 1) * ss.getD 1 0 ≤ ss.getD 0 0 * ss.getD 1 0 := Int.mul_le_mul_of_nonneg_right (by omega) (by omega)
    rw [Int.add_mul, Int.one_mul] at c2
    show 0 ≤ st.getD 0 0 * ss.getD 1 0 + st.getD 1 0 ∧ st.getD 0 0 * ss.getD 1 0 + st.getD 1 0 < ss.getD 0 0 * ss.getD 1 0
    omega
  · have hl : ss.length = 1 := by omega
    have a0 := h 0 (by omega)
    rw [hl, prodFrom_step (by omega), prodFrom_end (by omega), Int.mul_one]
    show 0 ≤ 0 * ss.getD 0 0 + st.getD 0 0 ∧ 0 * ss.getD 0 0 + st.getD 0 0 < ss.getD 0 0
    rw [Int.zero_mul, Int.zero_add]
    omega
def total (aas : List A) : Nat := (prodFrom (szs aas) 0).toNat
theorem total_bd {aas : List A} (h : NetOk aas) : 1 ≤ total aas ∧ total aas ≤ 144 ∧ ((total aas : Nat) : Int) = prodFrom (szs aas) 0 := by
  have := prodFrom_pos (szs_ok h) 0
  unfold total
  omega
theorem fN_in {aas : List A} (h : NetOk aas) (q : Int) {x : Int} (hx : 0 ≤ x ∧ x < 6) : 0 ≤ fN aas q x ∧ fN aas q x < (total aas : Int) := by
  have h1 := enc_lt (szs_ok h) (goL_ok h (decL_ok (szs_ok h) q) hx) (by rw [szs_length]; exact h.1.1)
  rw [szs_length] at h1
  rw [(total_bd h).2.2]
  exact h1
def prodTo (ss : List Int) (k : Nat) : Int := (ss.take k).foldl (· * ·) 1
theorem prodTo_succ {ss : List Int} {k : Nat} (h : k < ss.length) : prodTo ss (k + 1) = prodTo ss k * ss.getD k 0 := by
  unfold prodTo
  rw [take_snoc 0 h, List.foldl_append]
  rfl
theorem prodTo_bd {ss : List Int} (hs : SzOk ss) {k : Nat} (hk : k < ss.length) : 1 ≤ prodTo ss k ∧ prodTo ss k ≤ 12 ∧ 0 ≤ prodTo ss k * ss.getD k 0 ∧ prodTo ss k * ss.getD k 0 ≤ 144 := by
  have h2 := hs.2 k hk
  have key : 1 ≤ prodTo ss k ∧ prodTo ss k ≤ 12 := by
    cases k with
    | zero => show (1 : Int) ≤ 1 ∧ (1 : Int) ≤ 12; decide
    | succ k =>
      have : k = 0 := by have := hs.1; omega
      subst this
      rw [prodTo_succ (by omega)]
      have h4 := hs.2 0 (by omega)
      show 1 ≤ 1 * _ ∧ 1 * _ ≤ 12
      rw [Int.one_mul]
      exact h4
  have h3 : 0 ≤ prodTo ss k * ss.getD k 0 := Int.mul_nonneg (by omega) (by omega)
  have h4 : prodTo ss k * ss.getD k 0 ≤ 12 * 12 := Int.mul_le_mul key.2 h2.2 (by omega) (by omega)
  exact ⟨key.1, key.2, h3, by omega⟩
theorem foldl_mul (l : List Int) : ∀ (c : Int), l.foldl (· * ·) c = c * l.foldr (· * ·) 1 := by
  induction l with
  | nil => intro c; simp
  | cons x l ih => intro c; rw [List.foldl_cons, ih, List.foldr_cons, Int.mul_assoc]
theorem prodTo_all {ss : List Int} {k : Nat} (h : ss.length ≤ k) : prodTo ss k = prodFrom ss 0 := by
  unfold prodTo prodFrom
  rw [List.take_of_length_le h, foldl_mul, Int.one_mul, List.drop_zero]
def movesN (aas : List A) (L : List Int) : List (List (List Int)) := (List.range (total aas)).map fun (q : Nat) => L.map fun x => [fN aas (q : Int) x]
theorem moves_at {aas : List A} {L : List Int} {q : Int} (hq : 0 ≤ q ∧ q < (total aas : Int)) : (movesN aas L).getD q.toNat [] = L.map fun x => [fN aas q x] := by
  have h : q.toNat < total aas := by omega
  have e : ((q.toNat : Nat) : Int) = q := Int.toNat_of_nonneg hq.1
  simp [movesN, List.getD_eq_getElem?_getD, h, e]
section
variable {f : Int → Int → Int} {L : List Int} {G : Int → Bool} {n : Nat}
def dsAt (f : Int → Int → Int) (L : List Int) (G : Int → Bool) (n d i : Nat) : List Int := (List.range n).map fun (q : Nat) => if q < i then disTo f L G (d + 1) (q : Int) else disTo f L G d (q : Int)
def dsOf (f : Int → Int → Int) (L : List Int) (G : Int → Bool) (n d : Nat) : List Int := (List.range n).map fun (q : Nat) => disTo f L G d (q : Int)
theorem dsAt_zero (d : Nat) : dsAt f L G n d 0 = dsOf f L G n d := by simp [dsAt, dsOf]
theorem dsAt_all {d i : Nat} (h : n ≤ i) : dsAt f L G n d i = dsOf f L G n (d + 1) := by
  unfold dsAt dsOf
  refine List.map_congr_left fun q hq => ?_
  have := List.mem_range.1 hq
  rw [if_pos (by omega)]
theorem dsAt_length (d i : Nat) : (dsAt f L G n d i).length = n := by simp [dsAt]
theorem dsOf_length (d : Nat) : (dsOf f L G n d).length = n := by simp [dsOf]
theorem dsAt_get {d i : Nat} {q : Int} (hq : 0 ≤ q ∧ q < n) : (dsAt f L G n d i).getD q.toNat 0 = if q.toNat < i then disTo f L G (d + 1) q else disTo f L G d q := by
  have h : q.toNat < n := by omega
  have e : ((q.toNat : Nat) : Int) = q := Int.toNat_of_nonneg hq.1
  simp [dsAt, List.getD_eq_getElem?_getD, h, e]
theorem dsOf_get {d : Nat} {q : Int} (hq : 0 ≤ q ∧ q < n) : (dsOf f L G n d).getD q.toNat 0 = disTo f L G d q := by
  have h : q.toNat < n := by omega
  have e : ((q.toNat : Nat) : Int) = q := Int.toNat_of_nonneg hq.1
  simp [dsOf, List.getD_eq_getElem?_getD, h, e]
theorem dsAt_keep {d i : Nat} (h : disTo f L G (d + 1) (i : Int) = disTo f L G d (i : Int)) : dsAt f L G n d (i + 1) = dsAt f L G n d i := by
  unfold dsAt
  refine List.map_congr_left fun q hq => ?_
  by_cases hi : q = i
  · subst hi
    rw [if_pos (by omega), if_neg (by omega), h]
  · by_cases hl : q < i
    · rw [if_pos (by omega), if_pos hl]
    · rw [if_neg (by omega), if_neg hl]
theorem dsAt_set {d i : Nat} (hi : i < n) : (dsAt f L G n d i).set i (disTo f L G (d + 1) (i : Int)) = dsAt f L G n d (i + 1) := by
  apply List.ext_getElem
  · simp [dsAt]
  · intro j h1 h2
    rw [List.getElem_set]
    by_cases hj : i = j
    · subst hj
      simp [dsAt]
    · by_cases hl : j < i
      · simp [dsAt, hj, hl, Nat.lt_succ_of_lt hl]
      · have hl2 : ¬ j < i + 1 := by omega
        simp [dsAt, hj, hl, hl2]
theorem dis_same {d : Nat} (t : Int) : disTo f L G (d + 1) t = (d : Int) ↔ disTo f L G d t = (d : Int) := by
  rw [disTo_eq, disTo_eq]
  constructor
  · rintro ⟨_, h⟩; exact ⟨Nat.le_refl _, h⟩
  · rintro ⟨_, h⟩; exact ⟨Nat.le_succ _, h⟩
theorem any_same {α : Type} {p q : α → Bool} : ∀ {l : List α}, (∀ x ∈ l, p x = q x) → l.any p = l.any q
  | [], _ => rfl
  | x :: l, h => by rw [List.any_cons, List.any_cons, h x (by simp), any_same fun y hy => h y (by simp [hy])]
def nearX (ds : List Int) (xss : List (List Int)) (d : Int) : Bool := xss.any fun r => r.any fun x => decide (ds.getD x.toNat 0 = d)
theorem near_yes {ds : List Int} {xss : List (List Int)} {d : Int} {k i : Nat} (hk : k < xss.length) (hi : i < (xss.getD k []).length) (h : ds.getD ((xss.getD k []).getD i 0).toNat 0 = d) : nearX ds xss d = true :=
  List.any_eq_true.2 ⟨_, getD_mem hk, List.any_eq_true.2 ⟨_, getD_mem hi, decide_eq_true h⟩⟩
theorem nearX_eq {d i : Nat} (hf : ∀ q l, l ∈ L → 0 ≤ f q l ∧ f q l < n) (q : Int) : nearX (dsAt f L G n d i) (L.map fun x => [f q x]) (d : Int) = near f L G d q := by
  unfold nearX near
  rw [List.any_map]
  have h : ∀ l ∈ L, ((fun r => List.any r fun x => decide ((dsAt f L G n d i).getD x.toNat 0 = (d : Int))) ∘ fun x => [f q x]) l = decide (disTo f L G d (f q l) = (d : Int)) := fun l hl => by
    have hl2 := hf q l hl
    simp only [Function.comp, List.any_cons, List.any_nil, Bool.or_false]
    rw [dsAt_get hl2]
    by_cases hi : (f q l).toNat < i
    · rw [if_pos hi]
      by_cases hd : disTo f L G d (f q l) = (d : Int)
      · rw [decide_eq_true hd, decide_eq_true (dis_same _ |>.2 hd)]
      · rw [decide_eq_false hd, decide_eq_false (fun hc => hd (dis_same _ |>.1 hc))]
    · rw [if_neg hi]
  exact any_same h
theorem dsOf_init : dsOf f L G n 0 = (List.range n).map fun (q : Nat) => if G (q : Int) then (0 : Int) else -1 := by
  unfold dsOf
  exact List.map_congr_left fun q _ => disTo_zero
theorem moves_f {q : Int} (hq : 0 ≤ q ∧ q < n) : ((List.range n).map fun (q : Nat) => L.map fun x => [f (q : Int) x]).getD q.toNat [] = L.map fun x => [f q x] := by
  have h : q.toNat < n := by omega
  have e : ((q.toNat : Nat) : Int) = q := Int.toNat_of_nonneg hq.1
  simp [List.getD_eq_getElem?_getD, h, e]
theorem mv_ok (hf : ∀ q l, l ∈ L → 0 ≤ f q l ∧ f q l < n) (hLl : L.length ≤ 100) {d i : Nat} {q : Int} (hq : 0 ≤ q ∧ q < n) : ∀ r ∈ ((List.range n).map fun (q : Nat) => L.map fun x => [f (q : Int) x]).getD q.toNat [], r.length ≤ 1000 ∧ ∀ x ∈ r, 0 ≤ x ∧ x < ((dsAt f L G n d i).length : Int) := by
  rw [moves_f hq, dsAt_length]
  intro r hr
  obtain ⟨x, hx, rfl⟩ := List.mem_map.1 hr
  refine ⟨by simp, fun y hy => ?_⟩
  rw [List.mem_singleton.1 hy]
  exact hf q x hx
theorem dsOf_same {d : Nat} (h : ∀ j : Nat, j < n → disTo f L G (d + 1) (j : Int) = disTo f L G d (j : Int)) : dsOf f L G n (d + 1) = dsOf f L G n d := List.map_congr_left fun q hq => h q (List.mem_range.1 hq)
theorem dis_all {d : Nat} (h : ∀ j : Nat, j < n → disTo f L G (d + 1) (j : Int) = disTo f L G d (j : Int)) : ∀ q, 0 ≤ q ∧ q < (n : Int) → disTo f L G (d + 1) q = disTo f L G d q := fun q hq => by
  have := h q.toNat (by omega)
  rwa [Int.toNat_of_nonneg hq.1] at this
theorem dis_more {d k k' : Nat} {i : Int} (ei : ((k : Nat) : Int) = i) (h : ∀ j : Nat, j < k → disTo f L G (d + 1) (j : Int) = disTo f L G d (j : Int)) (h2 : disTo f L G (d + 1) (k : Int) = disTo f L G d (k : Int)) (e : k' = k + 1) : ∀ j : Nat, j < k' → disTo f L G (d + 1) (j : Int) = disTo f L G d (j : Int) := fun j hj => by
  rcases Nat.lt_or_ge j k with h3 | h3
  · exact h j h3
  · obtain rfl : j = k := by omega
    exact h2
def todo (f : Int → Int → Int) (L : List Int) (G : Int → Bool) (n d i : Nat) : Nat := (dsAt f L G n d i).countP fun x => decide (x < 0)
theorem dsAt_split {d i : Nat} (hi : i < n) : dsAt f L G n d i = (dsAt f L G n d i).take i ++ disTo f L G d (i : Int) :: (dsAt f L G n d i).drop (i + 1) := by
  have h1 : i < (dsAt f L G n d i).length := by rw [dsAt_length]; exact hi
  have e1 : dsAt f L G n d i = (dsAt f L G n d i).take i ++ (dsAt f L G n d i).drop i := (List.take_append_drop i _).symm
  have e2 : (dsAt f L G n d i).drop i = disTo f L G d (i : Int) :: (dsAt f L G n d i).drop (i + 1) := by
    rw [List.drop_eq_getElem_cons h1]
    congr 1
    simp [dsAt]
  rw [← e2]
  exact e1
theorem todo_keep {d i : Nat} (h : disTo f L G (d + 1) (i : Int) = disTo f L G d (i : Int)) : todo f L G n d (i + 1) = todo f L G n d i := by unfold todo; rw [dsAt_keep h]
theorem todo_less {d i : Nat} (hi : i < n) (h : disTo f L G d (i : Int) < 0) (h2 : 0 ≤ disTo f L G (d + 1) (i : Int)) : todo f L G n d (i + 1) + 1 = todo f L G n d i := by
  unfold todo
  have e1 := dsAt_split (f := f) (L := L) (G := G) (d := d) hi
  rw [← dsAt_set hi, e1, List.set_append_right _ _ (by rw [List.length_take, dsAt_length]; omega)]
  rw [List.length_take, dsAt_length, Nat.min_eq_left (by omega), Nat.sub_self, List.set_cons_zero]
  simp only [List.countP_append, List.countP_cons]
  rw [if_neg (by simp; omega), if_pos (by simpa using h)]
  omega
theorem todo_round (d : Nat) (i : Nat) (h : n ≤ i) : todo f L G n d i = todo f L G n (d + 1) 0 := by unfold todo; rw [dsAt_all h, dsAt_zero]
theorem todo_le (d i : Nat) : todo f L G n d i ≤ n := by
  unfold todo
  refine Nat.le_trans List.countP_le_length ?_
  rw [dsAt_length]
  exact Nat.le_refl _
def dsInit (G : Int → Bool) (n i : Nat) : List Int := (List.range n).map fun (q : Nat) => if q < i then (if G (q : Int) then 0 else -1) else 0
theorem dsInit_zero : dsInit G n 0 = List.replicate n 0 := by
  apply List.ext_getElem <;> simp [dsInit]
theorem dsInit_length (i : Nat) : (dsInit G n i).length = n := by simp [dsInit]
theorem dsInit_all {i : Nat} (h : n ≤ i) : dsInit G n i = dsOf f L G n 0 := by
  rw [dsOf_init]
  unfold dsInit
  refine List.map_congr_left fun q hq => ?_
  have := List.mem_range.1 hq
  rw [if_pos (by omega)]
theorem dsInit_set {i : Nat} (hi : i < n) {x : Int} (hx : x = if G (i : Int) then 0 else -1) : (dsInit G n i).set i x = dsInit G n (i + 1) := by
  apply List.ext_getElem
  · simp [dsInit]
  · intro j h1 h2
    rw [List.getElem_set]
    by_cases hj : i = j
    · subst hj
      simp [dsInit, hx]
    · by_cases hl : j < i
      · simp [dsInit, hj, hl, Nat.lt_succ_of_lt hl]
      · have hl2 : ¬ j < i + 1 := by omega
        simp [dsInit, hj, hl, hl2]
theorem dsInit_F {v : Int} {i : Nat} (hi : i < n) (hv : ((i : Nat) : Int) = v) (h : G v = false) : ((dsInit G n i).map (Value.int .i64)).set i (.int .i64 (-1)) = (dsInit G n (i + 1)).map (Value.int .i64) := by
  rw [← List.map_set, dsInit_set hi (by rw [hv, h]; rfl)]
theorem dsInit_T {v : Int} {i : Nat} (hi : i < n) (hv : ((i : Nat) : Int) = v) (h : G v = true) : (((dsInit G n i).map (Value.int .i64)).set i (.int .i64 (-1))).set i (.int .i64 0) = (dsInit G n (i + 1)).map (Value.int .i64) := by
  rw [List.set_set, ← List.map_set, dsInit_set hi (by rw [hv, h]; rfl)]
theorem disTo_next {d n : Nat} {q : Int} (h : disTo f L G d q = ((n + 1 : Nat) : Int)) : ∃ l ∈ L, disTo f L G d (f q l) = (n : Int) := by
  have h1 := disTo_eq.1 h
  obtain ⟨l, hl, hl2⟩ := List.any_eq_true.1 h1.2.1
  refine ⟨l, hl, disTo_eq.2 ⟨by omega, hl2, fun m hm => ?_⟩⟩
  cases hm2 : lev f L G m (f q l) with
  | false => rfl
  | true =>
    have h5 : lev f L G (m + 1) q = true := List.any_eq_true.2 ⟨l, hl, hm2⟩
    rw [h1.2.2 (m + 1) (by omega)] at h5
    cases h5
theorem find_first {α : Type} {p : α → Bool} {d : α} : ∀ {L : List α} {k : Nat}, k < L.length → (∀ j, j < k → p (L.getD j d) = false) → p (L.getD k d) = true → L.find? p = some (L.getD k d)
  | x :: L, 0, _, _, h => by
    have h' : p x = true := h
    rw [List.find?_cons_of_pos h']; rfl
  | x :: L, k + 1, hk, hno, h => by
    have h0 : p x = false := hno 0 (by omega)
    rw [List.find?_cons_of_neg (by rw [h0]; decide)]
    exact find_first (by simpa using hk) (fun j hj => hno (j + 1) (by omega)) h
theorem gre_next {dis : Int → Int} {m k : Nat} {q : Int} (hk : k < L.length) (hno : ∀ j, j < k → ¬ dis (f q (L.getD j 0)) = (m : Int)) (h : dis (f q (L.getD k 0)) = (m : Int)) : gre f L dis (m + 1) q = L.getD k 0 :: gre f L dis m (f q (L.getD k 0)) := by
  rw [gre, find_first (p := fun l => decide (dis (f q l) = (m : Int))) hk (fun j hj => decide_eq_false (hno j hj)) (decide_eq_true h)]
theorem next_lt {d k : Nat} {q e : Int} (hq : disTo f L G d q = e) (he : 0 < e) (hno : ∀ j, j < k → ¬ disTo f L G d (f q (L.getD j 0)) = e - 1) : k < L.length := by
  obtain ⟨m, rfl⟩ : ∃ m : Nat, e = ((m + 1 : Nat) : Int) := ⟨(e - 1).toNat, by omega⟩
  obtain ⟨l, hl, h⟩ := disTo_next hq
  rcases Nat.lt_or_ge k L.length with h1 | h1
  · exact h1
  · obtain ⟨j, hj, rfl⟩ := List.getElem_of_mem hl
    refine absurd ?_ (hno j (by omega))
    rw [List.getD_eq_getElem?_getD, List.getElem?_eq_getElem hj]
    show disTo f L G d (f q L[j]) = _
    rw [h]
    omega
theorem disTo_le {d : Nat} {q : Int} : disTo f L G d q ≤ d := by
  rcases disTo_cases (f := f) (L := L) (G := G) d q with h | ⟨n, h, h2⟩ <;> omega
theorem ord_range {s : Int} (hf : ∀ q l, l ∈ L → 0 ≤ f q l ∧ f q l < (n : Int)) (hs : 0 ≤ s ∧ s < (n : Int)) : (ord f s L).length ≤ n := by
  have h := bfsw_range (f := f) (s := s) (L := L) (n := n) (D := fun q => 0 ≤ q ∧ q < (n : Int)) hs (fun q _ x hx => hf q x hx) (fun q hq => hq) (many 0)
  rw [bfsw_length] at h
  exact h
theorem row_get {q : Int} {k : Nat} (hk : k < L.length) : (L.map fun x => [f q x]).getD k [] = [f q (L.getD k 0)] := by
  simp [List.getD_eq_getElem?_getD, hk]
end
theorem Ret.resW {P : Program} {k : FuncId} {args : Array Value} {w0 : World} {X Y : Option (List Int)} (h : Ret P k args w0 (fun v w => v = Go.Proofs.Ytoboklelbbgcnaa.resW X ∧ Ext w0 w)) (e : X = Y) : Ret P k args w0 (fun v w => v = Go.Proofs.Ytoboklelbbgcnaa.resW Y ∧ Ext w0 w) := by rw [← e]; exact h
section
variable {w : World} {B : Nat} {AU SI I Bo : TypeId} {v nx ac nx' ac' : Value} {a b : A}
theorem NetA.of2 (hW : Wid w B AU 3 v [[.int .i64 a.al, nx, ac], [.int .i64 b.al, nx', ac']]) (h1 : Rows w SI I nx a.next) (h2 : Bools w Bo ac a.acc) (h1' : Rows w SI I nx' b.next) (h2' : Bools w Bo ac' b.acc) : NetA w AU SI I Bo v [a, b] :=
  ⟨B, _, hW, rfl, fun j x hx => by
    match j, hx with
    | 0, hx => obtain rfl : a = x := by simpa using hx
               exact ⟨nx, ac, rfl, h1, h2⟩
    | 1, hx => obtain rfl : b = x := by simpa using hx
               exact ⟨nx', ac', rfl, h1', h2'⟩
    | j + 2, hx => simp at hx⟩
theorem netOk2 (h : validA a = true) (h' : validA b = true) : NetOk [a, b] := ⟨⟨by show 1 ≤ 2; decide, Nat.le_refl _⟩, fun x hx => by
  rcases List.mem_cons.1 hx with rfl | hx
  · exact h
  · rw [List.mem_singleton.1 hx]; exact h'⟩
theorem stOk2 {i j : Int} (h : 0 ≤ i ∧ i < a.next.length) (h' : 0 ≤ j ∧ j < b.next.length) : StOk (szs [a, b]) [i, j] := fun k hk => by
  have : k = 0 ∨ k = 1 := by simp [szs] at hk; omega
  rcases this with rfl | rfl
  · exact h
  · exact h'
theorem dec2 {p : Int × Int} (h : In2 a b p) : decL (szs [a, b]) (enc2 b p) = [p.1, p.2] := by
  show [enc2 b p / ((b.next.length : Int) * 1) % (a.next.length : Int), enc2 b p / 1 % (b.next.length : Int)] = [p.1, p.2]
  rw [Int.mul_one, Int.ediv_one, (enc_div h).1, (enc_div h).2, Int.emod_eq_of_lt h.1.1 h.1.2]
theorem fN2 {p : Int × Int} {l : Int} (h : In2 a b p) : fN [a, b] (enc2 b p) l = enc2 b (step2 a b p l) := by
  unfold fN
  rw [dec2 h]
  show ((0 : Int) * _ + goA a p.1 l) * (b.next.length : Int) + goA b p.2 l = _
  rw [Int.zero_mul, Int.zero_add]
  rfl
theorem net2 {i j : Int} {g : Bool → Bool → Bool} {kd gl : Int} (hv : validA a = true) (hv' : validA b = true) (hp : In2 a b (i, j)) (hG : ∀ p q, foundN kd gl [a, b] [p, q] = g (accA a p) (accA b q)) : firstOf (fN [a, b]) (encTo (szs [a, b]) [i, j] (szs [a, b]).length) (letters a.al) (fun q => foundN kd gl [a, b] (decL (szs [a, b]) q)) = firstAB a b (i, j) g := by
  have e : encTo (szs [a, b]) [i, j] (szs [a, b]).length = enc2 b (i, j) := by
    show ((0 : Int) * _ + i) * (b.next.length : Int) + j = _
    rw [Int.zero_mul, Int.zero_add]; rfl
  rw [e]
  exact firstOf_map (P := In2 a b) (g := enc2 b) enc_inj hp (fun q hq l hl => in2 hv hv' hq ⟨(mem_letters hl).1, (mem_letters hl).2.1⟩) (fun q hq l _ => fN2 hq) (fun q hq => by show foundN kd gl [a, b] (decL (szs [a, b]) (enc2 b q)) = _; rw [dec2 hq, hG])
end
end Go.Proofs.Ytoboklelbbgcnaa
set_option linter.unusedSimpArgs false
set_option linter.unusedVariables false
namespace Go.Proofs.Ytoboklelbbgcnaa
def IsFirst (L : List Int) (G : List Int → Bool) : Option (List Int) → Prop
  | some w => (∀ x ∈ w, x ∈ L) ∧ G w = true ∧ ∀ v : List Int, (∀ x ∈ v, x ∈ L) → G v = true → sle w v
  | none => ∀ v : List Int, (∀ x ∈ v, x ∈ L) → G v = false
theorem IsFirst.uniq {L : List Int} {G G' : List Int → Bool} {o o' : Option (List Int)} (h : IsFirst L G o) (h' : IsFirst L G' o') (hg : ∀ v : List Int, (∀ x ∈ v, x ∈ L) → G v = G' v) : o = o' := by
  cases o with
  | none =>
    cases o' with
    | none => rfl
    | some w =>
      have := h w h'.1
      rw [hg w h'.1, h'.2.1] at this
      cases this
  | some w =>
    cases o' with
    | none =>
      have := h' w h.1
      rw [← hg w h.1, h.2.1] at this
      cases this
    | some w' =>
      have h1 := h.2.2 w' h'.1 (by rw [hg w' h'.1]; exact h'.2.1)
      have h2 := h'.2.2 w h.1 (by rw [← hg w h.1]; exact h.2.1)
      rw [sle_antisymm h1 h2]
theorem IsFirst.isSome {L : List Int} {G : List Int → Bool} {o : Option (List Int)} (h : IsFirst L G o) : o.isSome = true ↔ ∃ v : List Int, (∀ x ∈ v, x ∈ L) ∧ G v = true := by
  cases o with
  | none => exact ⟨fun h' => (by cases h'), fun ⟨v, hv, hg⟩ => by rw [h v hv] at hg; cases hg⟩
  | some w => exact ⟨fun _ => ⟨w, h.1, h.2.1⟩, fun _ => rfl⟩
theorem IsFirst.isNone {L : List Int} {G : List Int → Bool} {o : Option (List Int)} (h : IsFirst L G o) : o.isSome = false ↔ ∀ v : List Int, (∀ x ∈ v, x ∈ L) → G v = false := by
  cases o with
  | none => exact ⟨fun _ => h, fun _ => rfl⟩
  | some w => exact ⟨fun h' => (by cases h'), fun h' => by have := h' w h.1; rw [h.2.1] at this; cases this⟩
theorem over_six {al : Int} {w : List Int} (h : ∀ x ∈ w, x ∈ letters al) : ∀ x ∈ w, 0 ≤ x ∧ x < 6 := fun x hx => ⟨(mem_letters (h x hx)).1, (mem_letters (h x hx)).2.1⟩
section
variable {a b : A}
theorem node2 : ∀ (w : List Int) (p : Int × Int), nodeOf (step2 a b) p w = (run a p.1 w, run b p.2 w)
  | [], p => rfl
  | x :: w, p => node2 w (step2 a b p x)
theorem ord1_le (hv : validA a = true) {s : Int} (hs : 0 ≤ s ∧ s < a.next.length) : (ord (goA a) s (letters a.al)).length ≤ a.next.length := by
  have h := bfsw_range (f := goA a) (s := s) (L := letters a.al) (n := a.next.length) (D := fun q => 0 ≤ q ∧ q < (a.next.length : Int)) hs (fun q hq x hx => goA_in hv hq ⟨(mem_letters hx).1, (mem_letters hx).2.1⟩) (fun q hq => hq) (many 0)
  rw [bfsw_length] at h
  exact h
theorem ord2_le (hv : validA a = true) (hv' : validA b = true) {p : Int × Int} (hp : In2 a b p) {al : Int} : (ord (step2 a b) p (letters al)).length ≤ a.next.length * b.next.length := by
  have h := bfsw_range (f := fP a b) (s := enc2 b p) (L := letters al) (n := a.next.length * b.next.length) (D := InP a b) (inP_enc hp) (fun q hq x hx => fP_in hv hv' hq ⟨(mem_letters hx).1, (mem_letters hx).2.1⟩) (fun q hq => hq) (many 0)
  rw [bfsw_map' (P := In2 a b) enc_inj hp (fun q hq l hl => in2 hv hv' hq ⟨(mem_letters hl).1, (mem_letters hl).2.1⟩) (fun q hq l _ => fP_enc hq l), bfsw_length] at h
  exact h
theorem isFirst_A (hv : validA a = true) {s : Int} (hs : 0 ≤ s ∧ s < a.next.length) (G : Int → Bool) : IsFirst (letters a.al) (fun w => G (run a s w)) (firstA a s G) := by
  have hl : (ord (goA a) s (letters a.al)).length ≤ 200 := by have := ord1_le hv hs; have := (validA_spec.1 hv).2.1; omega
  unfold firstA
  cases h : firstOf (goA a) s (letters a.al) G with
  | none => exact first_none (letters_sorted _) hl h
  | some w =>
    have := first_some (letters_sorted _) hl h
    exact ⟨ordw_over (letters_sorted _) this.1, this.2.1, this.2.2⟩
theorem isFirst_AB (hv : validA a = true) (hv' : validA b = true) {p : Int × Int} (hp : In2 a b p) (g : Bool → Bool → Bool) : IsFirst (letters a.al) (fun w => g (accA a (run a p.1 w)) (accA b (run b p.2 w))) (firstAB a b p g) := by
  have hl : (ord (step2 a b) p (letters a.al)).length ≤ 200 := by have := ord2_le hv hv' hp (al := a.al); have := le144 hv hv'; omega
  unfold firstAB
  cases h : firstOf (step2 a b) p (letters a.al) (fun p => g (accA a p.1) (accA b p.2)) with
  | none =>
    intro v hv
    have := first_none (letters_sorted _) hl h v hv
    rw [node2] at this
    exact this
  | some w =>
    have h1 := first_some (letters_sorted _) hl h
    rw [node2] at h1
    refine ⟨ordw_over (letters_sorted _) h1.1, h1.2.1, fun v hv hg => h1.2.2 v hv ?_⟩
    rw [node2]
    exact hg
theorem firstA_short (hv : validA a = true) {s : Int} (hs : 0 ≤ s ∧ s < a.next.length) {G : Int → Bool} {w : List Int} (h : firstA a s G = some w) : w.length + 1 ≤ a.next.length := by
  have hl : (ord (goA a) s (letters a.al)).length ≤ 200 := by have := ord1_le hv hs; have := (validA_spec.1 hv).2.1; omega
  have h1 := first_some (letters_sorted _) hl h
  exact Nat.le_trans (ordw_short (letters_sorted _) h1.1) (ord1_le hv hs)
theorem run_in2 (hv : validA a = true) {w : List Int} (hw : ∀ x ∈ w, 0 ≤ x ∧ x < 6) : 0 ≤ run a 0 w ∧ run a 0 w < a.next.length := run_stay hv hw (zero_in hv)
theorem cmp2_turn : cmp2 b a = cmp2 a b := by
  rw [Bool.eq_iff_iff, cmp2_spec, cmp2_spec]
  exact ⟨fun h => ⟨h.2.1, h.1, h.2.2.symm⟩, fun h => ⟨h.2.1, h.1, h.2.2.symm⟩⟩
theorem isFirst_two (hC : cmp2 a b = true) (g : Bool → Bool → Bool) : IsFirst (letters a.al) (fun w => g (accA a (run a 0 w)) (accA b (run b 0 w))) (fTwo a b g) := by
  have h := cmp2_spec.1 hC
  rw [fTwo, if_pos hC]
  exact isFirst_AB h.1 h.2.1 (in_zero h.1 h.2.1) g
theorem sle_nil {w : List Int} (h : sle w []) : w = [] := by
  have := sle_len h
  exact List.eq_nil_of_length_eq_zero (by simpa using this)
def wtx (o : Option (List Int)) : ByteArray := txt (o.getD [])
theorem within_both : sameL a b = (withinL a b && withinL b a) := by
  cases hC : cmp2 a b with
  | false => rw [sameL, withinL, hC]; rfl
  | true =>
    have h := cmp2_spec.1 hC
    have hC' : cmp2 b a = true := by rw [cmp2_turn, hC]
    have h1 := (isFirst_two hC (fun x y => x != y)).isNone
    have h2 := (isFirst_two hC (fun x y => x && !y)).isNone
    have h3 := (isFirst_two hC' (fun x y => x && !y)).isNone
    rw [← h.2.2] at h3
    rw [sameL, withinL, withinL, hC, hC', Bool.true_and, Bool.true_and, Bool.true_and, Bool.eq_iff_iff, Bool.and_eq_true, Bool.not_eq_true', Bool.not_eq_true', Bool.not_eq_true']
    unfold fDif fOut
    rw [h1, h2, h3]
    constructor
    · intro hh
      refine ⟨fun v hv => ?_, fun v hv => ?_⟩
      · have := hh v hv
        revert this
        cases accA a (run a 0 v) <;> cases accA b (run b 0 v) <;> decide
      · have := hh v hv
        revert this
        cases accA a (run a 0 v) <;> cases accA b (run b 0 v) <;> decide
    · rintro ⟨k1, k2⟩ v hv
      have e1 := k1 v hv
      have e2 := k2 v hv
      revert e1 e2
      cases accA a (run a 0 v) <;> cases accA b (run b 0 v) <;> decide
end
end Go.Proofs.Ytoboklelbbgcnaa
set_option linter.unusedSimpArgs false
set_option linter.unusedVariables false
namespace Go.Proofs.Ytoboklelbbgcnaa
section
variable {a b : A}
theorem wtx_some (w : List Int) : wtx (some w) = txt w := rfl
theorem at_first (hv : validA a = true) (q : Int) : IsFirst (letters a.al) (fun w => decide (run a 0 w = q)) (fAt a q) := by
  rw [fAt, if_pos hv]
  exact isFirst_A hv (zero_in hv) (fun x => decide (x = q))
theorem at_word {q : Int} {w : List Int} (hv : validA a = true) (h : fAt a q = some w) : (∀ x ∈ w, x ∈ letters a.al) ∧ run a 0 w = q ∧ w.length + 1 ≤ a.next.length := by
  have h1 := at_first hv q
  rw [h] at h1
  have h2 := h
  rw [fAt, if_pos hv] at h2
  exact ⟨h1.1, of_decide_eq_true h1.2.1, firstA_short hv (zero_in hv) h2⟩
theorem small_word {w : List Int} (hv : validA a = true) (h : w.length + 1 ≤ a.next.length) : w.length ≤ 50000 := by have := (validA_spec.1 hv).2.1; omega
theorem at_self {w : List Int} (hv : validA a = true) (h : w ∈ ordw (goA a) 0 (letters a.al)) : fAt a (run a 0 w) = some w := by
  have hl : (ord (goA a) 0 (letters a.al)).length ≤ 200 := by have := ord1_le hv (zero_in hv); have := (validA_spec.1 hv).2.1; omega
  rw [fAt, if_pos hv]
  exact first_self (letters_sorted _) hl h
end
section
open Classical
variable {α : Type} {f : α → Int → α} {L : List Int} {G : α → Bool} {U : List α}
def Alike (f : α → Int → α) (L : List Int) (G : α → Bool) (k : Nat) (x y : α) : Prop := ∀ w : List Int, w.length < k → (∀ l ∈ w, l ∈ L) → G (nodeOf f x w) = G (nodeOf f y w)
theorem Alike.refl (k : Nat) (x : α) : Alike f L G k x x := fun _ _ _ => rfl
theorem Alike.symm {k : Nat} {x y : α} (h : Alike f L G k x y) : Alike f L G k y x := fun w h1 h2 => (h w h1 h2).symm
theorem Alike.trans {k : Nat} {x y z : α} (h : Alike f L G k x y) (h' : Alike f L G k y z) : Alike f L G k x z := fun w h1 h2 => (h w h1 h2).trans (h' w h1 h2)
end
section
variable {a b : A}
end
end Go.Proofs.Ytoboklelbbgcnaa
set_option linter.unusedSimpArgs false
set_option linter.unusedVariables false
namespace Go.Proofs.Ytoboklelbbgcnaa
def accW (a : A) (w : List Int) : Bool := accA a (run a 0 w)
section
variable {a b : A}
theorem within_iff (hC : cmp2 a b = true) : withinL a b = true ↔ ∀ v : List Int, (∀ x ∈ v, x ∈ letters a.al) → accW a v = true → accW b v = true := by
  have h := (isFirst_two hC (fun x y => x && !y)).isNone
  rw [withinL, hC, Bool.true_and, Bool.not_eq_true']
  unfold fOut
  rw [h]
  constructor
  · intro hh v hv ha
    have := hh v hv
    revert this
    rw [show accA a (run a 0 v) = true from ha]
    show (true && !accW b v) = false → _
    cases accW b v <;> simp
  · intro hh v hv
    have := hh v hv
    revert this
    show (accW a v = true → accW b v = true) → (accW a v && !accW b v) = false
    cases accW a v <;> cases accW b v <;> simp
theorem accW_safe (hv : validA a = true) {v : List Int} (h : ∀ x ∈ v, 0 ≤ x ∧ x < 6) : accW (safe a) v = true ↔ ∀ k ≤ v.length, accW a (v.take k) = true := run_safe hv v 0 h (zero_in hv)
theorem cmp2_safe1 (hv : validA a = true) : cmp2 (safe a) a = true := cmp2_spec.2 ⟨safe_valid hv, hv, rfl⟩
theorem within_safe1 (hv : validA a = true) : withinL (safe a) a = true := by
  rw [within_iff (cmp2_safe1 hv)]
  intro v hx ha
  have := (accW_safe hv (over_six hx)).1 ha v.length (Nat.le_refl _)
  rwa [List.take_length] at this
theorem accepts_accW {s : ByteArray} (hv : validA a = true) (hw : within s a.al = true) : accepts a s = accW a (lts s) := accepts_run hv hw
theorem row_map (hv : validA a = true) {q : Int} (hq : 0 ≤ q ∧ q < a.next.length) : a.next.getD q.toNat [] = (letters a.al).map (goA a q) := by
  rw [← extRow_same hv (q := q.toNat) (by omega)]
  unfold extRow
  rw [Int.toNat_of_nonneg hq.1]
theorem count_dot {n : Int} (hv : validA a = true) (hn : 0 ≤ n ∧ n ≤ 7) : count a n = wAcc a n.toNat 0 := by
  have h1 := (validA_spec.1 hv).2.1
  rw [count_good hv hn, cnt_dot hv _ _ (start_length a)]
  have := dot_set (v := List.replicate a.next.length 0) (f := wAcc a n.toNat) (t := 0) (c := 1) (by simp; omega)
  rw [show (List.replicate a.next.length (0 : Int)).getD 0 0 = 0 by rw [List.getD_eq_getElem?_getD, List.getElem?_replicate]; split <;> rfl, dot_replicate] at this
  unfold start
  simpa using this
theorem sum_zero {α : Type} {f : α → Int} : ∀ {l : List α}, (∀ x ∈ l, f x = 0) → (l.map f).sum = 0
  | [], _ => rfl
  | x :: l, h => by rw [List.map_cons, List.sum_cons, h x (List.mem_cons_self ..), sum_zero fun y hy => h y (List.mem_cons_of_mem _ hy)]; rfl
theorem wAcc_none (hv : validA a = true) : ∀ (m : Nat) (q : Int), (0 ≤ q ∧ q < a.next.length) → (∀ v : List Int, (∀ x ∈ v, x ∈ letters a.al) → v.length ≤ m → accA a (run a q v) = false) → wAcc a m q.toNat = 0 := fun m => by
  induction m with
  | zero =>
    intro q hq h
    have : a.acc.getD q.toNat false = false := h [] (by simp) (Nat.le_refl _)
    unfold wAcc
    rw [this]; rfl
  | succ m ih =>
    intro q hq h
    have h0 : a.acc.getD q.toNat false = false := h [] (by simp) (by simp)
    unfold wAcc
    rw [row_map hv hq, List.map_map, h0, sum_zero fun l hl => ?_]
    · rfl
    · exact ih _ (goA_in hv hq ⟨(mem_letters hl).1, (mem_letters hl).2.1⟩) fun v hv hl' => h (l :: v) (fun x hx => (List.mem_cons.1 hx).elim (fun e => e ▸ hl) (hv x)) (by simpa using hl')
theorem count_none {n : Int} (hv : validA a = true) (hn : 0 ≤ n ∧ n ≤ 7) (h : ∀ v : List Int, (∀ x ∈ v, x ∈ letters a.al) → (v.length : Int) ≤ n → accW a v = false) : count a n = 0 := by
  rw [count_dot hv hn]
  exact wAcc_none hv _ 0 (zero_in hv) fun v hx hl => h v hx (by omega)
theorem acc_first (hv : validA a = true) : IsFirst (letters a.al) (accW a) (fAcc a) := by
  rw [fAcc, if_pos hv]
  exact isFirst_A hv (zero_in hv) (accA a)
theorem acc_valid (h : (fAcc a).isSome = true) : validA a = true := by
  cases hv : validA a with
  | true => rfl
  | false => rw [fAcc, if_neg (by rw [hv]; decide)] at h; cases h
theorem acc_word (h : (fAcc a).isSome = true) : accepts a (wtx (fAcc a)) = true ∧ ((wtx (fAcc a)).size : Int) < a.next.length ∧ ((((wtx (fAcc a)).size : Int) = 0) ∨ ((wtx (fAcc a)).size : Int) > 7 ∨ count a (((wtx (fAcc a)).size : Int) - 1) = 0) := by
  have hv := acc_valid h
  have hf := acc_first hv
  cases hd : fAcc a with
  | none => rw [hd] at h; cases h
  | some w =>
    rw [hd] at hf
    have h2 := hd
    rw [fAcc, if_pos hv] at h2
    have hl := firstA_short hv (zero_in hv) h2
    rw [wtx_some, txt_size]
    refine ⟨?_, by omega, ?_⟩
    · have hw := txt_within (validA_spec.1 hv).1 hf.1 (small_word hv hl)
      rw [accepts_accW hv hw, lts_txt (over_six hf.1)]
      exact hf.2.1
    · by_cases h0 : (w.length : Int) = 0
      · exact .inl h0
      · by_cases h7 : (w.length : Int) > 7
        · exact .inr (.inl h7)
        · refine .inr (.inr (count_none hv (by omega) fun v hx hv' => ?_))
          cases hg : accW a v with
          | false => rfl
          | true => have := sle_len (hf.2.2 v hx hg); omega
def isPC (a : A) : Bool := validA a && withinL a (safe a)
theorem cmp2_safe2 (hv : validA a = true) : cmp2 a (safe a) = true := cmp2_spec.2 ⟨hv, safe_valid hv, rfl⟩
theorem isPC_iff (hv : validA a = true) : isPC a = true ↔ ∀ v : List Int, (∀ x ∈ v, x ∈ letters a.al) → accW a v = true → ∀ k ≤ v.length, accW a (v.take k) = true := by
  rw [isPC, hv, Bool.true_and, within_iff (cmp2_safe2 hv)]
  exact ⟨fun h v hx ha => (accW_safe hv (over_six hx)).1 (h v hx ha), fun h v hx ha => (accW_safe hv (over_six hx)).2 (h v hx ha)⟩
theorem isPC_valid (h : isPC a = true) : validA a = true := by rw [isPC, Bool.and_eq_true] at h; exact h.1
theorem isPC_no (h : validA a = false) : isPC a = false := by rw [isPC, h]; rfl
theorem pc_first (h : isPC a = true) : wtx (fAcc a) = ⟨#[]⟩ ∧ (fAcc a).isSome = accepts a ⟨#[]⟩ := by
  have hv := isPC_valid h
  have hp := (isPC_iff hv).1 h
  have hf := acc_first hv
  have e : accepts a ⟨#[]⟩ = accW a [] := accepts_accW hv (within_nil (validA_spec.1 hv).1)
  cases hd : fAcc a with
  | none =>
    rw [hd] at hf
    exact ⟨rfl, by rw [e, hf [] (by simp)]; rfl⟩
  | some w =>
    rw [hd] at hf
    have h0 := hp w hf.1 hf.2.1 0 (Nat.zero_le _)
    rw [List.take_zero] at h0
    have hw := sle_nil (hf.2.2 [] (by simp) h0)
    subst hw
    exact ⟨rfl, by rw [e, h0]; rfl⟩
theorem safe_pc (hv : validA a = true) : isPC (safe a) = true := by
  rw [isPC_iff (safe_valid hv)]
  intro v hx ha k hk
  have h6 := over_six hx
  rw [accW_safe hv h6] at ha
  rw [accW_safe hv (fun x h => h6 x (List.mem_of_mem_take h))]
  intro j hj
  rw [List.take_take]
  exact ha _ (by omega)
theorem same_safe (hv : validA a = true) : sameL a (safe a) = isPC a := by
  rw [within_both, isPC, hv, within_safe1 hv, Bool.true_and, Bool.and_true]
theorem accW_num {α : Type} [DecidableEq α] {al : Int} {f : α → Int → α} {s : α} {acc : α → Bool} (hal : 0 ≤ al ∧ al ≤ 63) (h : (ord f s (letters al)).length ≤ 200) {w : List Int} (hw : ∀ x ∈ w, x ∈ letters al) : accW (num al f s acc) w = acc (nodeOf f s w) := by
  have h1 := run_num (acc := acc) hal h w (q := s) ord_mem0 hw
  rw [ord_zero' h] at h1
  unfold accW accA
  rw [show ((0 : Nat) : Int) = 0 from rfl] at h1
  rw [h1.1]
  exact acc_num h1.2
theorem ord200 (hv : validA a = true) : (ord (goA a) 0 (letters a.al)).length ≤ 200 := by have := trim_len hv; have := (validA_spec.1 hv).2.1; omega
theorem accW_trim (hv : validA a = true) {v : List Int} (hx : ∀ x ∈ v, x ∈ letters a.al) : accW (trim a) v = accW a v := accW_num (validA_spec.1 hv).1 (ord200 hv) hx
theorem run_trim (hv : validA a = true) {v : List Int} (hx : ∀ x ∈ v, x ∈ letters a.al) : run (trim a) 0 v = ((ord (goA a) 0 (letters a.al)).idxOf (run a 0 v) : Int) ∧ run a 0 v ∈ ord (goA a) 0 (letters a.al) := by
  have h1 := run_num (acc := accA a) (validA_spec.1 hv).1 (ord200 hv) v (q := 0) ord_mem0 hx
  rw [ord_zero' (ord200 hv)] at h1
  exact h1
theorem trim_at (hv : validA a = true) {i : Nat} (hi : i < (trim a).next.length) : ∃ w, (ordw (goA a) 0 (letters a.al))[i]? = some w ∧ fAt (trim a) i = some w ∧ fAt a (run a 0 w) = some w ∧ (∀ x ∈ w, x ∈ letters a.al) ∧ w.length ≤ 50000 := by
  have hl : (trim a).next.length = (ordw (goA a) 0 (letters a.al)).length := by unfold trim; rw [num_len, ordw_length]
  rw [hl] at hi
  have hw := List.getElem?_eq_getElem hi
  have hm : (ordw (goA a) 0 (letters a.al))[i] ∈ ordw (goA a) 0 (letters a.al) := List.getElem_mem hi
  have hs := at_self hv hm
  have ho := ordw_over (letters_sorted _) hm
  have hn : (ord (goA a) 0 (letters a.al))[i]? = some (run a 0 (ordw (goA a) 0 (letters a.al))[i]) := by
    rw [← ordw_map, List.getElem?_map, hw]; rfl
  refine ⟨_, hw, ?_, hs, ho, by have := (at_word hv hs).2.2; exact small_word hv this⟩
  have h1 := at_first (trim_valid hv) (i : Int)
  have h2 := at_first hv (run a 0 (ordw (goA a) 0 (letters a.al))[i])
  rw [hs] at h2
  refine IsFirst.uniq h1 h2 fun v hx => ?_
  have hr := run_trim hv hx
  show decide (run (trim a) 0 v = (i : Int)) = decide (run a 0 v = _)
  rw [hr.1, decide_eq_decide]
  constructor
  · intro h
    have h3 := getElem_idx hr.2
    rw [show (ord (goA a) 0 (letters a.al)).idxOf (run a 0 v) = i by omega, hn] at h3
    exact (Option.some.inj h3).symm
  · intro h
    rw [h, idx_getElem ord_nodup hn]
def leads (a : A) (q : Int) : Bool := (firstA a q (accA a)).isSome
theorem leads_iff (hv : validA a = true) {q : Int} (hq : 0 ≤ q ∧ q < a.next.length) : leads a q = true ↔ ∃ v : List Int, (∀ x ∈ v, x ∈ letters a.al) ∧ accA a (run a q v) = true := (isFirst_A hv hq (accA a)).isSome
def pcRow (a : A) (q : Nat) : Bool := a.acc.getD q false || (a.next.getD q []).all fun t => !leads a t
def pcA (a : A) : Bool := (List.range a.next.length).all (pcRow a)
theorem pc_trim (hv : validA a = true) : pcA (trim a) = isPC a := by
  have ht := trim_valid hv
  have hl : letters (trim a).al = letters a.al := rfl
  rw [Bool.eq_iff_iff, isPC_iff hv]
  unfold pcA
  rw [List.all_eq_true]
  constructor
  · intro h v hx ha k hk
    cases hb : accW a (v.take k) with
    | true => rfl
    | false =>
      exfalso
      have hxk : ∀ x ∈ v.take k, x ∈ letters a.al := fun x h => hx x (List.mem_of_mem_take h)
      have hk2 : k < v.length := by
        rcases Nat.lt_or_ge k v.length with h | h
        · exact h
        · rw [List.take_of_length_le h, ha] at hb; cases hb
      have hq := run_in2 ht (w := v.take k) (over_six hxk)
      rw [← accW_trim hv hxk] at hb
      rw [← accW_trim hv hx] at ha
      have h1 := h (run (trim a) 0 (v.take k)).toNat (List.mem_range.2 (by omega))
      unfold pcRow at h1
      rw [show (trim a).acc.getD (run (trim a) 0 (v.take k)).toNat false = false from hb, Bool.false_or, List.all_eq_true, row_map ht hq] at h1
      have hxl : v[k] ∈ letters a.al := hx _ (List.getElem_mem hk2)
      have h6 : 0 ≤ v[k] ∧ v[k] < 6 := ⟨(mem_letters hxl).1, (mem_letters hxl).2.1⟩
      have h2 := h1 _ (List.mem_map.2 ⟨v[k], hxl, rfl⟩)
      have h3 : leads (trim a) (goA (trim a) (run (trim a) 0 (v.take k)) v[k]) = true := (leads_iff ht (goA_in ht hq h6)).2 ⟨v.drop (k + 1), fun x h => hx x (List.mem_of_mem_drop h), by
        have e : run (trim a) 0 v = run (trim a) (goA (trim a) (run (trim a) 0 (v.take k)) v[k]) (v.drop (k + 1)) := by
          conv => lhs; rw [← List.take_append_drop k v, List.drop_eq_getElem_cons hk2]
          rw [run_cat]; rfl
        rw [← e]; exact ha⟩
      rw [h3] at h2
      cases h2
  · intro h q hq
    have hq := List.mem_range.1 hq
    unfold pcRow
    rw [Bool.or_eq_true, List.all_eq_true]
    cases hb : (trim a).acc.getD q false with
    | true => exact .inl rfl
    | false =>
      right
      intro t htm
      rw [Bool.not_eq_true']
      cases hlead : leads (trim a) t with
      | false => rfl
      | true =>
        exfalso
        have e := row_map ht (q := (q : Int)) ⟨by omega, by omega⟩
        rw [Int.toNat_natCast] at e
        rw [e] at htm
        obtain ⟨l, hl, rfl⟩ := List.mem_map.1 htm
        have h6 : 0 ≤ l ∧ l < 6 := ⟨(mem_letters hl).1, (mem_letters hl).2.1⟩
        obtain ⟨v, hx, hg⟩ := (leads_iff ht (goA_in ht ⟨by omega, by omega⟩ h6)).1 hlead
        obtain ⟨u, hu, hfu, _, hou, _⟩ := trim_at hv hq
        have hru := (at_word ht hfu).2.1
        have hxx : ∀ x ∈ u ++ l :: v, x ∈ letters a.al := fun x h => (List.mem_append.1 h).elim (hou x) fun h => (List.mem_cons.1 h).elim (fun e => e ▸ hl) (hx x)
        have h1 := h (u ++ l :: v) hxx (by
          rw [← accW_trim hv hxx]
          unfold accW
          rw [run_cat, hru]
          exact hg) u.length (by simp)
        rw [List.take_left', ← accW_trim hv hou] at h1
        · unfold accW accA at h1
          rw [hru, Int.toNat_natCast, hb] at h1
          cases h1
        · rfl
end
end Go.Proofs.Ytoboklelbbgcnaa
set_option linter.unusedSimpArgs false
set_option linter.unusedVariables false
namespace Go.Proofs.Ytoboklelbbgcnaa
section
variable {κ μ : Type} [DecidableEq κ] [DecidableEq μ] {xs : List κ}
def dd (xs : List κ) : List κ := addAll [] xs
end
section
variable {a : A}
end
end Go.Proofs.Ytoboklelbbgcnaa
set_option linter.unusedSimpArgs false
set_option linter.unusedVariables false
namespace Go.Proofs.Ytoboklelbbgcnaa
def rowQ (a : A) (cs : List Int) (q : Nat) : List Int := (a.next.getD q []).map fun t => cs.getD t.toNat 0
def quo (a : A) (cs : List Int) : A := ⟨a.al, (dd cs).map fun c => rowQ a cs (cs.idxOf c), (dd cs).map fun c => a.acc.getD (cs.idxOf c) false⟩
section
variable {a b : A}
end
section
variable {α β : Type} [DecidableEq α] [DecidableEq β] {f : α → Int → α} {s : α} {L : List Int} {f' : β → Int → β} {g : α → β}
def pick (f' : β → Int → β) (s' : β) (us : List (List Int)) (ws : List (List Int)) : List (List Int) := ws.foldl (fun us w => wadd f' s' us w) us
end
section
variable {a : A}
end
end Go.Proofs.Ytoboklelbbgcnaa
set_option linter.unusedSimpArgs false
set_option linter.unusedVariables false
namespace Go.Proofs.Ytoboklelbbgcnaa
open Go.RowKit
section
variable {P : Program} {N : Nat} {ops : Array Oper} {Q : Exit → Act → World → Prop} {rest : List Oper} {l : Slots} {w : World}
variable {d : Nat} {ty : TypeId} {pos : String} {after : Array Edge} {g : Option (Nat × Bool)}
end
section
variable {a b : A}
theorem acc_size : (txt ((fAcc a).getD [])).size ≤ 150 := by
  cases hd : fAcc a with
  | none => exact Nat.zero_le _
  | some w =>
    have hv := acc_valid (a := a) (by rw [hd]; rfl)
    have := (acc_word (a := a) (by rw [hd]; rfl)).2.1
    rw [hd] at this
    have h2 := (validA_spec.1 hv).2.1
    rw [wtx_some] at this
    show (txt w).size ≤ 150
    omega
theorem pc_found {q j : Nat} (hq : q < a.next.length) (hj : j < (a.next.getD q []).length) (hac : a.acc.getD q false = false) (hl : leads a ((a.next.getD q []).getD j 0) = true) : pcA a = false := by
  unfold pcA
  rw [List.all_eq_false]
  refine ⟨q, List.mem_range.2 hq, ?_⟩
  unfold pcRow
  rw [hac, Bool.false_or, List.all_eq_true]
  intro hc
  have := hc _ (getD_mem (d := 0) hj)
  rw [hl] at this
  cases this
theorem pc_all {k : Nat} (hk : a.next.length ≤ k) (h : ∀ i, i < k → i < a.next.length → pcRow a i = true) : pcA a = true := by
  unfold pcA
  rw [List.all_eq_true]
  intro i hi
  have := List.mem_range.1 hi
  exact h i (by omega) this
theorem pcRow_done {q j : Nat} (hj : (a.next.getD q []).length ≤ j) (h : a.acc.getD q false = true ∨ (((a.next.getD q []).take j).all fun t => !leads a t) = true) : pcRow a q = true := by
  unfold pcRow
  rcases h with h | h
  · rw [h]; rfl
  · rw [List.take_of_length_le hj] at h
    rw [h, Bool.or_true]
theorem bytes_same {s t : ByteArray} (h : s = t) : s.data.toList = t.data.toList := by rw [h]
end
end Go.Proofs.Ytoboklelbbgcnaa
set_option linter.unusedSimpArgs false
set_option linter.unusedVariables false
namespace Go.Proofs.Ytoboklelbbgcnaa
open Go.RowKit
set_option maxRecDepth 100000 in
theorem l1Place_c (al x : Int) (h : 0 ≤ al ∧ al ≤ 63) (hx : 0 ≤ x ∧ x ≤ 6) (w0 : World) : Ret Try.prog 126 #[Value.int .i64 al, Value.int .i64 x] w0 (fun v w => v = .int .i64 (place al x : Nat) ∧ w0 = w) := by
  refine Ret.of (args := [Value.int .i64 al, Value.int .i64 x]) Try.func126 rfl rfl rfl ?_
  rintro _ rfl
  show Cq _ _ _ _ [(0, Value.int .i64 al), (1, Value.int .i64 x)] _
  refine Cq.seq ?_
  refine Cq.region ?_
  refine Sq.assign .plain rfl rfl ?_
  refine Sq.nil ?_
  refine Eq.next ?_
  refine Cq.seq ?_
  refine Cq.region ?_
  refine Sq.assign .plain rfl rfl ?_
  refine Sq.nil ?_
  refine Eq.next ?_
  refine Cq.seq ?_
  refine Cq.seq ?_
  refine Cq.region ?_
  refine Sq.assign .plain rfl rfl ?_
  refine Sq.nil ?_
  refine Eq.next ?_
  refine Cq.block ?_
  refine Cq.loop (fun nn w ls => ∃ (k : Int), ∃ (n : Int), ls = [(0, Value.int .i64 al), (1, Value.int .i64 x), (5, Value.int .i64 n), (6, Value.int .i64 k)] ∧ w0 = w ∧ (0 ≤ k ∧ k ≤ x) ∧ (n = ((lettersTo al k.toNat).length : Nat) ∧ n ≤ k) ∧ nn = (x - k).toNat) _ _ ⟨0, 0, rfl, rfl, by omega, ⟨rfl, by omega⟩, rfl⟩ (.cons rfl (.cons rfl (.cons rfl (.cons rfl (.nil))))) ?_
  rintro n1 w ls ⟨k, n, rfl, rfl, hk, hn, rfl⟩
  refine Cq.seq ?_
  refine Cq.seq ?_
  refine Cq.region ?_
  refine Sq.move .plain rfl rfl ?_
  refine Sq.move .plain rfl rfl ?_
  refine Sq.lss .plain rfl rfl rfl ?_
  refine Sq.part (fun c1 => ?_) (fun c1 => ?_)
  · refine Sq.nil ?_
    refine Eq.next ?_
    refine Cq.thn rfl ?_
    refine Cq.skip ?_
    refine Eq.next ?_
    refine Cq.seq ?_
    refine Cq.block ?_
    refine Cq.seq ?_
    refine Cq.region ?_
    refine Sq.move .plain rfl rfl ?_
    refine Sq.move .plain rfl rfl ?_
    refine Sq.call fn108 .plain rfl rfl (l1Has_c _ _ (by omega) (by omega) _) ?_
    rintro _ _ ⟨rfl, rfl⟩
    refine Sq.partB (fun hb => ?_) (fun hb => ?_)
    · refine Sq.nil ?_
      refine Eq.next ?_
      refine Cq.thn rfl ?_
      refine Cq.region ?_
      refine Sq.move .plain rfl rfl ?_
      refine Sq.add .plain rfl rfl rfl (by omega) ?_
      refine Sq.assign .plain rfl rfl ?_
      refine Sq.nil ?_
      refine Eq.end ?_
      refine Eq.next ?_
      refine Cq.region ?_
      refine Sq.move .plain rfl rfl ?_
      refine Sq.add .plain rfl rfl rfl (by omega) ?_
      refine Sq.assign .plain rfl rfl ?_
      refine Sq.nil ?_
      have e1 := toNat_succ hk.1
      have hb' : hs al (k.toNat : Int) = true := by rw [Int.toNat_of_nonneg hk.1]; exact hb
      refine Eq.round _ _ ⟨k + 1, _, rfl, rfl, by omega, ⟨by rw [e1, lettersTo_T hb', List.length_append, hn.1]; rfl, by omega⟩, rfl⟩ (by omega) (.cons rfl (.cons rfl (.cons rfl (.cons rfl (.nil)))))
    refine Sq.nil ?_
    refine Eq.next ?_
    refine Cq.els rfl ?_
    refine Cq.skip ?_
    refine Eq.end ?_
    refine Eq.next ?_
    refine Cq.region ?_
    refine Sq.move .plain rfl rfl ?_
    refine Sq.add .plain rfl rfl rfl (by omega) ?_
    refine Sq.assign .plain rfl rfl ?_
    refine Sq.nil ?_
    have e1 := toNat_succ hk.1
    have hb' : hs al (k.toNat : Int) = false := by rw [Int.toNat_of_nonneg hk.1]; exact hb
    refine Eq.round _ _ ⟨k + 1, _, rfl, rfl, by omega, ⟨by rw [e1, lettersTo_F hb']; exact hn.1, by omega⟩, rfl⟩ (by omega) (.cons rfl (.cons rfl (.cons rfl (.cons rfl (.nil)))))
  refine Sq.nil ?_
  refine Eq.next ?_
  refine Cq.els rfl ?_
  refine Cq.exit ?_
  refine Eq.past ?_
  refine Eq.past ?_
  refine Eq.hit ?_
  refine Eq.next ?_
  refine Cq.seq ?_
  refine Cq.region ?_
  refine Sq.move .plain rfl rfl ?_
  refine Sq.assign .plain rfl rfl ?_
  refine Sq.nil ?_
  refine Eq.next ?_
  refine Cq.ret ?_
  refine Eq.ret1 rfl rfl ?_
  obtain rfl : k = x := by omega
  exact ⟨by rw [hn.1]; rfl, rfl⟩
set_option maxRecDepth 100000 in
theorem l3Go_c (w0 : World) (a : A) (nx ac : Value) (hnx : Rows w0 55 3 nx a.next) (hac : Bools w0 4 ac a.acc) (hv : validA a = true) (q x : Int) (hq : 0 ≤ q ∧ q < a.next.length) (hx : 0 ≤ x ∧ x < 6) : Ret Try.prog 125 #[Value.agg #[Value.int .i64 a.al, nx, ac], Value.int .i64 q, Value.int .i64 x] w0 (fun v w => v = .int .i64 (goA a q x) ∧ Ext w0 w) := by
  have E := Ext.refl w0
  have hal := (validA_spec.1 hv).1
  refine Ret.of (args := [Value.agg #[Value.int .i64 a.al, nx, ac], Value.int .i64 q, Value.int .i64 x]) Try.func125 rfl rfl rfl ?_
  rintro _ rfl
  show Cq _ _ _ _ [(0, Value.agg #[Value.int .i64 a.al, nx, ac]), (1, Value.int .i64 q), (2, Value.int .i64 x)] _
  refine Cq.seq ?_
  refine Cq.region ?_
  refine Sq.box .plain rfl rfl (fun b1 w2 e3 hB4 hlo5 => ?_)
  have hd6 := Nat.le_trans (Below.size E) hlo5
  have hs7 := Below.size e3
  replace E := E.trans e3
  refine Sq.assign .plain rfl rfl ?_
  refine Sq.nil ?_
  refine Eq.next ?_
  refine Cq.seq ?_
  refine Cq.seq ?_
  refine Cq.region ?_
  refine Sq.fieldAddr fld26_0 .plain rfl rfl ?_
  refine Sq.loadB one3 .plain rfl rfl hB4 rfl ?_
  refine Sq.move .plain rfl rfl ?_
  refine Sq.call fn108 .plain rfl rfl (l1Has_c _ _ (by omega) (by omega) _) ?_
  rintro _ _ ⟨rfl, rfl⟩
  refine Sq.partB (fun hh => ?_) (fun hh => ?_)
  · refine Sq.notT .plain rfl rfl ?_
    refine Sq.nil ?_
    refine Eq.next ?_
    refine Cq.els rfl ?_
    refine Cq.skip ?_
    refine Eq.next ?_
    refine Cq.seq ?_
    refine Cq.drawS 11 (fun w' => Blk w' b1 26 [Value.int .i64 a.al, nx, ac] ∧ Ext w0 w') mixed (⟨hB4, E⟩) (fun w8 e9 hS => ?_)
    clear hS
    have hs10 := Below.size e9
    replace E := E.trans e9
    replace hB4 := hB4.ext e9
    refine Gq.st 0 rfl (by kernel_rfl) rfl .plain rfl (fun _ _ _ h => h) ⟨hB4, E⟩ (fun w' x => Still.fieldAddr fld26_1 rfl) ?_
    refine Gq.st 1 rfl (by kernel_rfl) rfl .plain rfl (fun _ _ _ h => h) ⟨hB4, E⟩ (fun w' x => Still.loadB one23 rfl x.1 rfl) ?_
    refine Gq.st 2 rfl (by kernel_rfl) rfl .plain rfl (fun _ _ _ h => h) ⟨hB4, E⟩ (fun w' x => Still.move rfl) ?_
    obtain ⟨p11, r13, hp12_w8, hr14⟩ := Rows.at hnx (i := q) (by omega) (by omega)
    refine Gq.st 3 rfl (by kernel_rfl) rfl .plain rfl (fun _ _ _ h => h) ⟨hB4, E⟩ (fun w' x => Still.at' sl23 hp12_w8 rfl rfl) ?_
    refine Gq.st 4 rfl (by kernel_rfl) rfl .plain rfl (fun _ _ _ h => h) ⟨hB4, E⟩ (fun w' x => Still.loadA one55 rfl (hp12_w8.ext (x.2)).1) ?_
    refine Gq.st 5 rfl (by kernel_rfl) rfl .plain rfl (fun _ _ _ h => h) ⟨hB4, E⟩ (fun w' x => Still.fieldAddr fld26_0 rfl) ?_
    refine Gq.st 6 rfl (by kernel_rfl) rfl .plain rfl (fun _ _ _ h => h) ⟨hB4, E⟩ (fun w' x => Still.loadB one3 rfl x.1 rfl) ?_
    refine Gq.st 7 rfl (by kernel_rfl) rfl .plain rfl (fun _ _ _ h => h) ⟨hB4, E⟩ (fun w' x => Still.move rfl) ?_
    refine Gq.one 8 rfl (by kernel_rfl) ?_
    refine Sq.call fn126 .plain rfl rfl (l1Place_c a.al x (by omega) (by omega) _) ?_
    rintro _ _ ⟨rfl, rfl⟩
    refine Sq.nil ?_
    refine Eq.goes (fun _ => ⟨hB4, E⟩) ?_
    obtain ⟨p15, hp16_w8⟩ := Ints.at hr14 (i := ((place a.al x : Nat) : Int)) (by omega) (by have := place_lt hal hx hh; rw [valid_row hv (by omega)]; rw [Int.toNat_natCast]; exact this.1)
    refine Gq.st 9 rfl (by kernel_rfl) rfl .plain rfl (fun _ _ _ h => h) ⟨hB4, E⟩ (fun w' x => Still.at' sl55 hp16_w8 rfl rfl) ?_
    refine Gq.st 10 rfl (by kernel_rfl) rfl .plain rfl (fun _ _ _ h => h) ⟨hB4, E⟩ (fun w' x => Still.loadA one3 rfl (hp16_w8.ext (x.2)).1) ?_
    refine Gq.one 11 rfl (by kernel_rfl) ?_
    refine Sq.assign .plain rfl rfl ?_
    refine Sq.nil ?_
    refine Eq.goes (fun h => absurd h (by decide)) ?_
    refine Gq.done (by kernel_rfl) ?_
    refine Eq.next ?_
    refine Cq.ret ?_
    refine Eq.ret1 rfl rfl ?_
    exact ⟨by rw [goA_yes hh]; rfl, E⟩
  refine Sq.notF .plain rfl rfl ?_
  refine Sq.nil ?_
  refine Eq.next ?_
  refine Cq.thn rfl ?_
  refine Cq.seq ?_
  refine Cq.region ?_
  refine Sq.move .plain rfl rfl ?_
  refine Sq.assign .plain rfl rfl ?_
  refine Sq.nil ?_
  refine Eq.next ?_
  refine Cq.ret ?_
  refine Eq.pastRet ?_
  refine Eq.ret1 rfl rfl ?_
  exact ⟨by rw [goA_no hh], E⟩
set_option maxRecDepth 100000 in
theorem tableOf_c (w0 : World) (a : A) (nx ac : Value) (hnx : Rows w0 55 3 nx a.next) (hac : Bools w0 4 ac a.acc) (hv : validA a = true) : Ret Try.prog 43 #[Value.agg #[Value.int .i64 a.al, nx, ac]] w0 (fun v w => (∃ b xs, v = .slice (some ⟨b, 0, none⟩) a.next.length a.next.length ∧ w0.heap.size ≤ b ∧ Blk w b 57 (xs.map (Value.int .i64)) ∧ Tab a xs) ∧ Ext w0 w) := by
  have E := Ext.refl w0
  have hvs := validA_spec.1 hv
  have hvs1 := hvs.1
  have hvs2 := hvs.2.1
  refine Ret.of (args := [Value.agg #[Value.int .i64 a.al, nx, ac]]) Try.func43 rfl rfl rfl ?_
  rintro _ rfl
  show Cq _ _ _ _ [(0, Value.agg #[Value.int .i64 a.al, nx, ac])] _
  refine Cq.seq ?_
  refine Cq.region ?_
  refine Sq.box .plain rfl rfl (fun b1 w2 e3 hB4 hlo5 => ?_)
  have hd6 := Nat.le_trans (Below.size E) hlo5
  have hs7 := Below.size e3
  replace E := E.trans e3
  refine Sq.assign .plain rfl rfl ?_
  refine Sq.nil ?_
  refine Eq.next ?_
  refine Cq.seq ?_
  refine Cq.region ?_
  refine Sq.fieldAddr fld26_1 .plain rfl rfl ?_
  refine Sq.loadB one23 .plain rfl rfl hB4 rfl ?_
  refine Sq.lenRows (hnx.ext E) .plain rfl und23 rfl ?_
  refine Sq.makeK slk52 (mk52).1 (by decide) (mk52).2 .plain rfl rfl rfl rfl (by omega) (fun b8 w9 e10 hlo11 hB12 => ?_)
  have hd13 := Nat.le_trans (Below.size E) hlo11
  have hd14 := Nat.lt_of_lt_of_le hB4.lt hlo11
  have hs15 := Below.size e10
  replace E := E.trans e10
  replace hB4 := hB4.ext e10
  refine Sq.assign .plain rfl rfl ?_
  refine Sq.nil ?_
  refine Eq.next ?_
  refine Cq.seq ?_
  refine Cq.region ?_
  refine Sq.fieldAddr fld26_0 .plain rfl rfl ?_
  refine Sq.loadB one3 .plain rfl rfl hB4 rfl ?_
  have hd20 := hB4.lt
  have hd21 := hB12.lt
  refine Sq.call fn45 .plain rfl rfl (lettersOf_c a.al (by omega) _) ?_
  rintro v16 w17 ⟨hl19, e18⟩
  have hs22 := Below.size E
  have hs23 := Below.size e18
  replace E := E.trans e18
  replace hB4 := hB4.ext e18
  replace hB12 := hB12.ext e18
  refine Sq.assign .plain rfl rfl ?_
  refine Sq.nil ?_
  refine Eq.next ?_
  refine Cq.seq ?_
  refine Cq.seq ?_
  refine Cq.region ?_
  refine Sq.fieldAddr fld26_1 .plain rfl rfl ?_
  refine Sq.loadB one23 .plain rfl rfl hB4 rfl ?_
  refine Sq.lenRows (hnx.ext E) .plain rfl und23 rfl ?_
  refine Sq.move .plain rfl rfl ?_
  refine Sq.nil ?_
  refine Eq.next ?_
  refine Cq.block ?_
  refine Cq.loop (fun nn w ls => ∃ (q : Int), ∃ (xs : List Int), ls = [(3, Value.slice (some ⟨b8, 0, none⟩) a.next.length a.next.length), (4, v16), (18, nx), (19, Value.int .i64 (List.length a.next : Int)), (20, Value.int .i64 q)] ∧ (0 ≤ q ∧ q ≤ a.next.length) ∧ Blk w b8 57 (xs.map (Value.int .i64)) ∧ TabPre a q.toNat 0 xs ∧ Ext w0 w ∧ Own w w9.heap.size 3 v16 ((letters a.al).map (Value.int .i64)) ∧ nn = ((a.next.length : Int) - q).toNat) _ _ ⟨0, _, rfl, by omega, hB12, TabPre.zero a, E, hl19, rfl⟩ (.cons rfl (.cons rfl (.cons rfl (.cons rfl (.cons rfl (.nil)))))) ?_
  rintro nn wl1 ls ⟨q, xs, rfl, hq, hT, ht, E, hl19, rfl⟩
  have hs24 := Below.size E
  have htl := ht.1
  refine Cq.seq ?_
  refine Cq.region ?_
  refine Sq.lss .plain rfl rfl rfl ?_
  refine Sq.part (fun c25 => ?_) (fun c25 => ?_)
  · refine Sq.nil ?_
    refine Eq.next ?_
    refine Cq.seq ?_
    refine Cq.thn rfl ?_
    refine Cq.skip ?_
    refine Eq.next ?_
    refine Cq.seq ?_
    refine Cq.block ?_
    refine Cq.seq ?_
    refine Cq.region ?_
    refine Sq.move .plain rfl rfl ?_
    refine Sq.idxRows sl23 one55 (hnx.ext E) .plain rfl rfl rfl .plain rfl rfl (by omega) (by omega) (fun r26 hr27 => ?_)
    refine Sq.assign .plain rfl rfl ?_
    refine Sq.assign .plain rfl rfl ?_
    refine Sq.nil ?_
    refine Eq.next ?_
    refine Cq.seq ?_
    refine Cq.seq ?_
    refine Cq.region ?_
    refine Sq.move .plain rfl rfl ?_
    refine Sq.nil ?_
    refine Eq.next ?_
    refine Cq.block ?_
    refine Cq.loop (fun nn w ls => ∃ (l : Int), ∃ (xs : List Int), ls = [(3, Value.slice (some ⟨b8, 0, none⟩) a.next.length a.next.length), (4, v16), (5, Value.int .i64 q), (6, r26), (18, nx), (19, Value.int .i64 (List.length a.next : Int)), (20, Value.int .i64 q), (25, Value.int .i64 l)] ∧ (0 ≤ l ∧ l ≤ 6) ∧ Blk w b8 57 (xs.map (Value.int .i64)) ∧ TabPre a q.toNat l.toNat xs ∧ Ext w0 w ∧ Own w w9.heap.size 3 v16 ((letters a.al).map (Value.int .i64)) ∧ Ints w 3 r26 (a.next.getD q.toNat []) ∧ nn = (6 - l).toNat) _ _ ⟨0, _, rfl, by omega, hT, ht, E, hl19, hr27, rfl⟩ (.cons rfl (.cons rfl (.cons rfl (.cons rfl (.cons rfl (.cons rfl (.cons rfl (.cons rfl (.nil))))))))) ?_
    rintro nn wl2 ls ⟨l, xs, rfl, hl, hT, ht, E, hl19, hr27, rfl⟩
    have hs28 := Below.size E
    have htl := ht.1
    refine Cq.seq ?_
    refine Cq.region ?_
    refine Sq.lss .plain rfl rfl rfl ?_
    refine Sq.part (fun c29 => ?_) (fun c29 => ?_)
    · refine Sq.nil ?_
      refine Eq.next ?_
      refine Cq.seq ?_
      refine Cq.thn rfl ?_
      refine Cq.skip ?_
      refine Eq.next ?_
      refine Cq.seq ?_
      refine Cq.block ?_
      refine Cq.seq ?_
      refine Cq.region ?_
      refine Sq.move .plain rfl rfl ?_
      refine Sq.assign .plain rfl rfl ?_
      refine Sq.nil ?_
      refine Eq.next ?_
      refine Cq.region ?_
      refine Sq.move .plain rfl rfl ?_
      refine Sq.move .plain rfl rfl ?_
      refine Sq.move .plain rfl rfl ?_
      refine Sq.move .plain rfl rfl ?_
      refine Sq.val .plain rfl rfl (Still.ixS slk52 rfl rfl (by omega) (by omega)) ?_
      refine Sq.val .plain rfl rfl (Still.ixA ar57 rfl rfl (by omega) (by omega)) ?_
      refine Sq.store one3 .plain rfl rfl rfl hT (by rw [List.length_map]; omega) (fun w30 g31 hB32 => ?_)
      have hs33 := World.grownBy.size g31
      replace E := E.grown g31 (fun k hk => by injection hk with hk; subst hk; omega)
      replace hl19 := hl19.stored g31 hT (by decide)
      replace hr27 := hr27.stored g31 hT (by decide)
      replace hT := hB32
      rw [← List.map_set] at hT
      refine Sq.nil ?_
      refine Eq.end ?_
      refine Eq.next ?_
      refine Cq.region ?_
      refine Sq.add .plain rfl rfl rfl (by omega) ?_
      refine Sq.move .plain rfl rfl ?_
      refine Sq.nil ?_
      have e1 := toNat_succ hl.1
      have e2 := ht.step (by omega) (by omega)
      rw [Int.toNat_of_nonneg hq.1] at e2
      refine Eq.round _ _ ⟨l + 1, _, rfl, by omega, by rw [Nat.zero_add] at hT; exact hT, by rw [e1]; exact e2, E, hl19, hr27, rfl⟩ (by omega) (.cons rfl (.cons rfl (.cons rfl (.cons rfl (.cons rfl (.cons rfl (.cons rfl (.cons rfl (.nil)))))))))
    refine Sq.nil ?_
    refine Eq.next ?_
    refine Cq.seq ?_
    refine Cq.els rfl ?_
    refine Cq.exit ?_
    refine Eq.past ?_
    refine Eq.past ?_
    refine Eq.hit ?_
    refine Eq.next ?_
    refine Cq.seq ?_
    refine Cq.region ?_
    refine Sq.move .plain rfl rfl ?_
    refine Sq.lenInts (Own.row hl19) .plain rfl und55 rfl ?_
    refine Sq.move .plain rfl rfl ?_
    refine Sq.nil ?_
    refine Eq.next ?_
    refine Cq.block ?_
    obtain rfl : l = 6 := by omega
    refine Cq.loop (fun nn w ls => ∃ (k : Int), ∃ (xs : List Int), ls = [(3, Value.slice (some ⟨b8, 0, none⟩) a.next.length a.next.length), (4, v16), (5, Value.int .i64 q), (6, r26), (18, nx), (19, Value.int .i64 (List.length a.next : Int)), (20, Value.int .i64 q), (35, v16), (36, Value.int .i64 ((List.length (letters a.al) : Int))), (37, Value.int .i64 k)] ∧ (0 ≤ k ∧ k ≤ (letters a.al).length) ∧ Blk w b8 57 (xs.map (Value.int .i64)) ∧ TabAt a q.toNat k.toNat xs ∧ Ext w0 w ∧ Own w w9.heap.size 3 v16 ((letters a.al).map (Value.int .i64)) ∧ Ints w 3 r26 (a.next.getD q.toNat []) ∧ nn = ((letters a.al).length - k).toNat) _ _ ⟨0, _, rfl, by omega, hT, ht.at, E, hl19, hr27, rfl⟩ (.cons rfl (.cons rfl (.cons rfl (.cons rfl (.cons rfl (.cons rfl (.cons rfl (.cons rfl (.cons rfl (.cons rfl (.nil))))))))))) ?_
    rintro nn wl3 ls ⟨k, xs, rfl, hk, hT, ht, E, hl19, hr27, rfl⟩
    have hs34 := Below.size E
    have htl := ht.1
    have hlet := letters_len6 a.al
    have hlt := letters_at a.al (k := k.toNat)
    have hvr := valid_row hv (k := q.toNat) (by omega)
    refine Cq.seq ?_
    refine Cq.region ?_
    refine Sq.lss .plain rfl rfl rfl ?_
    refine Sq.part (fun c35 => ?_) (fun c35 => ?_)
    · refine Sq.nil ?_
      refine Eq.next ?_
      refine Cq.seq ?_
      refine Cq.thn rfl ?_
      refine Cq.skip ?_
      refine Eq.next ?_
      refine Cq.seq ?_
      refine Cq.block ?_
      refine Cq.seq ?_
      refine Cq.region ?_
      refine Sq.move .plain rfl rfl ?_
      refine Sq.idxInts sl55 one3 (Own.row hl19) .plain rfl rfl rfl .plain rfl rfl (by omega) (by omega) ?_
      refine Sq.assign .plain rfl rfl ?_
      refine Sq.assign .plain rfl rfl ?_
      refine Sq.nil ?_
      refine Eq.next ?_
      obtain ⟨pA, hpA⟩ := Ints.at hr27 (i := k) (by omega) (by omega)
      refine Cq.drawS 10 (fun w' => At w' 3 r26 k pA (.int .i64 ((a.next.getD q.toNat []).getD k.toNat 0))) mixed (hpA) (fun w36 e37 hS => ?_)
      clear hS
      have hs38 := Below.size e37
      replace E := E.trans e37
      replace hl19 := hl19.ext e37
      replace hr27 := hr27.ext e37
      replace hT := hT.ext e37
      replace hpA := hpA.ext e37
      refine Gq.st 0 rfl (by kernel_rfl) rfl .plain rfl (fun _ _ _ h => h) hpA (fun w' x => Still.move rfl) ?_
      refine Gq.st 1 rfl (by kernel_rfl) rfl .plain rfl (fun _ _ _ h => h) hpA (fun w' x => Still.move rfl) ?_
      refine Gq.st 2 rfl (by kernel_rfl) rfl .plain rfl (fun _ _ _ h => h) hpA (fun w' x => Still.move rfl) ?_
      refine Gq.st 3 rfl (by kernel_rfl) rfl .plain rfl (fun _ _ _ h => h) hpA (fun w' x => Still.move rfl) ?_
      refine Gq.st 4 rfl (by kernel_rfl) rfl .plain rfl (fun _ _ _ h => h) hpA (fun w' x => Still.move rfl) ?_
      refine Gq.st 5 rfl (by kernel_rfl) rfl .plain rfl (fun _ _ _ h => h) hpA (fun w' x => Still.at' sl55 hpA rfl rfl) ?_
      refine Gq.st 6 rfl (by kernel_rfl) rfl .plain rfl (fun _ _ _ h => h) hpA (fun w' x => Still.loadA one3 rfl (x).1) ?_
      refine Gq.st 7 rfl (by kernel_rfl) rfl .plain rfl (fun _ _ _ h => h) hpA (fun w' x => Still.ixS slk52 rfl rfl (by omega) (by omega)) ?_
      refine Gq.st 8 rfl (by kernel_rfl) rfl .plain rfl (fun _ _ _ h => h) hpA (fun w' x => Still.ixA ar57 rfl rfl (by have := hlt (by omega); omega) (by have := hlt (by omega); omega)) ?_
      refine Gq.one 9 rfl (by kernel_rfl) ?_
      refine Sq.store one3 .plain rfl rfl rfl hT (by rw [List.length_map]; omega) (fun w39 g40 hB41 => ?_)
      have hs42 := World.grownBy.size g40
      replace E := E.grown g40 (fun k hk => by injection hk with hk; subst hk; omega)
      replace hl19 := hl19.stored g40 hT (by decide)
      replace hr27 := hr27.stored g40 hT (by decide)
      replace hpA := hpA.stored g40 hT (by decide)
      replace hT := hB41
      rw [← List.map_set] at hT
      refine Sq.nil ?_
      refine Eq.goes (fun _ => hpA) ?_
      refine Gq.done (by kernel_rfl) ?_
      refine Eq.end ?_
      refine Eq.next ?_
      refine Cq.region ?_
      refine Sq.add .plain rfl rfl rfl (by omega) ?_
      refine Sq.move .plain rfl rfl ?_
      refine Sq.nil ?_
      have e1 := toNat_succ hk.1
      refine Eq.round _ _ ⟨k + 1, _, rfl, by omega, by rw [Nat.zero_add] at hT; exact hT, by rw [e1]; exact ht.step hvs1 (by omega) (by omega), E, hl19, hr27, rfl⟩ (by omega) (.cons rfl (.cons rfl (.cons rfl (.cons rfl (.cons rfl (.cons rfl (.cons rfl (.cons rfl (.cons rfl (.cons rfl (.nil)))))))))))
    refine Sq.nil ?_
    refine Eq.next ?_
    refine Cq.seq ?_
    refine Cq.els rfl ?_
    refine Cq.exit ?_
    refine Eq.past ?_
    refine Eq.past ?_
    refine Eq.hit ?_
    refine Eq.end ?_
    refine Eq.next ?_
    refine Cq.region ?_
    refine Sq.add .plain rfl rfl rfl (by omega) ?_
    refine Sq.move .plain rfl rfl ?_
    refine Sq.nil ?_
    have e1 := toNat_succ hq.1
    refine Eq.round _ _ ⟨q + 1, _, rfl, by omega, hT, by rw [e1]; exact ht.next hvs1 (by omega) (by omega), E, hl19, rfl⟩ (by omega) (.cons rfl (.cons rfl (.cons rfl (.cons rfl (.cons rfl (.nil))))))
  refine Sq.nil ?_
  refine Eq.next ?_
  refine Cq.seq ?_
  refine Cq.els rfl ?_
  refine Cq.exit ?_
  refine Eq.past ?_
  refine Eq.past ?_
  refine Eq.hit ?_
  refine Eq.next ?_
  refine Cq.seq ?_
  refine Cq.region ?_
  refine Sq.move .plain rfl rfl ?_
  refine Sq.assign .plain rfl rfl ?_
  refine Sq.nil ?_
  refine Eq.next ?_
  refine Cq.ret ?_
  refine Eq.ret1 rfl rfl ?_
  exact ⟨⟨_, xs, rfl, by omega, hT, ht.done (by omega)⟩, E⟩
end Go.Proofs.Ytoboklelbbgcnaa
set_option linter.unusedSimpArgs false
set_option linter.unusedVariables false
namespace Go.Proofs.Ytoboklelbbgcnaa
open Go.RowKit
set_option maxRecDepth 100000 in
theorem letterAt_c (s : ByteArray) (i : Int) (hi : 0 ≤ i ∧ i < s.size) (w0 : World) : Ret Try.prog 97 #[Value.string s, Value.int .i64 i] w0 (fun v w => v = .int .i64 (clip ((lts s).getD i.toNat 0)) ∧ w0 = w) := by
  refine Ret.of (args := [Value.string s, Value.int .i64 i]) Try.func97 rfl rfl rfl ?_
  rintro _ rfl
  show Cq _ _ _ _ [(0, Value.string s), (1, Value.int .i64 i)] _
  refine Cq.seq ?_
  refine Cq.region ?_
  refine Sq.assign .plain rfl rfl ?_
  refine Sq.nil ?_
  refine Eq.next ?_
  refine Cq.seq ?_
  refine Cq.region ?_
  refine Sq.move .plain rfl rfl ?_
  refine Sq.move .plain rfl rfl ?_
  refine Sq.idxStr .plain rfl und9 rfl rfl (by omega) (str_at (by omega)) ?_
  refine Sq.conv conv5_3 .plain rfl rfl (u8_ok _) ?_
  refine Sq.sub .plain rfl rfl rfl (by have := u8_le (s.data.toList.getD i.toNat 0); omega) ?_
  refine Sq.assign .plain rfl rfl ?_
  refine Sq.nil ?_
  refine Eq.next ?_
  refine Cq.seq ?_
  refine Cq.seq ?_
  refine Cq.region ?_
  refine Sq.move .plain rfl rfl ?_
  refine Sq.lss .plain rfl rfl rfl ?_
  refine Sq.part (fun c2 => ?_) (fun c2 => ?_)
  · refine Sq.move .plain rfl rfl ?_
    refine Sq.off rfl rfl rfl rfl rfl rfl ?_
    refine Sq.off rfl rfl rfl rfl rfl rfl ?_
    refine Sq.pickT .plain rfl rfl rfl ?_
    refine Sq.nil ?_
    refine Eq.next ?_
    refine Cq.thn rfl ?_
    refine Cq.seq ?_
    refine Cq.region ?_
    refine Sq.assign .plain rfl rfl ?_
    refine Sq.nil ?_
    refine Eq.next ?_
    refine Cq.ret ?_
    refine Eq.pastRet ?_
    refine Eq.ret1 rfl rfl ?_
    exact ⟨by rw [lts_at (by omega)]; first | rw [clip_in (by omega)] | rw [clip_out (by omega)], rfl⟩
  refine Sq.move .plain rfl rfl ?_
  refine Sq.move (.met rfl rfl rfl) rfl rfl ?_
  refine Sq.geq (.met rfl rfl rfl) rfl rfl rfl ?_
  refine Sq.part (fun c3 => ?_) (fun c3 => ?_)
  · refine Sq.pickF .plain rfl rfl rfl ?_
    refine Sq.nil ?_
    refine Eq.next ?_
    refine Cq.thn rfl ?_
    refine Cq.seq ?_
    refine Cq.region ?_
    refine Sq.assign .plain rfl rfl ?_
    refine Sq.nil ?_
    refine Eq.next ?_
    refine Cq.ret ?_
    refine Eq.pastRet ?_
    refine Eq.ret1 rfl rfl ?_
    exact ⟨by rw [lts_at (by omega)]; first | rw [clip_in (by omega)] | rw [clip_out (by omega)], rfl⟩
  refine Sq.pickF .plain rfl rfl rfl ?_
  refine Sq.nil ?_
  refine Eq.next ?_
  refine Cq.els rfl ?_
  refine Cq.skip ?_
  refine Eq.next ?_
  refine Cq.seq ?_
  refine Cq.region ?_
  refine Sq.move .plain rfl rfl ?_
  refine Sq.assign .plain rfl rfl ?_
  refine Sq.nil ?_
  refine Eq.next ?_
  refine Cq.ret ?_
  refine Eq.ret1 rfl rfl ?_
  exact ⟨by rw [lts_at (by omega)]; first | rw [clip_in (by omega)] | rw [clip_out (by omega)], rfl⟩
set_option maxRecDepth 100000 in
theorem within_c (s : ByteArray) (al : Int) (w0 : World) : Ret Try.prog 90 #[Value.string s, Value.int .i64 al] w0 (fun v w => v = .bool (within s al) ∧ w0 = w) := by
  refine Ret.of (args := [Value.string s, Value.int .i64 al]) Try.func90 rfl rfl rfl ?_
  rintro _ rfl
  show Cq _ _ _ _ [(0, Value.string s), (1, Value.int .i64 al)] _
  refine Cq.seq ?_
  refine Cq.region ?_
  refine Sq.assign .plain rfl rfl ?_
  refine Sq.nil ?_
  refine Eq.next ?_
  refine Cq.seq ?_
  refine Cq.seq ?_
  refine Cq.region ?_
  refine Sq.move .plain rfl rfl ?_
  refine Sq.call fn42 .plain rfl rfl (isAlphabet_c _ _) ?_
  rintro _ _ ⟨rfl, rfl⟩
  refine Sq.part (fun hal => ?_) (fun hal => ?_)
  · refine Sq.notT .plain rfl rfl ?_
    refine Sq.move .plain rfl rfl ?_
    refine Sq.move (.met rfl rfl rfl) rfl rfl ?_
    refine Sq.lenStr (.met rfl rfl rfl) rfl und9 rfl ?_
    refine Sq.gtr (.met rfl rfl rfl) rfl rfl rfl ?_
    refine Sq.part (fun c1 => ?_) (fun c1 => ?_)
    · refine Sq.pickF .plain rfl rfl rfl ?_
      refine Sq.nil ?_
      refine Eq.next ?_
      refine Cq.thn rfl ?_
      refine Cq.seq ?_
      refine Cq.region ?_
      refine Sq.assign .plain rfl rfl ?_
      refine Sq.nil ?_
      refine Eq.next ?_
      refine Cq.ret ?_
      refine Eq.pastRet ?_
      refine Eq.ret1 rfl rfl ?_
      exact ⟨by first | rw [within_al (by omega)] | rw [within_size (by omega)] | rw [within_bad (k := k.toNat) (by omega) (by rw [← hs_clip hal]; exact hb)] | rw [within_good (k := k.toNat) hal (by omega) hp (by omega)], rfl⟩
    refine Sq.pickF .plain rfl rfl rfl ?_
    refine Sq.nil ?_
    refine Eq.next ?_
    refine Cq.els rfl ?_
    refine Cq.skip ?_
    refine Eq.next ?_
    refine Cq.seq ?_
    refine Cq.seq ?_
    refine Cq.region ?_
    refine Sq.move .plain rfl rfl ?_
    refine Sq.lenStr .plain rfl und9 rfl ?_
    refine Sq.move .plain rfl rfl ?_
    refine Sq.nil ?_
    refine Eq.next ?_
    refine Cq.block ?_
    refine Cq.loop (fun nn w ls => ∃ (k : Int), ls = [(0, Value.string s), (1, Value.int .i64 al), (15, Value.int .i64 (ByteArray.size s : Int)), (16, Value.int .i64 k)] ∧ w0 = w ∧ (0 ≤ k ∧ k ≤ s.size) ∧ ((lts s).take k.toNat).all (hs al) = true ∧ nn = ((s.size : Int) - k).toNat) _ _ ⟨0, rfl, rfl, by omega, rfl, rfl⟩ (.cons rfl (.cons rfl (.cons rfl (.cons rfl (.nil))))) ?_
    rintro n1 w ls' ⟨k, rfl, rfl, hk, hp, rfl⟩
    have hll := lts_length s
    refine Cq.seq ?_
    refine Cq.region ?_
    refine Sq.lss .plain rfl rfl rfl ?_
    refine Sq.part (fun c2 => ?_) (fun c2 => ?_)
    · refine Sq.nil ?_
      refine Eq.next ?_
      refine Cq.seq ?_
      refine Cq.thn rfl ?_
      refine Cq.skip ?_
      refine Eq.next ?_
      refine Cq.seq ?_
      refine Cq.block ?_
      refine Cq.seq ?_
      refine Cq.region ?_
      refine Sq.move .plain rfl rfl ?_
      refine Sq.assign .plain rfl rfl ?_
      refine Sq.nil ?_
      refine Eq.next ?_
      refine Cq.seq ?_
      refine Cq.region ?_
      refine Sq.move .plain rfl rfl ?_
      refine Sq.move .plain rfl rfl ?_
      refine Sq.move .plain rfl rfl ?_
      refine Sq.call fn97 .plain rfl rfl (letterAt_c s k (by omega) _) ?_
      rintro _ _ ⟨rfl, rfl⟩
      refine Sq.call fn73 .plain rfl rfl (has_c _ _ (by omega) _) ?_
      rintro _ _ ⟨rfl, rfl⟩
      refine Sq.partB (fun hb => ?_) (fun hb => ?_)
      · refine Sq.notT .plain rfl rfl ?_
        refine Sq.nil ?_
        refine Eq.next ?_
        refine Cq.els rfl ?_
        refine Cq.skip ?_
        refine Eq.end ?_
        refine Eq.next ?_
        refine Cq.region ?_
        refine Sq.add .plain rfl rfl rfl (by omega) ?_
        refine Sq.move .plain rfl rfl ?_
        refine Sq.nil ?_
        have e1 := toNat_succ hk.1
        refine Eq.round _ _ ⟨k + 1, rfl, rfl, by omega, by rw [e1]; exact all_snoc (d := 0) hp (by omega) (by rw [← hs_clip hal]; exact hb), rfl⟩ (by omega) (.cons rfl (.cons rfl (.cons rfl (.cons rfl (.nil)))))
      refine Sq.notF .plain rfl rfl ?_
      refine Sq.nil ?_
      refine Eq.next ?_
      refine Cq.thn rfl ?_
      refine Cq.seq ?_
      refine Cq.region ?_
      refine Sq.assign .plain rfl rfl ?_
      refine Sq.nil ?_
      refine Eq.next ?_
      refine Cq.ret ?_
      refine Eq.outRet ?_
      refine Eq.pastRet ?_
      refine Eq.pastRet ?_
      refine Eq.outRet ?_
      refine Eq.pastRet ?_
      refine Eq.ret1 rfl rfl ?_
      exact ⟨by first | rw [within_al (by omega)] | rw [within_size (by omega)] | rw [within_bad (k := k.toNat) (by omega) (by rw [← hs_clip hal]; exact hb)] | rw [within_good (k := k.toNat) hal (by omega) hp (by omega)], rfl⟩
    refine Sq.nil ?_
    refine Eq.next ?_
    refine Cq.seq ?_
    refine Cq.els rfl ?_
    refine Cq.exit ?_
    refine Eq.past ?_
    refine Eq.past ?_
    refine Eq.hit ?_
    refine Eq.next ?_
    refine Cq.seq ?_
    refine Cq.region ?_
    refine Sq.assign .plain rfl rfl ?_
    refine Sq.nil ?_
    refine Eq.next ?_
    refine Cq.ret ?_
    refine Eq.ret1 rfl rfl ?_
    exact ⟨by first | rw [within_al (by omega)] | rw [within_size (by omega)] | rw [within_bad (k := k.toNat) (by omega) (by rw [← hs_clip hal]; exact hb)] | rw [within_good (k := k.toNat) hal (by omega) hp (by omega)], rfl⟩
  refine Sq.notF .plain rfl rfl ?_
  refine Sq.move .plain rfl rfl ?_
  refine Sq.off rfl rfl rfl rfl rfl rfl ?_
  refine Sq.off rfl rfl rfl rfl rfl rfl ?_
  refine Sq.off rfl rfl rfl rfl rfl rfl ?_
  refine Sq.pickT .plain rfl rfl rfl ?_
  refine Sq.nil ?_
  refine Eq.next ?_
  refine Cq.thn rfl ?_
  refine Cq.seq ?_
  refine Cq.region ?_
  refine Sq.assign .plain rfl rfl ?_
  refine Sq.nil ?_
  refine Eq.next ?_
  refine Cq.ret ?_
  refine Eq.pastRet ?_
  refine Eq.ret1 rfl rfl ?_
  exact ⟨by first | rw [within_al (by omega)] | rw [within_size (by omega)] | rw [within_bad (k := k.toNat) (by omega) (by rw [← hs_clip hal]; exact hb)] | rw [within_good (k := k.toNat) hal (by omega) hp (by omega)], rfl⟩
set_option maxRecDepth 100000 in
theorem after_c (w0 : World) (a : A) (nx ac : Value) (hnx : Rows w0 55 3 nx a.next) (hac : Bools w0 4 ac a.acc) (s : ByteArray) (hsz : s.size ≤ 1000000) : Ret Try.prog 62 #[Value.agg #[Value.int .i64 a.al, nx, ac], Value.string s] w0 (fun v w => v = .int .i64 (after a s) ∧ Ext w0 w) := by
  have E := Ext.refl w0
  refine Ret.of (args := [Value.agg #[Value.int .i64 a.al, nx, ac], Value.string s]) Try.func62 rfl rfl rfl ?_
  rintro _ rfl
  show Cq _ _ _ _ [(0, Value.agg #[Value.int .i64 a.al, nx, ac]), (1, Value.string s)] _
  refine Cq.seq ?_
  refine Cq.region ?_
  refine Sq.box .plain rfl rfl (fun b1 w2 e3 hB4 hlo5 => ?_)
  have hd6 := Nat.le_trans (Below.size E) hlo5
  have hs7 := Below.size e3
  replace E := E.trans e3
  refine Sq.assign .plain rfl rfl ?_
  refine Sq.nil ?_
  refine Eq.next ?_
  refine Cq.seq ?_
  refine Cq.seq ?_
  refine Cq.region ?_
  refine Sq.loadAgg agg26 .plain rfl rfl hB4 rfl ?_
  have hd11 := hB4.lt
  refine Sq.call fn18 .plain rfl rfl (valid_c _ a _ _ (hnx.ext E) (hac.ext E)) ?_
  rintro _ w9 ⟨rfl, e10⟩
  have hs12 := Below.size E
  have hs13 := Below.size e10
  replace E := E.trans e10
  replace hB4 := hB4.ext e10
  refine Sq.partB (fun hv => ?_) (fun hv => ?_)
  · refine Sq.notT .plain rfl rfl ?_
    refine Sq.move .plain rfl rfl ?_
    refine Sq.move (.met rfl rfl rfl) rfl rfl ?_
    refine Sq.fieldAddr fld26_0 (.met rfl rfl rfl) rfl rfl ?_
    refine Sq.loadB one3 (.met rfl rfl rfl) rfl rfl hB4 rfl ?_
    refine Sq.call fn90 (.met rfl rfl rfl) rfl rfl (within_c s a.al _) ?_
    rintro _ _ ⟨rfl, rfl⟩
    refine Sq.partB (fun hw => ?_) (fun hw => ?_)
    · refine Sq.notT (.met rfl rfl rfl) rfl rfl ?_
      refine Sq.pickF .plain rfl rfl rfl ?_
      refine Sq.nil ?_
      refine Eq.next ?_
      refine Cq.els rfl ?_
      refine Cq.skip ?_
      refine Eq.next ?_
      refine Cq.seq ?_
      refine Cq.region ?_
      refine Sq.loadAgg agg26 .plain rfl rfl hB4 rfl ?_
      have hd22 := hB4.lt
      refine Sq.call fn43 .plain rfl rfl (tableOf_c _ a _ _ (hnx.ext E) (hac.ext E) hv) ?_
      rintro _ w15 ⟨⟨b17, xs18, rfl, hlo19, hT20, hTab21⟩, e16⟩
      have hs23 := Below.size E
      have hs24 := Below.size e16
      replace E := E.trans e16
      refine Sq.assign .plain rfl rfl ?_
      refine Sq.nil ?_
      refine Eq.next ?_
      refine Cq.seq ?_
      refine Cq.region ?_
      refine Sq.assign .plain rfl rfl ?_
      refine Sq.nil ?_
      refine Eq.next ?_
      refine Cq.seq ?_
      refine Cq.seq ?_
      refine Cq.region ?_
      refine Sq.move .plain rfl rfl ?_
      refine Sq.lenStr .plain rfl und9 rfl ?_
      refine Sq.move .plain rfl rfl ?_
      refine Sq.nil ?_
      refine Eq.next ?_
      refine Cq.block ?_
      have hn1 := (validA_spec.1 hv).2.1
      refine Cq.loop (fun nn w ls => ∃ (k : Int), ∃ (q : Int), ls = [(1, Value.string s), (5, Value.slice (some ⟨b17, 0, none⟩) a.next.length a.next.length), (6, Value.int .i64 q), (21, Value.int .i64 (ByteArray.size s : Int)), (22, Value.int .i64 k)] ∧ (0 ≤ k ∧ k ≤ s.size) ∧ q = runTo a 0 s k.toNat ∧ Ext w0 w ∧ Blk w b17 57 (xs18.map (Value.int .i64)) ∧ nn = ((s.size : Int) - k).toNat) _ _ ⟨0, 0, rfl, by omega, rfl, E, hT20, rfl⟩ (.cons rfl (.cons rfl (.cons rfl (.cons rfl (.cons rfl (.nil)))))) ?_
      rintro nn wl1 ls ⟨k, q, rfl, hk, hq, E, hT20, rfl⟩
      have hs25 := Below.size E
      have hqi := runTo_in hv hw (q := 0) (by omega) k.toNat
      rw [← hq] at hqi
      have hwa := within_at hw (k := k.toNat)
      refine Cq.seq ?_
      refine Cq.region ?_
      refine Sq.lss .plain rfl rfl rfl ?_
      refine Sq.part (fun c26 => ?_) (fun c26 => ?_)
      · refine Sq.nil ?_
        refine Eq.next ?_
        refine Cq.seq ?_
        refine Cq.thn rfl ?_
        refine Cq.skip ?_
        refine Eq.next ?_
        refine Cq.seq ?_
        refine Cq.block ?_
        refine Cq.seq ?_
        refine Cq.region ?_
        refine Sq.move .plain rfl rfl ?_
        refine Sq.assign .plain rfl rfl ?_
        refine Sq.nil ?_
        refine Eq.next ?_
        refine Cq.drawS 8 (fun w' => Blk w' b17 57 (xs18.map (Value.int .i64))) mixed (hT20) (fun w27 e28 hS => ?_)
        clear hS
        have hs29 := Below.size e28
        replace E := E.trans e28
        replace hT20 := hT20.ext e28
        refine Gq.st 0 rfl (by kernel_rfl) rfl .plain rfl (fun _ _ _ h => h) hT20 (fun w' x => Still.move rfl) ?_
        refine Gq.st 1 rfl (by kernel_rfl) rfl .plain rfl (fun _ _ _ h => h) hT20 (fun w' x => Still.move rfl) ?_
        refine Gq.st 2 rfl (by kernel_rfl) rfl .plain rfl (fun _ _ _ h => h) hT20 (fun w' x => Still.move rfl) ?_
        refine Gq.st 3 rfl (by kernel_rfl) rfl .plain rfl (fun _ _ _ h => h) hT20 (fun w' x => Still.move rfl) ?_
        refine Gq.st 5 rfl (by kernel_rfl) rfl .plain rfl (fun _ _ _ h => h) hT20 (fun w' x => Still.ixS slk52 rfl rfl (by omega) (by omega)) ?_
        refine Gq.one 4 rfl (by kernel_rfl) ?_
        refine Sq.call fn97 .plain rfl rfl (letterAt_c s k (by omega) _) ?_
        rintro _ _ ⟨rfl, rfl⟩
        refine Sq.nil ?_
        refine Eq.goes (fun _ => hT20) ?_
        refine Gq.st 6 rfl (by kernel_rfl) rfl .plain rfl (fun _ _ _ h => h) hT20 (fun w' x => Still.ixA ar57 rfl rfl (by have := hwa (by omega); omega) (by have := hwa (by omega); omega)) ?_
        refine Gq.st 7 rfl (by kernel_rfl) rfl .plain rfl (fun _ _ _ h => h) hT20 (fun w' x => Still.loadB one3 rfl x (by rw [Nat.zero_add, List.getElem?_map, hTab21.2 q ((clip ((lts s).getD k.toNat 0))) (by omega) (by have := hwa (by omega); omega)]; rfl)) ?_
        refine Gq.one 8 rfl (by kernel_rfl) ?_
        refine Sq.assign .plain rfl rfl ?_
        refine Sq.nil ?_
        refine Eq.goes (fun h => absurd h (by decide)) ?_
        refine Gq.done (by kernel_rfl) ?_
        refine Eq.end ?_
        refine Eq.next ?_
        refine Cq.region ?_
        refine Sq.add .plain rfl rfl rfl (by omega) ?_
        refine Sq.move .plain rfl rfl ?_
        refine Sq.nil ?_
        have e1 := toNat_succ hk.1
        refine Eq.round _ _ ⟨k + 1, _, rfl, by omega, by rw [e1, runTo_succ (by omega), ← hq, (hwa (by omega)).1], E, hT20, rfl⟩ (by omega) (.cons rfl (.cons rfl (.cons rfl (.cons rfl (.cons rfl (.nil))))))
      refine Sq.nil ?_
      refine Eq.next ?_
      refine Cq.seq ?_
      refine Cq.els rfl ?_
      refine Cq.exit ?_
      refine Eq.past ?_
      refine Eq.past ?_
      refine Eq.hit ?_
      refine Eq.next ?_
      refine Cq.seq ?_
      refine Cq.region ?_
      refine Sq.move .plain rfl rfl ?_
      refine Sq.assign .plain rfl rfl ?_
      refine Sq.nil ?_
      refine Eq.next ?_
      refine Cq.ret ?_
      refine Eq.ret1 rfl rfl ?_
      exact ⟨by rw [after_good hv hw (k := k.toNat) (by omega), ← hq], E⟩
    refine Sq.notF (.met rfl rfl rfl) rfl rfl ?_
    refine Sq.pickF .plain rfl rfl rfl ?_
    refine Sq.nil ?_
    refine Eq.next ?_
    refine Cq.thn rfl ?_
    refine Cq.seq ?_
    refine Cq.region ?_
    refine Sq.assign .plain rfl rfl ?_
    refine Sq.nil ?_
    refine Eq.next ?_
    refine Cq.ret ?_
    refine Eq.pastRet ?_
    refine Eq.ret1 rfl rfl ?_
    exact ⟨by rw [after_bad (by rintro ⟨h1, h2⟩; first | (rw [hv] at h1; exact absurd h1 (by decide)) | (rw [hw] at h2; exact absurd h2 (by decide)))], E⟩
  refine Sq.notF .plain rfl rfl ?_
  refine Sq.move .plain rfl rfl ?_
  refine Sq.off rfl rfl rfl rfl rfl rfl ?_
  refine Sq.off rfl rfl rfl rfl rfl rfl ?_
  refine Sq.off rfl rfl rfl rfl rfl rfl ?_
  refine Sq.off rfl rfl rfl rfl rfl rfl ?_
  refine Sq.off rfl rfl rfl rfl rfl rfl ?_
  refine Sq.pickT .plain rfl rfl rfl ?_
  refine Sq.nil ?_
  refine Eq.next ?_
  refine Cq.thn rfl ?_
  refine Cq.seq ?_
  refine Cq.region ?_
  refine Sq.assign .plain rfl rfl ?_
  refine Sq.nil ?_
  refine Eq.next ?_
  refine Cq.ret ?_
  refine Eq.pastRet ?_
  refine Eq.ret1 rfl rfl ?_
  exact ⟨by rw [after_bad (by rintro ⟨h1, h2⟩; first | (rw [hv] at h1; exact absurd h1 (by decide)) | (rw [hw] at h2; exact absurd h2 (by decide)))], E⟩
set_option maxRecDepth 100000 in
theorem accepts_c (w0 : World) (a : A) (nx ac : Value) (hnx : Rows w0 55 3 nx a.next) (hac : Bools w0 4 ac a.acc) (s : ByteArray) (hsz : s.size ≤ 1000000) : Ret Try.prog 28 #[Value.agg #[Value.int .i64 a.al, nx, ac], Value.string s] w0 (fun v w => v = .bool (accepts a s) ∧ Ext w0 w) := by
  have E := Ext.refl w0
  refine Ret.of (args := [Value.agg #[Value.int .i64 a.al, nx, ac], Value.string s]) Try.func28 rfl rfl rfl ?_
  rintro _ rfl
  show Cq _ _ _ _ [(0, Value.agg #[Value.int .i64 a.al, nx, ac]), (1, Value.string s)] _
  refine Cq.seq ?_
  refine Cq.region ?_
  refine Sq.box .plain rfl rfl (fun b1 w2 e3 hB4 hlo5 => ?_)
  have hd6 := Nat.le_trans (Below.size E) hlo5
  have hs7 := Below.size e3
  replace E := E.trans e3
  refine Sq.assign .plain rfl rfl ?_
  refine Sq.nil ?_
  refine Eq.next ?_
  refine Cq.seq ?_
  refine Cq.region ?_
  refine Sq.loadAgg agg26 .plain rfl rfl hB4 rfl ?_
  refine Sq.move .plain rfl rfl ?_
  have hd11 := hB4.lt
  refine Sq.call fn62 .plain rfl rfl (after_c _ a _ _ (hnx.ext E) (hac.ext E) s (by omega)) ?_
  rintro _ w9 ⟨rfl, e10⟩
  have hs12 := Below.size E
  have hs13 := Below.size e10
  replace E := E.trans e10
  replace hB4 := hB4.ext e10
  refine Sq.assign .plain rfl rfl ?_
  refine Sq.nil ?_
  refine Eq.next ?_
  refine Cq.seq ?_
  refine Cq.region ?_
  refine Sq.move .plain rfl rfl ?_
  refine Sq.geq .plain rfl rfl rfl ?_
  refine Sq.part (fun hge => ?_) (fun hge => ?_)
  · refine Sq.move .plain rfl rfl ?_
    refine Sq.fieldAddr fld26_2 (.met rfl rfl rfl) rfl rfl ?_
    refine Sq.loadB one24 (.met rfl rfl rfl) rfl rfl hB4 rfl ?_
    refine Sq.move (.met rfl rfl rfl) rfl rfl ?_
    refine Sq.idxBools sl24 one4 (hac.ext E) (.met rfl rfl rfl) rfl rfl rfl (.met rfl rfl rfl) rfl rfl (by first | omega | exact after_lt hge) (by first | omega | exact after_lt hge) ?_
    refine Sq.pickT .plain rfl rfl rfl ?_
    refine Sq.assign .plain rfl rfl ?_
    refine Sq.nil ?_
    refine Eq.next ?_
    refine Cq.ret ?_
    refine Eq.ret1 rfl rfl ?_
    exact ⟨by rw [accepts_T hge], E⟩
  refine Sq.move .plain rfl rfl ?_
  refine Sq.off rfl rfl rfl rfl rfl rfl ?_
  refine Sq.off rfl rfl rfl rfl rfl rfl ?_
  refine Sq.off rfl rfl rfl rfl rfl rfl ?_
  refine Sq.off rfl rfl rfl rfl rfl rfl ?_
  refine Sq.off rfl rfl rfl rfl rfl rfl ?_
  refine Sq.pickF .plain rfl rfl rfl ?_
  refine Sq.assign .plain rfl rfl ?_
  refine Sq.nil ?_
  refine Eq.next ?_
  refine Cq.ret ?_
  refine Eq.ret1 rfl rfl ?_
  exact ⟨by rw [accepts_F (by omega)], E⟩
end Go.Proofs.Ytoboklelbbgcnaa
set_option linter.unusedSimpArgs false
set_option linter.unusedVariables false
namespace Go.Proofs.Ytoboklelbbgcnaa
open Go.RowKit
set_option maxRecDepth 100000 in
theorem letterByte_c (x : Int) (hx : 0 ≤ x ∧ x ≤ 100) (w0 : World) : Ret Try.prog 119 #[Value.int .i64 x] w0 (fun v w => v = .int .u8 (97 + x) ∧ w0 = w) := by
  refine Ret.of (args := [Value.int .i64 x]) Try.func119 rfl rfl rfl ?_
  rintro _ rfl
  show Cq _ _ _ _ [(0, Value.int .i64 x)] _
  refine Cq.seq ?_
  refine Cq.region ?_
  refine Sq.assign .plain rfl rfl ?_
  refine Sq.nil ?_
  refine Eq.next ?_
  refine Cq.seq ?_
  refine Cq.region ?_
  refine Sq.move .plain rfl rfl ?_
  refine Sq.add .plain rfl rfl rfl (by omega) ?_
  refine Sq.conv8 conv3_5 .plain rfl rfl (by omega) ?_
  refine Sq.assign .plain rfl rfl ?_
  refine Sq.nil ?_
  refine Eq.next ?_
  refine Cq.ret ?_
  refine Eq.ret1 rfl rfl ?_
  exact ⟨rfl, rfl⟩
set_option maxRecDepth 100000 in
theorem reverse_c (w0 : World) (B : Nat) (r : Value) (xs : List UInt8) (ho : Own w0 B 5 r (xs.map fun b => Value.int .u8 (b.toNat : Int))) (hl : xs.length ≤ 1000) : Ret Try.prog 120 #[r] w0 (fun v w => v = .tuple #[] ∧ Own w B 5 r (xs.reverse.map fun b => Value.int .u8 (b.toNat : Int)) ∧ w0.grownBy w r.ownBlock) := by
  have hgo := World.grownBy.refl w0 r.ownBlock
  refine Ret.of (args := [r]) Try.func120 rfl rfl rfl ?_
  rintro _ rfl
  show Cq _ _ _ _ [(0, r)] _
  refine Cq.seq ?_
  refine Cq.region ?_
  refine Sq.move .plain rfl rfl ?_
  refine Sq.lenBytes (Own.row ho) .plain rfl und22 rfl ?_
  refine Sq.sub .plain rfl rfl rfl (by omega) ?_
  refine Sq.assign .plain rfl rfl ?_
  refine Sq.assign .plain rfl rfl ?_
  refine Sq.nil ?_
  refine Eq.next ?_
  refine Cq.block ?_
  rw [show ((xs.length : Int) - 1) = (xs.length : Int) - 1 - 0 by omega]
  refine Cq.loop (fun nn w ls => ∃ (i : Int), ∃ (ys : List UInt8), ls = [(0, r), (2, Value.int .i64 i), (3, Value.int .i64 ((xs.length : Int) - 1 - i))] ∧ (0 ≤ i ∧ i ≤ xs.length) ∧ Own w B 5 r (ys.map fun b => Value.int .u8 (b.toNat : Int)) ∧ RevAt xs i.toNat ys ∧ World.grownBy w0 w r.ownBlock ∧ nn = ((xs.length : Int) - i).toNat) _ _ ⟨0, _, rfl, by omega, ho, RevAt.zero xs, hgo, rfl⟩ (.cons rfl (.cons rfl (.cons rfl (.nil)))) ?_
  rintro nn wl1 ls ⟨i, ys, rfl, hi, ho, hr, hgo, rfl⟩
  have hyl := hr.1
  refine Cq.seq ?_
  refine Cq.seq ?_
  refine Cq.region ?_
  refine Sq.move .plain rfl rfl ?_
  refine Sq.move .plain rfl rfl ?_
  refine Sq.lss .plain rfl rfl rfl ?_
  refine Sq.part (fun c1 => ?_) (fun c1 => ?_)
  · refine Sq.nil ?_
    refine Eq.next ?_
    refine Cq.thn rfl ?_
    refine Cq.skip ?_
    refine Eq.next ?_
    refine Cq.seq ?_
    refine Cq.block ?_
    refine Cq.drawS 14 (fun w' => World.grownBy w0 w' r.ownBlock) mixed (hgo) (fun w2 e3 hS => ?_)
    clear hS
    have hs4 := Below.size e3
    replace hgo := grown_trans hgo (Ext.to_grown e3 _)
    replace ho := ho.ext e3
    have ho_w2 := ho
    refine Gq.st 0 rfl (by kernel_rfl) rfl .plain rfl (fun _ _ _ h => h) hgo (fun w' x => Still.move rfl) ?_
    refine Gq.st 1 rfl (by kernel_rfl) rfl .plain rfl (fun _ _ _ h => h) hgo (fun w' x => Still.move rfl) ?_
    refine Gq.st 2 rfl (by kernel_rfl) rfl .plain rfl (fun _ _ _ h => h) hgo (fun w' x => Still.move rfl) ?_
    refine Gq.st 3 rfl (by kernel_rfl) rfl .plain rfl (fun _ _ _ h => h) hgo (fun w' x => Still.move rfl) ?_
    refine Gq.st 4 rfl (by kernel_rfl) rfl .plain rfl (fun _ _ _ h => h) hgo (fun w' x => Still.move rfl) ?_
    refine Gq.st 5 rfl (by kernel_rfl) rfl .plain rfl (fun _ _ _ h => h) hgo (fun w' x => Still.move rfl) ?_
    refine Gq.st 8 rfl (by kernel_rfl) rfl .plain rfl (fun _ _ _ h => h) hgo (fun w' x => Still.move rfl) ?_
    refine Gq.st 9 rfl (by kernel_rfl) rfl .plain rfl (fun _ _ _ h => h) hgo (fun w' x => Still.move rfl) ?_
    refine Gq.two 6 10 rfl rfl (by kernel_rfl) ?_ ?_
    · obtain ⟨p5, hp6⟩ := Bytes.at (Own.row ho) (i := ((xs.length : Int) - 1 - i)) (by omega) (by omega)
      refine Sq.val .plain rfl rfl (Still.at' sl22 hp6 rfl rfl) ?_
      refine Sq.nil ?_
      refine Eq.goes (fun _ => hgo) ?_
      refine Gq.two 7 10 rfl rfl (by kernel_rfl) ?_ ?_
      · refine Sq.val .plain rfl rfl (Still.loadA one5 rfl hp6.1) ?_
        refine Sq.nil ?_
        refine Eq.goes (fun _ => hgo) ?_
        refine Gq.one 10 rfl (by kernel_rfl) ?_
        obtain ⟨p7, hp8⟩ := Bytes.at (Own.row ho) (i := i) (by omega) (by omega)
        refine Sq.val .plain rfl rfl (Still.at' sl22 hp8 rfl rfl) ?_
        refine Sq.nil ?_
        refine Eq.goes (fun _ => hgo) ?_
        refine Gq.one 11 rfl (by kernel_rfl) ?_
        refine Sq.val .plain rfl rfl (Still.loadA one5 rfl hp8.1) ?_
        refine Sq.nil ?_
        refine Eq.goes (fun _ => hgo) ?_
        obtain ⟨p9, hp10_w2⟩ := Bytes.at (Own.row ho_w2) (i := i) (by omega) (by omega)
        have hp10o := AtO.of ho_w2 hp10_w2
        refine Gq.st 12 rfl (by kernel_rfl) rfl .plain rfl (fun _ _ _ h => h) hgo (fun w' x => Still.at' sl22 hp10_w2 rfl rfl) ?_
        refine Gq.one 13 rfl (by kernel_rfl) ?_
        refine Sq.storeO one5 ho hp10o .plain rfl rfl rfl (fun w11 g12 ho13 => ?_)
        have hs14 := World.grownBy.size g12
        replace hgo := grown_trans hgo g12
        replace ho := ho13
        refine Sq.nil ?_
        refine Eq.goes (fun _ => hgo) ?_
        refine Gq.one 14 rfl (by kernel_rfl) ?_
        obtain ⟨p15, hp16o⟩ := Own.at ho (i := ((xs.length : Int) - 1 - i)) (by omega) (by first | (simp only [List.length_map]; omega) | (simp; omega))
        refine Sq.atO sl22 hp16o .plain rfl rfl rfl ?_
        refine Sq.nil ?_
        refine Eq.goes (fun h => absurd h (by decide)) ?_
        refine Gq.one 15 rfl (by kernel_rfl) ?_
        refine Sq.storeO one5 ho hp16o .plain rfl rfl rfl (fun w17 g18 ho19 => ?_)
        have hs20 := World.grownBy.size g18
        replace hgo := grown_trans hgo g18
        replace ho := ho19
        refine Sq.nil ?_
        refine Eq.goes (fun h => absurd h (by decide)) ?_
        refine Gq.done (by kernel_rfl) ?_
        refine Eq.end ?_
        refine Eq.next ?_
        refine Cq.region ?_
        refine Sq.move .plain rfl rfl ?_
        refine Sq.add .plain rfl rfl rfl (by omega) ?_
        refine Sq.move .plain rfl rfl ?_
        refine Sq.sub .plain rfl rfl rfl (by omega) ?_
        refine Sq.assign .plain rfl rfl ?_
        refine Sq.assign .plain rfl rfl ?_
        refine Sq.nil ?_
        have e1 := toNat_succ hi.1
        have e2 : (((xs.length : Int) - 1 - i) - 1) = (xs.length : Int) - 1 - (i + 1) := by omega
        have e3 := hr.step (by omega)
        have e4 : ((xs.length : Int) - 1 - i).toNat = xs.length - 1 - i.toNat := by omega
        rw [e2]
        refine Eq.round _ _ ⟨i + 1, _, rfl, by omega, Own.setU2 ho, by rw [e1, e4]; exact e3, hgo, rfl⟩ (by omega) (.cons rfl (.cons rfl (.cons rfl (.nil))))
      obtain ⟨p21, hp22⟩ := Bytes.at (Own.row ho) (i := i) (by omega) (by omega)
      refine Sq.val .plain rfl rfl (Still.at' sl22 hp22 rfl rfl) ?_
      refine Sq.nil ?_
      refine Eq.goes (fun _ => hgo) ?_
      refine Gq.two 7 11 rfl rfl (by kernel_rfl) ?_ ?_
      · refine Sq.val .plain rfl rfl (Still.loadA one5 rfl hp6.1) ?_
        refine Sq.nil ?_
        refine Eq.goes (fun _ => hgo) ?_
        refine Gq.one 11 rfl (by kernel_rfl) ?_
        refine Sq.val .plain rfl rfl (Still.loadA one5 rfl hp22.1) ?_
        refine Sq.nil ?_
        refine Eq.goes (fun _ => hgo) ?_
        obtain ⟨p23, hp24_w2⟩ := Bytes.at (Own.row ho_w2) (i := i) (by omega) (by omega)
        have hp24o := AtO.of ho_w2 hp24_w2
        refine Gq.st 12 rfl (by kernel_rfl) rfl .plain rfl (fun _ _ _ h => h) hgo (fun w' x => Still.at' sl22 hp24_w2 rfl rfl) ?_
        refine Gq.one 13 rfl (by kernel_rfl) ?_
        refine Sq.storeO one5 ho hp24o .plain rfl rfl rfl (fun w25 g26 ho27 => ?_)
        have hs28 := World.grownBy.size g26
        replace hgo := grown_trans hgo g26
        replace ho := ho27
        refine Sq.nil ?_
        refine Eq.goes (fun _ => hgo) ?_
        refine Gq.one 14 rfl (by kernel_rfl) ?_
        obtain ⟨p29, hp30o⟩ := Own.at ho (i := ((xs.length : Int) - 1 - i)) (by omega) (by first | (simp only [List.length_map]; omega) | (simp; omega))
        refine Sq.atO sl22 hp30o .plain rfl rfl rfl ?_
        refine Sq.nil ?_
        refine Eq.goes (fun h => absurd h (by decide)) ?_
        refine Gq.one 15 rfl (by kernel_rfl) ?_
        refine Sq.storeO one5 ho hp30o .plain rfl rfl rfl (fun w31 g32 ho33 => ?_)
        have hs34 := World.grownBy.size g32
        replace hgo := grown_trans hgo g32
        replace ho := ho33
        refine Sq.nil ?_
        refine Eq.goes (fun h => absurd h (by decide)) ?_
        refine Gq.done (by kernel_rfl) ?_
        refine Eq.end ?_
        refine Eq.next ?_
        refine Cq.region ?_
        refine Sq.move .plain rfl rfl ?_
        refine Sq.add .plain rfl rfl rfl (by omega) ?_
        refine Sq.move .plain rfl rfl ?_
        refine Sq.sub .plain rfl rfl rfl (by omega) ?_
        refine Sq.assign .plain rfl rfl ?_
        refine Sq.assign .plain rfl rfl ?_
        refine Sq.nil ?_
        have e1 := toNat_succ hi.1
        have e2 : (((xs.length : Int) - 1 - i) - 1) = (xs.length : Int) - 1 - (i + 1) := by omega
        have e3 := hr.step (by omega)
        have e4 : ((xs.length : Int) - 1 - i).toNat = xs.length - 1 - i.toNat := by omega
        rw [e2]
        refine Eq.round _ _ ⟨i + 1, _, rfl, by omega, Own.setU2 ho, by rw [e1, e4]; exact e3, hgo, rfl⟩ (by omega) (.cons rfl (.cons rfl (.cons rfl (.nil))))
      refine Sq.val .plain rfl rfl (Still.loadA one5 rfl hp22.1) ?_
      refine Sq.nil ?_
      refine Eq.goes (fun _ => hgo) ?_
      refine Gq.one 7 rfl (by kernel_rfl) ?_
      refine Sq.val .plain rfl rfl (Still.loadA one5 rfl hp6.1) ?_
      refine Sq.nil ?_
      refine Eq.goes (fun _ => hgo) ?_
      obtain ⟨p35, hp36_w2⟩ := Bytes.at (Own.row ho_w2) (i := i) (by omega) (by omega)
      have hp36o := AtO.of ho_w2 hp36_w2
      refine Gq.st 12 rfl (by kernel_rfl) rfl .plain rfl (fun _ _ _ h => h) hgo (fun w' x => Still.at' sl22 hp36_w2 rfl rfl) ?_
      refine Gq.one 13 rfl (by kernel_rfl) ?_
      refine Sq.storeO one5 ho hp36o .plain rfl rfl rfl (fun w37 g38 ho39 => ?_)
      have hs40 := World.grownBy.size g38
      replace hgo := grown_trans hgo g38
      replace ho := ho39
      refine Sq.nil ?_
      refine Eq.goes (fun _ => hgo) ?_
      refine Gq.one 14 rfl (by kernel_rfl) ?_
      obtain ⟨p41, hp42o⟩ := Own.at ho (i := ((xs.length : Int) - 1 - i)) (by omega) (by first | (simp only [List.length_map]; omega) | (simp; omega))
      refine Sq.atO sl22 hp42o .plain rfl rfl rfl ?_
      refine Sq.nil ?_
      refine Eq.goes (fun h => absurd h (by decide)) ?_
      refine Gq.one 15 rfl (by kernel_rfl) ?_
      refine Sq.storeO one5 ho hp42o .plain rfl rfl rfl (fun w43 g44 ho45 => ?_)
      have hs46 := World.grownBy.size g44
      replace hgo := grown_trans hgo g44
      replace ho := ho45
      refine Sq.nil ?_
      refine Eq.goes (fun h => absurd h (by decide)) ?_
      refine Gq.done (by kernel_rfl) ?_
      refine Eq.end ?_
      refine Eq.next ?_
      refine Cq.region ?_
      refine Sq.move .plain rfl rfl ?_
      refine Sq.add .plain rfl rfl rfl (by omega) ?_
      refine Sq.move .plain rfl rfl ?_
      refine Sq.sub .plain rfl rfl rfl (by omega) ?_
      refine Sq.assign .plain rfl rfl ?_
      refine Sq.assign .plain rfl rfl ?_
      refine Sq.nil ?_
      have e1 := toNat_succ hi.1
      have e2 : (((xs.length : Int) - 1 - i) - 1) = (xs.length : Int) - 1 - (i + 1) := by omega
      have e3 := hr.step (by omega)
      have e4 : ((xs.length : Int) - 1 - i).toNat = xs.length - 1 - i.toNat := by omega
      rw [e2]
      refine Eq.round _ _ ⟨i + 1, _, rfl, by omega, Own.setU2 ho, by rw [e1, e4]; exact e3, hgo, rfl⟩ (by omega) (.cons rfl (.cons rfl (.cons rfl (.nil))))
    obtain ⟨p47, hp48⟩ := Bytes.at (Own.row ho) (i := i) (by omega) (by omega)
    refine Sq.val .plain rfl rfl (Still.at' sl22 hp48 rfl rfl) ?_
    refine Sq.nil ?_
    refine Eq.goes (fun _ => hgo) ?_
    refine Gq.two 6 11 rfl rfl (by kernel_rfl) ?_ ?_
    · obtain ⟨p49, hp50⟩ := Bytes.at (Own.row ho) (i := ((xs.length : Int) - 1 - i)) (by omega) (by omega)
      refine Sq.val .plain rfl rfl (Still.at' sl22 hp50 rfl rfl) ?_
      refine Sq.nil ?_
      refine Eq.goes (fun _ => hgo) ?_
      refine Gq.two 7 11 rfl rfl (by kernel_rfl) ?_ ?_
      · refine Sq.val .plain rfl rfl (Still.loadA one5 rfl hp50.1) ?_
        refine Sq.nil ?_
        refine Eq.goes (fun _ => hgo) ?_
        refine Gq.one 11 rfl (by kernel_rfl) ?_
        refine Sq.val .plain rfl rfl (Still.loadA one5 rfl hp48.1) ?_
        refine Sq.nil ?_
        refine Eq.goes (fun _ => hgo) ?_
        obtain ⟨p51, hp52_w2⟩ := Bytes.at (Own.row ho_w2) (i := i) (by omega) (by omega)
        have hp52o := AtO.of ho_w2 hp52_w2
        refine Gq.st 12 rfl (by kernel_rfl) rfl .plain rfl (fun _ _ _ h => h) hgo (fun w' x => Still.at' sl22 hp52_w2 rfl rfl) ?_
        refine Gq.one 13 rfl (by kernel_rfl) ?_
        refine Sq.storeO one5 ho hp52o .plain rfl rfl rfl (fun w53 g54 ho55 => ?_)
        have hs56 := World.grownBy.size g54
        replace hgo := grown_trans hgo g54
        replace ho := ho55
        refine Sq.nil ?_
        refine Eq.goes (fun _ => hgo) ?_
        refine Gq.one 14 rfl (by kernel_rfl) ?_
        obtain ⟨p57, hp58o⟩ := Own.at ho (i := ((xs.length : Int) - 1 - i)) (by omega) (by first | (simp only [List.length_map]; omega) | (simp; omega))
        refine Sq.atO sl22 hp58o .plain rfl rfl rfl ?_
        refine Sq.nil ?_
        refine Eq.goes (fun h => absurd h (by decide)) ?_
        refine Gq.one 15 rfl (by kernel_rfl) ?_
        refine Sq.storeO one5 ho hp58o .plain rfl rfl rfl (fun w59 g60 ho61 => ?_)
        have hs62 := World.grownBy.size g60
        replace hgo := grown_trans hgo g60
        replace ho := ho61
        refine Sq.nil ?_
        refine Eq.goes (fun h => absurd h (by decide)) ?_
        refine Gq.done (by kernel_rfl) ?_
        refine Eq.end ?_
        refine Eq.next ?_
        refine Cq.region ?_
        refine Sq.move .plain rfl rfl ?_
        refine Sq.add .plain rfl rfl rfl (by omega) ?_
        refine Sq.move .plain rfl rfl ?_
        refine Sq.sub .plain rfl rfl rfl (by omega) ?_
        refine Sq.assign .plain rfl rfl ?_
        refine Sq.assign .plain rfl rfl ?_
        refine Sq.nil ?_
        have e1 := toNat_succ hi.1
        have e2 : (((xs.length : Int) - 1 - i) - 1) = (xs.length : Int) - 1 - (i + 1) := by omega
        have e3 := hr.step (by omega)
        have e4 : ((xs.length : Int) - 1 - i).toNat = xs.length - 1 - i.toNat := by omega
        rw [e2]
        refine Eq.round _ _ ⟨i + 1, _, rfl, by omega, Own.setU2 ho, by rw [e1, e4]; exact e3, hgo, rfl⟩ (by omega) (.cons rfl (.cons rfl (.cons rfl (.nil))))
      refine Sq.val .plain rfl rfl (Still.loadA one5 rfl hp48.1) ?_
      refine Sq.nil ?_
      refine Eq.goes (fun _ => hgo) ?_
      refine Gq.one 7 rfl (by kernel_rfl) ?_
      refine Sq.val .plain rfl rfl (Still.loadA one5 rfl hp50.1) ?_
      refine Sq.nil ?_
      refine Eq.goes (fun _ => hgo) ?_
      obtain ⟨p63, hp64_w2⟩ := Bytes.at (Own.row ho_w2) (i := i) (by omega) (by omega)
      have hp64o := AtO.of ho_w2 hp64_w2
      refine Gq.st 12 rfl (by kernel_rfl) rfl .plain rfl (fun _ _ _ h => h) hgo (fun w' x => Still.at' sl22 hp64_w2 rfl rfl) ?_
      refine Gq.one 13 rfl (by kernel_rfl) ?_
      refine Sq.storeO one5 ho hp64o .plain rfl rfl rfl (fun w65 g66 ho67 => ?_)
      have hs68 := World.grownBy.size g66
      replace hgo := grown_trans hgo g66
      replace ho := ho67
      refine Sq.nil ?_
      refine Eq.goes (fun _ => hgo) ?_
      refine Gq.one 14 rfl (by kernel_rfl) ?_
      obtain ⟨p69, hp70o⟩ := Own.at ho (i := ((xs.length : Int) - 1 - i)) (by omega) (by first | (simp only [List.length_map]; omega) | (simp; omega))
      refine Sq.atO sl22 hp70o .plain rfl rfl rfl ?_
      refine Sq.nil ?_
      refine Eq.goes (fun h => absurd h (by decide)) ?_
      refine Gq.one 15 rfl (by kernel_rfl) ?_
      refine Sq.storeO one5 ho hp70o .plain rfl rfl rfl (fun w71 g72 ho73 => ?_)
      have hs74 := World.grownBy.size g72
      replace hgo := grown_trans hgo g72
      replace ho := ho73
      refine Sq.nil ?_
      refine Eq.goes (fun h => absurd h (by decide)) ?_
      refine Gq.done (by kernel_rfl) ?_
      refine Eq.end ?_
      refine Eq.next ?_
      refine Cq.region ?_
      refine Sq.move .plain rfl rfl ?_
      refine Sq.add .plain rfl rfl rfl (by omega) ?_
      refine Sq.move .plain rfl rfl ?_
      refine Sq.sub .plain rfl rfl rfl (by omega) ?_
      refine Sq.assign .plain rfl rfl ?_
      refine Sq.assign .plain rfl rfl ?_
      refine Sq.nil ?_
      have e1 := toNat_succ hi.1
      have e2 : (((xs.length : Int) - 1 - i) - 1) = (xs.length : Int) - 1 - (i + 1) := by omega
      have e3 := hr.step (by omega)
      have e4 : ((xs.length : Int) - 1 - i).toNat = xs.length - 1 - i.toNat := by omega
      rw [e2]
      refine Eq.round _ _ ⟨i + 1, _, rfl, by omega, Own.setU2 ho, by rw [e1, e4]; exact e3, hgo, rfl⟩ (by omega) (.cons rfl (.cons rfl (.cons rfl (.nil))))
    refine Sq.val .plain rfl rfl (Still.loadA one5 rfl hp48.1) ?_
    refine Sq.nil ?_
    refine Eq.goes (fun _ => hgo) ?_
    refine Gq.one 6 rfl (by kernel_rfl) ?_
    obtain ⟨p75, hp76⟩ := Bytes.at (Own.row ho) (i := ((xs.length : Int) - 1 - i)) (by omega) (by omega)
    refine Sq.val .plain rfl rfl (Still.at' sl22 hp76 rfl rfl) ?_
    refine Sq.nil ?_
    refine Eq.goes (fun _ => hgo) ?_
    refine Gq.one 7 rfl (by kernel_rfl) ?_
    refine Sq.val .plain rfl rfl (Still.loadA one5 rfl hp76.1) ?_
    refine Sq.nil ?_
    refine Eq.goes (fun _ => hgo) ?_
    obtain ⟨p77, hp78_w2⟩ := Bytes.at (Own.row ho_w2) (i := i) (by omega) (by omega)
    have hp78o := AtO.of ho_w2 hp78_w2
    refine Gq.st 12 rfl (by kernel_rfl) rfl .plain rfl (fun _ _ _ h => h) hgo (fun w' x => Still.at' sl22 hp78_w2 rfl rfl) ?_
    refine Gq.one 13 rfl (by kernel_rfl) ?_
    refine Sq.storeO one5 ho hp78o .plain rfl rfl rfl (fun w79 g80 ho81 => ?_)
    have hs82 := World.grownBy.size g80
    replace hgo := grown_trans hgo g80
    replace ho := ho81
    refine Sq.nil ?_
    refine Eq.goes (fun _ => hgo) ?_
    refine Gq.one 14 rfl (by kernel_rfl) ?_
    obtain ⟨p83, hp84o⟩ := Own.at ho (i := ((xs.length : Int) - 1 - i)) (by omega) (by first | (simp only [List.length_map]; omega) | (simp; omega))
    refine Sq.atO sl22 hp84o .plain rfl rfl rfl ?_
    refine Sq.nil ?_
    refine Eq.goes (fun h => absurd h (by decide)) ?_
    refine Gq.one 15 rfl (by kernel_rfl) ?_
    refine Sq.storeO one5 ho hp84o .plain rfl rfl rfl (fun w85 g86 ho87 => ?_)
    have hs88 := World.grownBy.size g86
    replace hgo := grown_trans hgo g86
    replace ho := ho87
    refine Sq.nil ?_
    refine Eq.goes (fun h => absurd h (by decide)) ?_
    refine Gq.done (by kernel_rfl) ?_
    refine Eq.end ?_
    refine Eq.next ?_
    refine Cq.region ?_
    refine Sq.move .plain rfl rfl ?_
    refine Sq.add .plain rfl rfl rfl (by omega) ?_
    refine Sq.move .plain rfl rfl ?_
    refine Sq.sub .plain rfl rfl rfl (by omega) ?_
    refine Sq.assign .plain rfl rfl ?_
    refine Sq.assign .plain rfl rfl ?_
    refine Sq.nil ?_
    have e1 := toNat_succ hi.1
    have e2 : (((xs.length : Int) - 1 - i) - 1) = (xs.length : Int) - 1 - (i + 1) := by omega
    have e3 := hr.step (by omega)
    have e4 : ((xs.length : Int) - 1 - i).toNat = xs.length - 1 - i.toNat := by omega
    rw [e2]
    refine Eq.round _ _ ⟨i + 1, _, rfl, by omega, Own.setU2 ho, by rw [e1, e4]; exact e3, hgo, rfl⟩ (by omega) (.cons rfl (.cons rfl (.cons rfl (.nil))))
  refine Sq.nil ?_
  refine Eq.next ?_
  refine Cq.els rfl ?_
  refine Cq.exit ?_
  refine Eq.past ?_
  refine Eq.past ?_
  refine Eq.hit ?_
  refine Eq.fall0 rfl ?_
  exact ⟨rfl, by rw [← hr.done (by omega)]; exact ho, hgo⟩
end Go.Proofs.Ytoboklelbbgcnaa
set_option linter.unusedSimpArgs false
set_option linter.unusedVariables false
namespace Go.Proofs.Ytoboklelbbgcnaa
open Go.RowKit
set_option maxRecDepth 100000 in
theorem numbered_c (w0 : World) (f : Int → Int → Int) (s : Int) (L : List Int) (lv fv : Value) (lim : Int) (D : Int → Prop) (hlim : 1 ≤ lim ∧ lim ≤ 1000) (hx : Ints w0 3 lv L) (hLl : L.length ≤ 100) (hL : ∀ x ∈ L, 0 ≤ x ∧ x < 6) (hD0 : D s) (hD : ∀ q, D q → ∀ x ∈ L, D (f q x)) (hM0 : ∀ i, (bfs f s L i).length ≤ 150) (hclo : Clo Try.prog w0 fv D f) : Ret Try.prog 98 #[Value.int .i64 s, lv, Value.int .i64 lim, fv] w0 (fun v w => (∃ nv xv, v = .tuple #[nv, xv, .bool (decide ((((ord f s L).length : Nat) : Int) ≤ lim))] ∧ Own w w0.heap.size 3 nv ((if (((ord f s L).length : Nat) : Int) ≤ lim then ord f s L else []).map (Value.int .i64)) ∧ OwnRows w w0.heap.size w.heap.size 55 3 xv (if (((ord f s L).length : Nat) : Int) ≤ lim then (ord f s L).map (rowAt f L (ord f s L)) else [])) ∧ Ext w0 w) := by
  have E := Ext.refl w0
  obtain ⟨kf, fnf, cf, hfv, hFn, hcall⟩ := hclo
  refine Ret.of (args := [Value.int .i64 s, lv, Value.int .i64 lim, fv]) Try.func98 rfl rfl rfl ?_
  rintro _ rfl
  show Cq _ _ _ _ [(0, Value.int .i64 s), (1, lv), (2, Value.int .i64 lim), (3, fv)] _
  refine Cq.seq ?_
  refine Cq.region ?_
  refine Sq.assign .plain rfl rfl ?_
  refine Sq.assign .plain rfl rfl ?_
  refine Sq.assign .plain rfl rfl ?_
  refine Sq.nil ?_
  refine Eq.next ?_
  refine Cq.seq ?_
  refine Cq.region ?_
  refine Sq.move .plain rfl rfl ?_
  refine Sq.lit sl55 rfl rfl .plain rfl rfl (one_cons rfl one_nil) (fun b1 w2 e3 hlo4 ho5 _ => ?_)
  have hs6 := Below.size e3
  replace E := E.trans e3
  have hno := ho5 w0.heap.size (by omega)
  refine Sq.assign .plain rfl rfl ?_
  refine Sq.nil ?_
  refine Eq.next ?_
  refine Cq.seq ?_
  refine Cq.region ?_
  refine Sq.makeMap encI .plain rfl (fun mb w7 e8 hM hlo9 => ?_)
  have hs10 := Below.size e8
  replace E := E.trans e8
  replace hno := hno.ext e8
  have hmb : w0.heap.size ≤ mb := by omega
  refine Sq.move .plain rfl rfl ?_
  refine Sq.insert key118 hM .plain rfl (k := s) rfl rfl rfl (by simp) (fun w11 g12 hm13 => ?_)
  have hs14 := World.grownBy.size g12
  replace E := E.mapped g12 (by omega)
  replace hno := hno.mapped hM g12
  replace hM := hm13
  simp only [List.nil_append] at hM
  refine Sq.move .plain rfl rfl ?_
  refine Sq.assign .plain rfl rfl ?_
  refine Sq.nil ?_
  refine Eq.next ?_
  refine Cq.seq ?_
  refine Cq.region ?_
  refine Sq.assign .plain rfl rfl ?_
  refine Sq.nil ?_
  refine Eq.next ?_
  refine Cq.seq ?_
  refine Cq.seq ?_
  refine Cq.region ?_
  refine Sq.assign .plain rfl rfl ?_
  refine Sq.nil ?_
  refine Eq.next ?_
  refine Cq.block ?_
  refine Cq.loop (fun nn w ls => ∃ (i : Int), ∃ (nv : Value), ∃ (xv : Value), ls = [(1, lv), (2, Value.int .i64 lim), (3, fv), (11, nv), (12, Value.map (some mb)), (13, xv), (14, Value.int .i64 i)] ∧ (0 ≤ i ∧ i ≤ (bfs f s L i.toNat).length) ∧ Own w w0.heap.size 3 nv ((bfs f s L i.toNat).map (Value.int .i64)) ∧ MapN encI w mb (bfs f s L i.toNat) ∧ OwnRowsZ w w0.heap.size w.heap.size 55 3 xv (rowsAt f L (bfs f s L i.toNat) i.toNat) nv ∧ (((bfs f s L i.toNat).length : Nat) : Int) ≤ lim ∧ Ext w0 w ∧ nn = (151 - i).toNat) _ _ ⟨0, _, _, rfl, ⟨by omega, by omega⟩, hno, hM, OwnRowsZ.nil _ _ _ _ _ _, by show ((1 : Nat) : Int) ≤ lim; omega, E, rfl⟩ (.cons rfl (.cons rfl (.cons rfl (.cons rfl (.cons rfl (.cons rfl (.cons rfl (.nil)))))))) ?_
  rintro nn wl1 ls ⟨i, nv, xv, rfl, hi, hno, hM, hrs, hlm, E, rfl⟩
  have hs15 := Below.size E
  have hMi := hM0 i.toNat
  have hMi1 := hM0 (i.toNat + 1)
  refine Cq.seq ?_
  refine Cq.seq ?_
  refine Cq.region ?_
  refine Sq.move .plain rfl rfl ?_
  refine Sq.move .plain rfl rfl ?_
  refine Sq.lenInts (Own.row hno) .plain rfl und55 rfl ?_
  refine Sq.lss .plain rfl rfl rfl ?_
  refine Sq.part (fun c16 => ?_) (fun c16 => ?_)
  · refine Sq.nil ?_
    refine Eq.next ?_
    refine Cq.thn rfl ?_
    refine Cq.skip ?_
    refine Eq.next ?_
    refine Cq.seq ?_
    refine Cq.block ?_
    refine Cq.seq ?_
    refine Cq.region ?_
    refine Sq.assign .plain rfl rfl ?_
    refine Sq.nil ?_
    refine Eq.next ?_
    refine Cq.seq ?_
    refine Cq.seq ?_
    refine Cq.region ?_
    refine Sq.move .plain rfl rfl ?_
    refine Sq.lenInts (hx.ext E) .plain rfl und55 rfl ?_
    refine Sq.move .plain rfl rfl ?_
    refine Sq.nil ?_
    refine Eq.next ?_
    refine Cq.block ?_
    obtain ⟨q, hq⟩ : ∃ q, (bfs f s L i.toNat)[i.toNat]? = some q := ⟨_, List.getElem?_eq_getElem (by omega)⟩
    have hDq : D q := bfs_all hD0 hD _ q (List.mem_of_getElem? hq)
    refine Cq.loop (fun nn w ls => ∃ (k : Int), ∃ (nv2 : Value), ∃ (rv : Value), ls = [(1, lv), (2, Value.int .i64 lim), (3, fv), (11, nv2), (12, Value.map (some mb)), (13, xv), (14, Value.int .i64 i), (15, rv), (32, lv), (33, Value.int .i64 (List.length L : Int)), (34, Value.int .i64 k)] ∧ (0 ≤ k ∧ k ≤ L.length) ∧ wl1.heap.size ≤ w.heap.size ∧ Own w w0.heap.size 3 nv2 ((mid f s L i.toNat q k.toNat).map (Value.int .i64)) ∧ MapN encI w mb (mid f s L i.toNat q k.toNat) ∧ Own w wl1.heap.size 3 rv ((rowTo f L (mid f s L i.toNat q k.toNat) q k.toNat).map (Value.int .i64)) ∧ OwnRowsZ w w0.heap.size wl1.heap.size 55 3 xv (rowsAt f L (bfs f s L i.toNat) i.toNat) nv2 ∧ Apart nv2 rv ∧ (((mid f s L i.toNat q k.toNat).length : Nat) : Int) ≤ lim ∧ Ext w0 w ∧ nn = ((L.length : Int) - k).toNat) _ _ ⟨0, _, _, rfl, by omega, by omega, hno, hM, Own.nil _ _ _, hrs, (Apart.nil _).symm, hlm, E, rfl⟩ (.cons rfl (.cons rfl (.cons rfl (.cons rfl (.cons rfl (.cons rfl (.cons rfl (.cons rfl (.cons rfl (.cons rfl (.cons rfl (.nil)))))))))))) ?_
    rintro nn wl2 ls ⟨k, nv2, rv, rfl, hk, hsz, hno, hM, hro, hrs, hap, hlk, E, rfl⟩
    have hs17 := Below.size E
    have hml := (mid_prefix0 (f := f) (s := s) (L := L) i.toNat q k.toNat).length_le
    have hmh := (mid_prefix (f := f) (s := s) (L := L) (k := k.toNat) hq).length_le
    have hmq := mid_at (k := k.toNat) hq
    have hrl : (rowTo f L (mid f s L i.toNat q k.toNat) q k.toNat).length ≤ L.length := by unfold rowTo; rw [List.length_map, List.length_take]; omega
    refine Cq.seq ?_
    refine Cq.region ?_
    refine Sq.lss .plain rfl rfl rfl ?_
    refine Sq.part (fun c18 => ?_) (fun c18 => ?_)
    · refine Sq.nil ?_
      refine Eq.next ?_
      refine Cq.seq ?_
      refine Cq.thn rfl ?_
      refine Cq.skip ?_
      refine Eq.next ?_
      refine Cq.seq ?_
      refine Cq.block ?_
      refine Cq.seq ?_
      refine Cq.region ?_
      refine Sq.idxInts sl55 one3 (hx.ext E) .plain rfl rfl rfl .plain rfl rfl (by omega) (by omega) ?_
      refine Sq.assign .plain rfl rfl ?_
      refine Sq.nil ?_
      refine Eq.next ?_
      refine Cq.seq ?_
      refine Cq.region ?_
      refine Sq.move .plain rfl rfl ?_
      refine Sq.move .plain rfl rfl ?_
      refine Sq.move .plain rfl rfl ?_
      refine Sq.idxInts sl55 one3 (Own.row hno) .plain rfl rfl rfl .plain rfl rfl (by omega) (by omega) ?_
      rw [hmq]
      refine Sq.move .plain rfl rfl ?_
      refine Sq.callC hFn .plain rfl (by rw [← hfv]; rfl) rfl (hcall _ q (L.getD k.toNat 0) E hDq (hL _ (getD_mem (by omega)))) ?_
      rintro _ w19 ⟨rfl, e20⟩
      have hs21 := Below.size e20
      replace E := E.trans e20
      replace hno := hno.ext e20
      replace hM := hM.ext e20
      replace hrs := hrs.ext e20
      replace hro := hro.ext e20
      refine Sq.assign .plain rfl rfl ?_
      refine Sq.nil ?_
      refine Eq.next ?_
      refine Cq.seq ?_
      refine Cq.region ?_
      refine Sq.move .plain rfl rfl ?_
      refine Sq.move .plain rfl rfl ?_
      refine Sq.lookup key118 hM .plain rfl rfl (k := f q (L.getD k.toNat 0)) rfl ?_
      refine Sq.move .plain rfl rfl ?_
      refine Sq.extract .plain rfl rfl rfl ?_
      refine Sq.extract .plain rfl rfl rfl ?_
      refine Sq.assign .plain rfl rfl ?_
      refine Sq.assign .plain rfl rfl ?_
      refine Sq.nil ?_
      refine Eq.next ?_
      refine Cq.seq ?_
      refine Cq.seq ?_
      refine Cq.region ?_
      refine Sq.move .plain rfl rfl ?_
      refine Sq.part (fun hin => ?_) (fun hin => ?_)
      · refine Sq.notT .plain rfl rfl ?_
        refine Sq.nil ?_
        refine Eq.next ?_
        refine Cq.els rfl ?_
        refine Cq.skip ?_
        refine Eq.next ?_
        refine Cq.region ?_
        refine Sq.move .plain rfl rfl ?_
        refine Sq.move .plain rfl rfl ?_
        refine Sq.lit sl55 rfl rfl .plain rfl rfl (one_cons rfl one_nil) (fun b22 w23 e24 hlo25 ho26 hk27 => ?_)
        have hs28 := Below.size e24
        replace E := E.trans e24
        replace hno := hno.ext e24
        replace hM := hM.ext e24
        replace hrs := hrs.ext e24
        replace hro := hro.ext e24
        refine Sq.app1F sl55 hro (one_ints _) (by omega) (by rw [List.length_map]; omega) hk27 rfl .plain rfl rfl rfl (fun v29 w30 ho32 g31 hf33 _ => ?_)
        have hs34 := World.grownBy.size g31
        replace E := E.owned hro g31 (by omega)
        replace hM := hM.owned hro g31
        replace hrs := hrs.apart hro g31 (Nat.le_refl _) (by decide)
        have hap2 := (hap.symm.grow hno hf33).symm
        replace hno := Own.other hno g31 hap.symm
        replace hro := Own.snocI ho32
        replace hap := hap2
        refine Sq.assign .plain rfl rfl ?_
        refine Sq.nil ?_
        refine Eq.end ?_
        refine Eq.next ?_
        refine Cq.region ?_
        refine Sq.add .plain rfl rfl rfl (by omega) ?_
        refine Sq.move .plain rfl rfl ?_
        refine Sq.nil ?_
        have e2 := toNat_succ hk.1
        have e5 := mid_succ (f := f) (s := s) (i := i.toNat) (q := q) (k := k.toNat) (L := L) (by omega)
        have e6 := rowTo_step (f := f) (q := q) (k := k.toNat) (L := L) (by omega) (mid_mem (f := f) (s := s) (i := i.toNat))
        rw [← e5] at e6
        rw [addNode_T hin] at e5
        rw [if_pos hin] at hro
        refine Eq.round _ _ ⟨k + 1, _, _, rfl, by omega, by omega, by rw [e2, e5]; exact hno, by rw [e2, e5]; exact hM, by rw [e2, e6, e5]; exact hro, hrs, hap, by rw [e2, e5]; exact hlk, E, rfl⟩ (by omega) (.cons rfl (.cons rfl (.cons rfl (.cons rfl (.cons rfl (.cons rfl (.cons rfl (.cons rfl (.cons rfl (.cons rfl (.cons rfl (.nil))))))))))))
      refine Sq.notF .plain rfl rfl ?_
      refine Sq.nil ?_
      refine Eq.next ?_
      refine Cq.thn rfl ?_
      refine Cq.seq ?_
      refine Cq.seq ?_
      refine Cq.region ?_
      refine Sq.move .plain rfl rfl ?_
      refine Sq.lenInts (Own.row hno) .plain rfl und55 rfl ?_
      refine Sq.move .plain rfl rfl ?_
      refine Sq.eql .plain rfl rfl rfl ?_
      refine Sq.part (fun hfull => ?_) (fun hfull => ?_)
      · refine Sq.nil ?_
        refine Eq.next ?_
        refine Cq.thn rfl ?_
        refine Cq.seq ?_
        refine Cq.region ?_
        refine Sq.assign .plain rfl rfl ?_
        refine Sq.assign .plain rfl rfl ?_
        refine Sq.assign .plain rfl rfl ?_
        refine Sq.nil ?_
        refine Eq.next ?_
        refine Cq.ret ?_
        refine Eq.pastRet ?_
        refine Eq.pastRet ?_
        refine Eq.outRet ?_
        refine Eq.pastRet ?_
        refine Eq.pastRet ?_
        refine Eq.outRet ?_
        refine Eq.pastRet ?_
        refine Eq.outRet ?_
        refine Eq.pastRet ?_
        refine Eq.pastRet ?_
        refine Eq.outRet ?_
        refine Eq.pastRet ?_
        refine Eq.ret3 rfl rfl rfl rfl ?_
        have e8 := ord_lim hq (by omega) hfull (by omega) hin
        exact ⟨⟨_, _, by rw [decide_eq_false e8], by rw [if_neg e8]; exact Own.nil _ _ _, by rw [if_neg e8]; exact OwnRows.nil _ _ _ _ _⟩, E⟩
      refine Sq.nil ?_
      refine Eq.next ?_
      refine Cq.els rfl ?_
      refine Cq.skip ?_
      refine Eq.next ?_
      refine Cq.seq ?_
      refine Cq.region ?_
      refine Sq.move .plain rfl rfl ?_
      refine Sq.lenInts (Own.row hno) .plain rfl und55 rfl ?_
      refine Sq.assign .plain rfl rfl ?_
      refine Sq.nil ?_
      refine Eq.next ?_
      refine Cq.seq ?_
      refine Cq.region ?_
      refine Sq.move .plain rfl rfl ?_
      refine Sq.move .plain rfl rfl ?_
      refine Sq.move .plain rfl rfl ?_
      refine Sq.mapUpdate key118 hM .plain rfl (k := f q (L.getD k.toNat 0)) rfl rfl rfl hin (fun w35 g36 hm37 => ?_)
      have hs38 := World.grownBy.size g36
      replace E := E.mapped g36 (by omega)
      replace hno := hno.mapped hM g36
      replace hro := hro.mapped hM g36
      replace hrs := hrs.mapped hM g36
      replace hM := hm37
      refine Sq.nil ?_
      refine Eq.next ?_
      refine Cq.region ?_
      refine Sq.move .plain rfl rfl ?_
      refine Sq.move .plain rfl rfl ?_
      refine Sq.lit sl55 rfl rfl .plain rfl rfl (one_cons rfl one_nil) (fun b39 w40 e41 hlo42 ho43 hk44 => ?_)
      have hs45 := Below.size e41
      replace E := E.trans e41
      replace hno := hno.ext e41
      replace hM := hM.ext e41
      replace hrs := hrs.ext e41
      replace hro := hro.ext e41
      refine Sq.app1F sl55 hno (one_ints _) (by omega) (by rw [List.length_map]; omega) hk44 rfl .plain rfl rfl rfl (fun v46 w47 ho49 g48 hf50 _ => ?_)
      have hs51 := World.grownBy.size g48
      replace E := E.owned hno g48 (Nat.le_refl _)
      replace hM := hM.owned hno g48
      replace hrs := hrs.grow hno g48 hf50 (by decide)
      have hap2 := hap.grow hro hf50
      replace hro := Own.other hro g48 hap
      replace hno := Own.snocI ho49
      replace hap := hap2
      refine Sq.assign .plain rfl rfl ?_
      refine Sq.nil ?_
      refine Eq.next ?_
      refine Cq.region ?_
      refine Sq.move .plain rfl rfl ?_
      refine Sq.move .plain rfl rfl ?_
      refine Sq.lit sl55 rfl rfl .plain rfl rfl (one_cons rfl one_nil) (fun b52 w53 e54 hlo55 ho56 hk57 => ?_)
      have hs58 := Below.size e54
      replace E := E.trans e54
      replace hno := hno.ext e54
      replace hM := hM.ext e54
      replace hrs := hrs.ext e54
      replace hro := hro.ext e54
      refine Sq.app1F sl55 hro (one_ints _) (by omega) (by rw [List.length_map]; omega) hk57 rfl .plain rfl rfl rfl (fun v59 w60 ho62 g61 hf63 _ => ?_)
      have hs64 := World.grownBy.size g61
      replace E := E.owned hro g61 (by omega)
      replace hM := hM.owned hro g61
      replace hrs := hrs.apart hro g61 (Nat.le_refl _) (by decide)
      have hap2 := (hap.symm.grow hno hf63).symm
      replace hno := Own.other hno g61 hap.symm
      replace hro := Own.snocI ho62
      replace hap := hap2
      refine Sq.assign .plain rfl rfl ?_
      refine Sq.nil ?_
      refine Eq.end ?_
      refine Eq.next ?_
      refine Cq.region ?_
      refine Sq.add .plain rfl rfl rfl (by omega) ?_
      refine Sq.move .plain rfl rfl ?_
      refine Sq.nil ?_
      have e2 := toNat_succ hk.1
      have e5 := mid_succ (f := f) (s := s) (i := i.toNat) (q := q) (k := k.toNat) (L := L) (by omega)
      have e6 := rowTo_step (f := f) (q := q) (k := k.toNat) (L := L) (by omega) (mid_mem (f := f) (s := s) (i := i.toNat))
      rw [← e5] at e6
      have e7 := idx_new hin
      rw [← e5] at e7
      rw [addNode_F hin] at e5
      refine Eq.round _ _ ⟨k + 1, _, _, rfl, by omega, by omega, by rw [e2, e5]; exact hno, by rw [e2, e5]; exact hM, by rw [e2, e6, e7]; exact hro, hrs, hap, by rw [e2, e5, List.length_append]; simp only [List.length_singleton]; omega, E, rfl⟩ (by omega) (.cons rfl (.cons rfl (.cons rfl (.cons rfl (.cons rfl (.cons rfl (.cons rfl (.cons rfl (.cons rfl (.cons rfl (.cons rfl (.nil))))))))))))
    refine Sq.nil ?_
    refine Eq.next ?_
    refine Cq.seq ?_
    refine Cq.els rfl ?_
    refine Cq.exit ?_
    refine Eq.past ?_
    refine Eq.past ?_
    refine Eq.hit ?_
    refine Eq.next ?_
    refine Cq.region ?_
    refine Sq.move .plain rfl rfl ?_
    refine Sq.move .plain rfl rfl ?_
    obtain ⟨rs, hr1, hr2, hr3⟩ := OwnRowsZ.open hrs (by decide)
    have hx0 := Ext.refl wl2
    refine Sq.lit sl23 rfl rfl .plain rfl rfl (one_cons (Row.one (Own.row hro)) one_nil) (fun b65 w66 e67 hlo68 ho69 _ => ?_)
    have hs74 := Below.size e67
    replace E := E.trans e67
    replace hno := hno.ext e67
    replace hM := hM.ext e67
    replace hro := hro.ext e67
    replace hr1 := hr1.ext e67
    replace hx0 := hx0.trans e67
    refine Sq.app sl23 hr1 (by omega) (Own.row (ho69 _ (Nat.le_refl _))) (one_cons (Row.one (Own.row hro)) one_nil) (by rw [hr2]; have := rowsAt_length (f := f) (L := L) (bfs f s L i.toNat) i.toNat (by omega); simp only [List.length_cons, List.length_nil]; omega) .plain rfl rfl rfl rfl (fun v70 w71 ho73 g72 => ?_)
    have hs75 := World.grownBy.size g72
    have hrs := hr3 _ _ _ _ _ hx0 hro hap (by omega) ho73 g72
    replace E := E.owned hr1 g72 (Nat.le_refl _)
    replace hM := hM.owned hr1 g72
    replace hno := hno.owned hr1 g72 (by decide)
    refine Sq.assign .plain rfl rfl ?_
    refine Sq.nil ?_
    refine Eq.end ?_
    refine Eq.next ?_
    refine Cq.region ?_
    refine Sq.move .plain rfl rfl ?_
    refine Sq.add .plain rfl rfl rfl (by omega) ?_
    refine Sq.assign .plain rfl rfl ?_
    refine Sq.nil ?_
    have e1 := toNat_succ hi.1
    have e3 := mid_done (k := k.toNat) (by omega) hq
    have e4 := (bfs_prefix1 (f := f) (s := s) (L := L) i.toNat).length_le
    refine Eq.round _ _ ⟨i + 1, _, _, rfl, by rw [e1]; omega, by rw [e1, ← e3]; exact hno, by rw [e1, ← e3]; exact hM, by rw [e1, rowsAt_step hq, ← e3, ← rowTo_done (k := k.toNat) (by omega)]; exact hrs, by rw [e1, ← e3]; exact hlk, E, rfl⟩ (by omega) (.cons rfl (.cons rfl (.cons rfl (.cons rfl (.cons rfl (.cons rfl (.cons rfl (.nil))))))))
  refine Sq.nil ?_
  refine Eq.next ?_
  refine Cq.els rfl ?_
  refine Cq.exit ?_
  refine Eq.past ?_
  refine Eq.past ?_
  refine Eq.hit ?_
  refine Eq.next ?_
  refine Cq.seq ?_
  refine Cq.region ?_
  refine Sq.move .plain rfl rfl ?_
  refine Sq.move .plain rfl rfl ?_
  refine Sq.assign .plain rfl rfl ?_
  refine Sq.assign .plain rfl rfl ?_
  refine Sq.assign .plain rfl rfl ?_
  refine Sq.nil ?_
  refine Eq.next ?_
  refine Cq.ret ?_
  refine Eq.ret3 rfl rfl rfl rfl ?_
  obtain ⟨e8, e9⟩ := ord_fin (f := f) (s := s) (L := L) (i := i.toNat) (by omega) (by omega) hlm
  have e10 := rowsAt_fin (f := f) (s := s) (L := L) (i := i.toNat) (by omega) (by omega)
  rw [e10] at hrs
  rw [e8] at hno
  exact ⟨⟨_, _, by rw [decide_eq_true e9], by rw [if_pos e9]; exact hno, by rw [if_pos e9]; exact hrs.to⟩, E⟩
end Go.Proofs.Ytoboklelbbgcnaa
set_option linter.unusedSimpArgs false
set_option linter.unusedVariables false
namespace Go.Proofs.Ytoboklelbbgcnaa
open Go.RowKit
set_option maxRecDepth 100000 in
theorem trim1_c (w0 : World) (q x : Int) (a : A) (bt b : Nat) (xs : List Int) (hB : Blk w0 bt 52 [Value.slice (some ⟨b, 0, none⟩) a.next.length a.next.length]) (hT : Blk w0 b 57 (xs.map (Value.int .i64))) (hTab : Tab a xs) (hq : 0 ≤ q ∧ q < a.next.length) (hx : 0 ≤ x ∧ x < 6) : Ret Try.prog 99 #[Value.int .i64 q, Value.int .i64 x, Value.pointer (some ⟨bt, 0, none⟩)] w0 (fun v w => v = .int .i64 (goA a q x) ∧ w0 = w) := by
  refine Ret.of (args := [Value.int .i64 q, Value.int .i64 x, Value.pointer (some ⟨bt, 0, none⟩)]) Try.func99 rfl rfl rfl ?_
  rintro _ rfl
  show Cq _ _ _ _ [(0, Value.int .i64 q), (1, Value.int .i64 x), (2, Value.pointer (some ⟨bt, 0, none⟩))] _
  refine Cq.seq ?_
  refine Cq.region ?_
  refine Sq.assign .plain rfl rfl ?_
  refine Sq.nil ?_
  refine Eq.next ?_
  refine Cq.seq ?_
  refine Cq.region ?_
  refine Sq.loadB one52 .plain rfl rfl hB rfl ?_
  refine Sq.move .plain rfl rfl ?_
  refine Sq.move .plain rfl rfl ?_
  refine Sq.val .plain rfl rfl (Still.ixS slk52 rfl rfl (by omega) (by omega)) ?_
  refine Sq.val .plain rfl rfl (Still.ixA ar57 rfl rfl (by omega) (by omega)) ?_
  refine Sq.val .plain rfl rfl (Still.loadB one3 rfl hT (by rw [Nat.zero_add, List.getElem?_map, hTab.2 q x (by first | omega | assumption) (by omega)]; rfl)) ?_
  refine Sq.assign .plain rfl rfl ?_
  refine Sq.nil ?_
  refine Eq.next ?_
  refine Cq.ret ?_
  refine Eq.ret1 rfl rfl ?_
  exact ⟨rfl, rfl⟩
set_option maxRecDepth 100000 in
theorem trim_c (w0 : World) (a : A) (nx ac : Value) (hnx : Rows w0 55 3 nx a.next) (hac : Bools w0 4 ac a.acc) (hv : validA a = true) : Ret Try.prog 67 #[Value.agg #[Value.int .i64 a.al, nx, ac]] w0 (fun v w => OwnA w w0.heap.size v (trim a) ∧ Ext w0 w) := by
  have E := Ext.refl w0
  have hal := (validA_spec.1 hv).1
  refine Ret.of (args := [Value.agg #[Value.int .i64 a.al, nx, ac]]) Try.func67 rfl rfl rfl ?_
  rintro _ rfl
  show Cq _ _ _ _ [(0, Value.agg #[Value.int .i64 a.al, nx, ac])] _
  refine Cq.seq ?_
  refine Cq.region ?_
  refine Sq.box .plain rfl rfl (fun b1 w2 e3 hB4 hlo5 => ?_)
  have hd6 := Nat.le_trans (Below.size E) hlo5
  have hs7 := Below.size e3
  replace E := E.trans e3
  refine Sq.alloc zero26 .plain rfl (fun b8 w9 e10 hB11 hlo12 => ?_)
  have hd13 := Nat.le_trans (Below.size E) hlo12
  have hd14 := Nat.lt_of_lt_of_le hB4.lt hlo12
  have hs15 := Below.size e10
  replace E := E.trans e10
  replace hB4 := hB4.ext e10
  refine Sq.nil ?_
  refine Eq.next ?_
  refine Cq.seq ?_
  refine Cq.region ?_
  refine Sq.loadAgg agg26 .plain rfl rfl hB4 rfl ?_
  have hd24 := hB4.lt
  have hd25 := hB11.lt
  refine Sq.call fn43 .plain rfl rfl (tableOf_c _ a _ _ (hnx.ext E) (hac.ext E) hv) ?_
  rintro _ w17 ⟨⟨b19, xs20, rfl, hlo21, hT22, hTab23⟩, e18⟩
  have hs26 := Below.size E
  have hs27 := Below.size e18
  replace E := E.trans e18
  replace hB4 := hB4.ext e18
  replace hB11 := hB11.ext e18
  refine Sq.alloc1 zero52 rfl .plain rfl (fun b28 w29 e30 hB31 hlo32 => ?_)
  have hd33 := Nat.le_trans (Below.size E) hlo32
  have hd34 := Nat.lt_of_lt_of_le hB4.lt hlo32
  have hd35 := Nat.lt_of_lt_of_le hB11.lt hlo32
  have hd36 := Nat.lt_of_lt_of_le hT22.lt hlo32
  have hs37 := Below.size e30
  replace E := E.trans e30
  replace hB4 := hB4.ext e30
  replace hB11 := hB11.ext e30
  replace hT22 := hT22.ext e30
  refine Sq.store one52 .plain rfl rfl rfl hB31 (by simp) (fun w38 g39 hB40 => ?_)
  have hs41 := World.grownBy.size g39
  replace E := E.grown g39 (fun k hk => by injection hk with hk; subst hk; omega)
  replace hB4 := hB4.grown g39 (by intro h; injection h with h; omega)
  replace hB11 := hB11.grown g39 (by intro h; injection h with h; omega)
  replace hT22 := hT22.grown g39 (by intro h; injection h with h; omega)
  replace hB31 := hB40
  refine Sq.nil ?_
  refine Eq.next ?_
  refine Cq.seq ?_
  refine Cq.drawS 13 (fun w' => Blk w' b1 26 [Value.int .i64 a.al, nx, ac] ∧ Blk w' b28 52 [Value.slice (some ⟨b19, 0, none⟩) a.next.length a.next.length]) mixed (⟨hB4, hB31⟩) (fun w42 e43 hS => ?_)
  clear hS
  have hs44 := Below.size e43
  replace E := E.trans e43
  replace hB4 := hB4.ext e43
  replace hB11 := hB11.ext e43
  replace hT22 := hT22.ext e43
  replace hB31 := hB31.ext e43
  refine Gq.st 0 rfl (by kernel_rfl) rfl .plain rfl (fun _ _ _ h => h) ⟨hB4, hB31⟩ (fun w' x => Still.fieldAddr fld26_0 rfl) ?_
  refine Gq.st 1 rfl (by kernel_rfl) rfl .plain rfl (fun _ _ _ h => h) ⟨hB4, hB31⟩ (fun w' x => Still.loadB one3 rfl x.1 rfl) ?_
  refine Gq.st 3 rfl (by kernel_rfl) rfl .plain rfl (fun _ _ _ h => h) ⟨hB4, hB31⟩ (fun w' x => Still.loadB one52 rfl x.2 rfl) ?_
  refine Gq.st 4 rfl (by kernel_rfl) rfl .plain rfl (fun _ _ _ h => h) ⟨hB4, hB31⟩ (fun w' x => Still.len und52 rfl) ?_
  refine Gq.st 5 rfl (by kernel_rfl) rfl .plain rfl (fun _ _ _ h => h) ⟨hB4, hB31⟩ (fun w' x => Still.makeFunc rfl) ?_
  refine Gq.one 2 rfl (by kernel_rfl) ?_
  have hd49 := hB4.lt
  have hd50 := hB11.lt
  have hd51 := hT22.lt
  have hd52 := hB31.lt
  refine Sq.call fn45 .plain rfl rfl (lettersOf_c a.al (by omega) _) ?_
  rintro v45 w46 ⟨hl48, e47⟩
  have hs53 := Below.size E
  have hs54 := Below.size e47
  replace E := E.trans e47
  replace hB4 := hB4.ext e47
  replace hB11 := hB11.ext e47
  replace hT22 := hT22.ext e47
  replace hB31 := hB31.ext e47
  refine Sq.nil ?_
  refine Eq.goes (fun _ => ⟨hB4, hB31⟩) ?_
  refine Gq.one 6 rfl (by kernel_rfl) ?_
  have hd63 := hB4.lt
  have hd64 := hB11.lt
  have hd65 := hT22.lt
  have hd66 := hB31.lt
  have hvs := validA_spec.1 hv
  have hlet := letters_len6 a.al
  have htl := trim_len hv
  refine Sq.call fn98 .plain rfl rfl (numbered_c _ (goA a) 0 (letters a.al) _ _ (List.length a.next : Int) (fun q => 0 ≤ q ∧ q < (a.next.length : Int)) (by omega) (Own.row hl48) (by omega) (fun x hx => ⟨(mem_letters hx).1, (mem_letters hx).2.1⟩) (zero_in hv) (fun q hq x hx => goA_in hv hq ⟨(mem_letters hx).1, (mem_letters hx).2.1⟩) (fun i => Nat.le_trans (trim_bfs_len hv i) (by omega)) ⟨99, _, [Value.pointer (some ⟨b28, 0, none⟩)], rfl, fn99, fun w q x hx hq hxx => (trim1_c w q x a _ _ _ (hB31.ext hx) (hT22.ext hx) hTab23 hq hxx).mono fun v w' h => ⟨h.1, h.2 ▸ Ext.refl w⟩⟩) ?_
  rintro _ w56 ⟨⟨nv58, xv59, rfl, hn60, hx61⟩, e57⟩
  have hs67 := Below.size E
  have hs68 := Below.size e57
  replace E := E.trans e57
  replace hB4 := hB4.ext e57
  replace hB11 := hB11.ext e57
  replace hT22 := hT22.ext e57
  replace hB31 := hB31.ext e57
  have hl62 : ((((ord (goA a) 0 (letters a.al)).length : Nat) : Int) ≤ (List.length a.next : Int)) := by omega
  rw [if_pos hl62] at hn60 hx61
  refine Sq.nil ?_
  refine Eq.goes (fun _ => ⟨hB4, hB31⟩) ?_
  refine Gq.st 7 rfl (by kernel_rfl) rfl .plain rfl (fun _ _ _ h => h) ⟨hB4, hB31⟩ (fun w' x => Still.move rfl) ?_
  refine Gq.st 8 rfl (by kernel_rfl) rfl .plain rfl (fun _ _ _ h => h) ⟨hB4, hB31⟩ (fun w' x => Still.extract rfl rfl) ?_
  refine Gq.st 9 rfl (by kernel_rfl) rfl .plain rfl (fun _ _ _ h => h) ⟨hB4, hB31⟩ (fun w' x => Still.extract rfl rfl) ?_
  refine Gq.st 10 rfl (by kernel_rfl) rfl .plain rfl (fun _ _ _ h => h) ⟨hB4, hB31⟩ (fun w' x => Still.extract rfl rfl) ?_
  refine Gq.isT (hl62) ?_
  refine Gq.st 11 rfl (by kernel_rfl) rfl .plain rfl (fun _ _ _ h => h) ⟨hB4, hB31⟩ (fun w' x => Still.assign rfl) ?_
  refine Gq.st 12 rfl (by kernel_rfl) rfl .plain rfl (fun _ _ _ h => h) ⟨hB4, hB31⟩ (fun w' x => Still.assign rfl) ?_
  refine Gq.one 13 rfl (by kernel_rfl) ?_
  refine Sq.assign .plain rfl rfl ?_
  refine Sq.nil ?_
  refine Eq.goes (fun h => absurd h (by decide)) ?_
  refine Gq.done (by kernel_rfl) ?_
  refine Eq.next ?_
  refine Cq.seq ?_
  refine Cq.region ?_
  refine Sq.fieldAddr fld26_0 .plain rfl rfl ?_
  refine Sq.loadB one3 .plain rfl rfl hB4 rfl ?_
  refine Sq.move .plain rfl rfl ?_
  refine Sq.build st26 rfl rfl .plain rfl rfl (one_cons rfl (one_cons (Rows.one (OwnRows.rows hx61)) one_nil)) rfl ?_
  refine Sq.alloc zero26 .plain rfl (fun b69 w70 e71 hB72 hlo73 => ?_)
  have hd74 := Nat.le_trans (Below.size E) hlo73
  have hd75 := Nat.lt_of_lt_of_le hB4.lt hlo73
  have hd76 := Nat.lt_of_lt_of_le hB11.lt hlo73
  have hd77 := Nat.lt_of_lt_of_le hT22.lt hlo73
  have hd78 := Nat.lt_of_lt_of_le hB31.lt hlo73
  have hs79 := Below.size e71
  replace E := E.trans e71
  replace hB4 := hB4.ext e71
  replace hB11 := hB11.ext e71
  replace hn60 := hn60.ext e71
  replace hx61 := hx61.ext e71
  refine Sq.storeAgg agg26 .plain rfl rfl (one_cons rfl (one_cons (Rows.one (OwnRows.rows hx61)) (one_cons rfl one_nil))) hB72 rfl rfl (fun w80 g81 hB82 => ?_)
  have hs83 := World.grownBy.size g81
  replace E := E.grown g81 (fun k hk => by injection hk with hk; subst hk; omega)
  replace hB4 := hB4.grown g81 (by intro h; injection h with h; omega)
  replace hB11 := hB11.grown g81 (by intro h; injection h with h; omega)
  replace hn60 := hn60.stored g81 hB72 (by decide)
  replace hx61 := hx61.stored g81 hB72 (by decide) (by decide)
  replace hB72 := hB82
  refine Sq.nil ?_
  refine Eq.next ?_
  refine Cq.seq ?_
  refine Cq.seq ?_
  refine Cq.region ?_
  refine Sq.move .plain rfl rfl ?_
  refine Sq.lenInts (Own.row hn60) .plain rfl und55 rfl ?_
  refine Sq.move .plain rfl rfl ?_
  refine Sq.nil ?_
  refine Eq.next ?_
  refine Cq.block ?_
  have hall := ord_all (f := goA a) (s := 0) (L := letters a.al) (P := fun q => 0 ≤ q ∧ q < (a.next.length : Int)) (zero_in hv) (fun q hq x hx => goA_in hv hq ⟨(mem_letters hx).1, (mem_letters hx).2.1⟩)
  refine Cq.loop (fun nn w ls => ∃ (k : Int), ∃ (acv : Value), ∃ (ys : List Bool), ls = [(1, Value.pointer (some ⟨b1, 0, none⟩)), (2, Value.pointer (some ⟨b8, 0, none⟩)), (7, Value.pointer (some ⟨b69, 0, none⟩)), (27, nv58), (28, Value.int .i64 ((List.length (ord (goA a) 0 (letters a.al)) : Int))), (29, Value.int .i64 k)] ∧ (0 ≤ k ∧ k ≤ (ord (goA a) 0 (letters a.al)).length) ∧ Blk w b69 26 [Value.int .i64 a.al, xv59, acv] ∧ Own w w0.heap.size 4 acv (ys.map Value.bool) ∧ ys = ((ord (goA a) 0 (letters a.al)).take k.toNat).map (accA a) ∧ Ext w0 w ∧ Blk w b1 26 [Value.int .i64 a.al, nx, ac] ∧ Blk w b8 26 [Value.int .i64 0, Value.slice none 0 0, Value.slice none 0 0] ∧ OwnRows w w46.heap.size w56.heap.size 55 3 xv59 ((ord (goA a) 0 (letters a.al)).map (rowAt (goA a) (letters a.al) (ord (goA a) 0 (letters a.al)))) ∧ Own w w46.heap.size 3 nv58 ((ord (goA a) 0 (letters a.al)).map (Value.int .i64)) ∧ nn = (((ord (goA a) 0 (letters a.al)).length : Int) - k).toNat) _ _ ⟨0, _, [], rfl, by omega, hB72, Own.nil _ _ _, rfl, E, hB4, hB11, hx61, hn60, rfl⟩ (.cons rfl (.cons rfl (.cons rfl (.cons rfl (.cons rfl (.cons rfl (.nil))))))) ?_
  rintro nn wl1 ls ⟨k, acv, ys, rfl, hk, hB7, hoa, hys, E, hB4, hB11, hx61, hn60, rfl⟩
  have hs84 := Below.size E
  have hat : k < (ord (goA a) 0 (letters a.al)).length → 0 ≤ (ord (goA a) 0 (letters a.al)).getD k.toNat 0 ∧ (ord (goA a) 0 (letters a.al)).getD k.toNat 0 < a.next.length := fun h => hall _ (getD_mem (by omega))
  have hyl : ys.length ≤ 20 := by rw [hys, List.length_map, List.length_take]; omega
  refine Cq.seq ?_
  refine Cq.region ?_
  refine Sq.lss .plain rfl rfl rfl ?_
  refine Sq.part (fun c85 => ?_) (fun c85 => ?_)
  · refine Sq.nil ?_
    refine Eq.next ?_
    refine Cq.seq ?_
    refine Cq.thn rfl ?_
    refine Cq.skip ?_
    refine Eq.next ?_
    refine Cq.seq ?_
    refine Cq.block ?_
    refine Cq.seq ?_
    refine Cq.region ?_
    refine Sq.idxInts sl55 one3 (Own.row hn60) .plain rfl rfl rfl .plain rfl rfl (by omega) (by omega) ?_
    refine Sq.assign .plain rfl rfl ?_
    refine Sq.nil ?_
    refine Eq.next ?_
    refine Cq.drawS 9 (fun w' => Blk w' b1 26 [Value.int .i64 a.al, nx, ac] ∧ Blk w' b69 26 [Value.int .i64 a.al, xv59, acv] ∧ Ext w0 w') mixed (⟨hB4, hB7, E⟩) (fun w86 e87 hS => ?_)
    clear hS
    have hs88 := Below.size e87
    replace E := E.trans e87
    replace hB4 := hB4.ext e87
    replace hB11 := hB11.ext e87
    replace hx61 := hx61.ext e87
    replace hn60 := hn60.ext e87
    replace hB7 := hB7.ext e87
    replace hoa := hoa.ext e87
    refine Gq.st 0 rfl (by kernel_rfl) rfl .plain rfl (fun _ _ _ h => h) ⟨hB4, hB7, E⟩ (fun w' x => Still.fieldAddr fld26_2 rfl) ?_
    refine Gq.st 1 rfl (by kernel_rfl) rfl .plain rfl (fun _ _ _ h => h) ⟨hB4, hB7, E⟩ (fun w' x => Still.loadB one24 rfl x.2.1 rfl) ?_
    refine Gq.st 2 rfl (by kernel_rfl) rfl .plain rfl (fun _ _ _ h => h) ⟨hB4, hB7, E⟩ (fun w' x => Still.fieldAddr fld26_2 rfl) ?_
    refine Gq.st 3 rfl (by kernel_rfl) rfl .plain rfl (fun _ _ _ h => h) ⟨hB4, hB7, E⟩ (fun w' x => Still.loadB one24 rfl x.1 rfl) ?_
    refine Gq.st 4 rfl (by kernel_rfl) rfl .plain rfl (fun _ _ _ h => h) ⟨hB4, hB7, E⟩ (fun w' x => Still.move rfl) ?_
    obtain ⟨p89, hp90_w86⟩ := Bools.at hac (i := (ord (goA a) 0 (letters a.al)).getD k.toNat 0) (by have := hat (by omega); omega) (by have := hat (by omega); omega)
    refine Gq.st 5 rfl (by kernel_rfl) rfl .plain rfl (fun _ _ _ h => h) ⟨hB4, hB7, E⟩ (fun w' x => Still.at' sl24 hp90_w86 rfl rfl) ?_
    refine Gq.st 6 rfl (by kernel_rfl) rfl .plain rfl (fun _ _ _ h => h) ⟨hB4, hB7, E⟩ (fun w' x => Still.loadA one4 rfl (hp90_w86.ext (x.2.2)).1) ?_
    refine Gq.one 7 rfl (by kernel_rfl) ?_
    refine Sq.lit sl24 rfl rfl .plain rfl rfl (one_cons rfl one_nil) (fun b91 w92 e93 hlo94 ho95 _ => ?_)
    replace ho95 := ho95 w86.heap.size (Nat.le_refl _)
    have hs97 := Below.size e93
    replace E := E.trans e93
    replace hB4 := hB4.ext e93
    replace hB11 := hB11.ext e93
    replace hx61 := hx61.ext e93
    replace hn60 := hn60.ext e93
    replace hB7 := hB7.ext e93
    replace hoa := hoa.ext e93
    refine Sq.nil ?_
    refine Eq.goes (fun _ => ⟨hB4, hB7, E⟩) ?_
    refine Gq.one 8 rfl (by kernel_rfl) ?_
    refine Sq.app sl24 hoa (by omega) (Own.row ho95) (one_cons rfl one_nil) (by first | omega | (simp; omega)) .plain rfl rfl rfl rfl (fun v98 w99 ho101 g100 => ?_)
    have hs102 := g100.size
    replace E := E.owned hoa g100 (by omega)
    replace hB4 := hB4.owned hoa g100 (by decide)
    replace hB11 := hB11.owned hoa g100 (by decide)
    replace hx61 := hx61.owned hoa g100 (by decide) (by decide)
    replace hn60 := hn60.owned hoa g100 (by decide)
    replace hB7 := hB7.owned hoa g100 (by decide)
    refine Sq.nil ?_
    refine Eq.goes (fun _ => ⟨hB4, hB7, E⟩) ?_
    refine Gq.one 9 rfl (by kernel_rfl) ?_
    refine Sq.fieldAddr fld26_2 .plain rfl rfl ?_
    refine Sq.nil ?_
    refine Eq.goes (fun h => absurd h (by decide)) ?_
    refine Gq.one 10 rfl (by kernel_rfl) ?_
    refine Sq.store one24 .plain rfl rfl (Row.one (Own.row ho101)) hB7 (by simp) (fun w103 g104 hB105 => ?_)
    have hs106 := World.grownBy.size g104
    replace E := E.grown g104 (fun k hk => by injection hk with hk; subst hk; omega)
    replace hB4 := hB4.grown g104 (by intro h; injection h with h; omega)
    replace hB11 := hB11.grown g104 (by intro h; injection h with h; omega)
    replace hx61 := hx61.stored g104 hB7 (by decide) (by decide)
    replace hn60 := hn60.stored g104 hB7 (by decide)
    replace ho101 := ho101.stored g104 hB7 (by decide)
    replace hB7 := hB105
    refine Sq.nil ?_
    refine Eq.goes (fun h => absurd h (by decide)) ?_
    refine Gq.done (by kernel_rfl) ?_
    refine Eq.end ?_
    refine Eq.next ?_
    refine Cq.region ?_
    refine Sq.add .plain rfl rfl rfl (by omega) ?_
    refine Sq.move .plain rfl rfl ?_
    refine Sq.nil ?_
    have e1 := toNat_succ hk.1
    refine Eq.round _ _ ⟨k + 1, _, _, rfl, by omega, hB7, Own.snocB ho101, by rw [e1, take_snoc 0 (by omega), List.map_append, ← hys]; rfl, E, hB4, hB11, hx61, hn60, rfl⟩ (by omega) (.cons rfl (.cons rfl (.cons rfl (.cons rfl (.cons rfl (.cons rfl (.nil)))))))
  refine Sq.nil ?_
  refine Eq.next ?_
  refine Cq.seq ?_
  refine Cq.els rfl ?_
  refine Cq.exit ?_
  refine Eq.past ?_
  refine Eq.past ?_
  refine Eq.hit ?_
  refine Eq.next ?_
  refine Cq.seq ?_
  refine Cq.region ?_
  refine Sq.loadAgg agg26 .plain rfl rfl hB7 rfl ?_
  refine Sq.storeAgg agg26 .plain rfl rfl (one_cons rfl (one_cons (Rows.one (OwnRows.rows hx61)) (one_cons (Row.one (Own.row hoa)) one_nil))) hB11 rfl rfl (fun w107 g108 hB109 => ?_)
  have hs110 := World.grownBy.size g108
  replace E := E.grown g108 (fun k hk => by injection hk with hk; subst hk; omega)
  replace hx61 := hx61.stored g108 hB11 (by decide) (by decide)
  replace hoa := hoa.stored g108 hB11 (by decide)
  replace hB11 := hB109
  refine Sq.nil ?_
  refine Eq.next ?_
  refine Cq.ret ?_
  refine Eq.retCell rfl rfl agg26 hB11 rfl ?_
  have e : ys = (trim a).acc := by rw [hys, List.take_of_length_le (by omega)]; rfl
  rw [e] at hoa
  exact ⟨⟨_, _, rfl, OwnRows.now (OwnRows.mono hx61 (by omega)), hoa⟩, E⟩
set_option maxRecDepth 100000 in
theorem l4In_c (w0 : World) (xs : List Int) (r : Value) (hr : Ints w0 3 r xs) (n : Int) (hl : xs.length ≤ 1000000) : Ret Try.prog 112 #[r, Value.int .i64 n] w0 (fun v w => v = .bool (decide (n ∈ xs)) ∧ w0 = w) := by
  refine Ret.of (args := [r, Value.int .i64 n]) Try.func112 rfl rfl rfl ?_
  rintro _ rfl
  show Cq _ _ _ _ [(0, r), (1, Value.int .i64 n)] _
  refine Cq.seq ?_
  refine Cq.region ?_
  refine Sq.assign .plain rfl rfl ?_
  refine Sq.nil ?_
  refine Eq.next ?_
  refine Cq.seq ?_
  refine Cq.seq ?_
  refine Cq.region ?_
  refine Sq.assign .plain rfl rfl ?_
  refine Sq.nil ?_
  refine Eq.next ?_
  refine Cq.block ?_
  refine Cq.loop (fun nn w ls => ∃ (k : Int), ls = [(0, r), (1, Value.int .i64 n), (5, Value.int .i64 k)] ∧ w0 = w ∧ (0 ≤ k ∧ k ≤ xs.length) ∧ n ∉ xs.take k.toNat ∧ nn = ((xs.length : Int) - k).toNat) _ _ ⟨0, rfl, rfl, by omega, by simp, rfl⟩ (.cons rfl (.cons rfl (.cons rfl (.nil)))) ?_
  rintro n1 w ls ⟨k, rfl, rfl, hk, hp, rfl⟩
  refine Cq.seq ?_
  refine Cq.seq ?_
  refine Cq.region ?_
  refine Sq.move .plain rfl rfl ?_
  refine Sq.move .plain rfl rfl ?_
  refine Sq.lenInts hr .plain rfl und55 rfl ?_
  refine Sq.lss .plain rfl rfl rfl ?_
  refine Sq.part (fun c1 => ?_) (fun c1 => ?_)
  · refine Sq.nil ?_
    refine Eq.next ?_
    refine Cq.thn rfl ?_
    refine Cq.skip ?_
    refine Eq.next ?_
    refine Cq.seq ?_
    refine Cq.block ?_
    refine Cq.seq ?_
    refine Cq.region ?_
    refine Sq.move .plain rfl rfl ?_
    refine Sq.move .plain rfl rfl ?_
    refine Sq.idxInts sl55 one3 hr .plain rfl rfl rfl .plain rfl rfl (by omega) (by omega) ?_
    refine Sq.move .plain rfl rfl ?_
    refine Sq.eql .plain rfl rfl rfl ?_
    refine Sq.part (fun hne => ?_) (fun hne => ?_)
    · refine Sq.nil ?_
      refine Eq.next ?_
      refine Cq.thn rfl ?_
      refine Cq.seq ?_
      refine Cq.region ?_
      refine Sq.assign .plain rfl rfl ?_
      refine Sq.nil ?_
      refine Eq.next ?_
      refine Cq.ret ?_
      refine Eq.outRet ?_
      refine Eq.pastRet ?_
      refine Eq.pastRet ?_
      refine Eq.outRet ?_
      refine Eq.pastRet ?_
      refine Eq.ret1 rfl rfl ?_
      exact ⟨by rw [decide_eq_true (hne ▸ getD_mem (by omega))], rfl⟩
    refine Sq.nil ?_
    refine Eq.next ?_
    refine Cq.els rfl ?_
    refine Cq.skip ?_
    refine Eq.end ?_
    refine Eq.next ?_
    refine Cq.region ?_
    refine Sq.move .plain rfl rfl ?_
    refine Sq.add .plain rfl rfl rfl (by omega) ?_
    refine Sq.assign .plain rfl rfl ?_
    refine Sq.nil ?_
    have e1 := toNat_succ hk.1
    refine Eq.round _ _ ⟨k + 1, rfl, rfl, by omega, by rw [e1]; exact notin_snoc hp (by omega) hne, rfl⟩ (by omega) (.cons rfl (.cons rfl (.cons rfl (.nil))))
  refine Sq.nil ?_
  refine Eq.next ?_
  refine Cq.els rfl ?_
  refine Cq.exit ?_
  refine Eq.past ?_
  refine Eq.past ?_
  refine Eq.hit ?_
  refine Eq.next ?_
  refine Cq.seq ?_
  refine Cq.region ?_
  refine Sq.assign .plain rfl rfl ?_
  refine Sq.nil ?_
  refine Eq.next ?_
  refine Cq.ret ?_
  refine Eq.ret1 rfl rfl ?_
  exact ⟨by rw [decide_eq_false (notin_done hp (by omega))], rfl⟩
end Go.Proofs.Ytoboklelbbgcnaa
set_option linter.unusedSimpArgs false
set_option linter.unusedVariables false
namespace Go.Proofs.Ytoboklelbbgcnaa
open Go.RowKit
set_option maxRecDepth 100000 in
theorem pathWord_c (w0 : World) (B : Nat) (tv : Value) (rs : List (Int × Int × Value)) (f : Int → Int → Int) (s : Int) (ws : List (List Int)) (hW : Wid w0 B 108 3 tv (rows3 rs)) (hSt : Trail w0 3 f s ws rs) (wd : List Int) (hwd : ws[ws.length - 1]? = some wd) (hwl : wd.length ≤ 1000) (hsl : ws.length ≤ 1000) : Ret Try.prog 107 #[tv] w0 (fun v w => v = .string (txt wd) ∧ Ext w0 w) := by
  have E := Ext.refl w0
  have hwn := (List.getElem?_eq_some_iff.1 hwd).1
  have hrl := hSt.len
  refine Ret.of (args := [tv]) Try.func107 rfl rfl rfl ?_
  rintro _ rfl
  show Cq _ _ _ _ [(0, tv)] _
  refine Cq.seq ?_
  refine Cq.region ?_
  refine Sq.assign .plain rfl rfl ?_
  refine Sq.nil ?_
  refine Eq.next ?_
  refine Cq.seq ?_
  refine Cq.region ?_
  refine Sq.assign .plain rfl rfl ?_
  refine Sq.nil ?_
  refine Eq.next ?_
  refine Cq.seq ?_
  refine Cq.seq ?_
  refine Cq.region ?_
  refine Sq.move .plain rfl rfl ?_
  refine Sq.lenWid hW .plain rfl und106 rfl ?_
  rw [rows3_length]
  refine Sq.sub .plain rfl rfl rfl (by omega) ?_
  refine Sq.assign .plain rfl rfl ?_
  refine Sq.nil ?_
  refine Eq.next ?_
  refine Cq.block ?_
  refine Cq.loop (fun nn w ls => ∃ (j : Int), ∃ (u : List Int), ∃ (t : List Int), ∃ (ov : Value), ls = [(0, tv), (3, ov), (4, Value.int .i64 j)] ∧ (0 ≤ j) ∧ ws[j.toNat]? = some u ∧ wd = u ++ t ∧ Own w w0.heap.size 5 ov ((txb t.reverse).map fun b => Value.int .u8 (b.toNat : Int)) ∧ Ext w0 w ∧ Wid w B 108 3 tv (rows3 rs) ∧ nn = u.length) _ _ ⟨(List.length rs : Int) - 1, wd, [], _, rfl, by omega, by rw [show ((List.length rs : Int) - 1).toNat = ws.length - 1 by omega]; exact hwd, by simp, Own.nil _ _ _, E, hW, rfl⟩ (.cons rfl (.cons rfl (.cons rfl (.nil)))) ?_
  rintro nn wl1 ls ⟨j, u, t, ov, rfl, hj, hu, hut, ho, E, hW, rfl⟩
  have hs1 := Below.size E
  obtain ⟨p, l, fv, hr, hlk, hfv⟩ := hSt.row _ _ hu
  have hlt := (List.getElem?_eq_some_iff.1 hr).1
  have htl : t.length ≤ 1000 := by rw [hut, List.length_append] at hwl; omega
  have htx : (txb t.reverse).length = t.length := by simp [txb]
  refine Cq.seq ?_
  refine Cq.seq ?_
  refine Cq.region ?_
  refine Sq.move .plain rfl rfl ?_
  refine Sq.move .plain rfl rfl ?_
  obtain ⟨gq2, kq2, hvq2, hlq2, haq2, hbq2, hcq2⟩ := Wid.triple hW (i := j) (by omega) hr
  refine Sq.val .plain rfl rfl (Still.ixV slw106 hvq2 rfl rfl (by omega)) ?_
  refine Sq.fieldAddr fld108_0 .plain rfl rfl ?_
  refine Sq.val .plain rfl rfl (Still.load one3 rfl haq2) ?_
  refine Sq.geq .plain rfl rfl rfl ?_
  refine Sq.part (fun hp => ?_) (fun hp => ?_)
  · refine Sq.nil ?_
    refine Eq.next ?_
    refine Cq.thn rfl ?_
    refine Cq.skip ?_
    refine Eq.next ?_
    refine Cq.seq ?_
    refine Cq.block ?_
    refine Cq.region ?_
    obtain ⟨u2, hu2, hp0, hu3⟩ : ∃ u2, u = u2 ++ [l] ∧ 0 ≤ p ∧ ws[p.toNat]? = some u2 := hlk.resolve_left (fun h => by have := h.2; omega)
    have hll := hSt.lets u (List.mem_of_getElem? hu) l (by rw [hu2]; simp)
    refine Sq.move .plain rfl rfl ?_
    refine Sq.move .plain rfl rfl ?_
    refine Sq.move .plain rfl rfl ?_
    obtain ⟨gq3, kq3, hvq3, hlq3, haq3, hbq3, hcq3⟩ := Wid.triple hW (i := j) (by omega) hr
    refine Sq.val .plain rfl rfl (Still.ixV slw106 hvq3 rfl rfl (by omega)) ?_
    refine Sq.fieldAddr fld108_1 .plain rfl rfl ?_
    refine Sq.val .plain rfl rfl (Still.load one3 rfl hbq3) ?_
    refine Sq.call fn119 .plain rfl rfl (letterByte_c l (by omega) _) ?_
    rintro _ _ ⟨rfl, rfl⟩
    refine Sq.app1 sl22 ho (by omega) (by first | omega | (rw [List.length_map]; omega)) .plain rfl rfl rfl rfl rfl rfl rfl (fun v4 w5 ho7 g6 _ => ?_)
    have hs8 := g6.size
    replace E := E.owned ho g6 (by omega)
    replace hW := hW.owned ho g6 (by decide)
    refine Sq.assign .plain rfl rfl ?_
    refine Sq.nil ?_
    refine Eq.end ?_
    refine Eq.next ?_
    refine Cq.region ?_
    refine Sq.move .plain rfl rfl ?_
    refine Sq.move .plain rfl rfl ?_
    obtain ⟨gq9, kq9, hvq9, hlq9, haq9, hbq9, hcq9⟩ := Wid.triple hW (i := j) (by omega) hr
    refine Sq.val .plain rfl rfl (Still.ixV slw106 hvq9 rfl rfl (by omega)) ?_
    refine Sq.fieldAddr fld108_0 .plain rfl rfl ?_
    refine Sq.val .plain rfl rfl (Still.load one3 rfl haq9) ?_
    refine Sq.assign .plain rfl rfl ?_
    refine Sq.nil ?_
    refine Eq.round _ _ ⟨p, u2, l :: t, _, rfl, hp0, hu3, by rw [hut, hu2]; simp, Own.snocT ho7 hll, E, hW, rfl⟩ (by rw [hu2, List.length_append]; simp) (.cons rfl (.cons rfl (.cons rfl (.nil))))
  refine Sq.nil ?_
  refine Eq.next ?_
  refine Cq.els rfl ?_
  refine Cq.exit ?_
  refine Eq.past ?_
  refine Eq.past ?_
  refine Eq.hit ?_
  refine Eq.next ?_
  refine Cq.seq ?_
  refine Cq.region ?_
  refine Sq.move .plain rfl rfl ?_
  refine Sq.call fn120 .plain rfl rfl (reverse_c _ _ _ _ ho (by omega)) ?_
  rintro _ w10 ⟨rfl, ho12, g11⟩
  have hs13 := World.grownBy.size g11
  replace E := E.owned ho g11 (by omega)
  replace ho := ho12
  refine Sq.nil ?_
  refine Eq.next ?_
  refine Cq.seq ?_
  refine Cq.region ?_
  refine Sq.move .plain rfl rfl ?_
  refine Sq.val .plain rfl rfl (Still.text und22 und8_22 und9 (Own.row ho) rfl) ?_
  refine Sq.assign .plain rfl rfl ?_
  refine Sq.nil ?_
  refine Eq.next ?_
  refine Cq.ret ?_
  refine Eq.ret1 rfl rfl ?_
  rcases hlk with ⟨rfl, _⟩ | ⟨_, _, h0, _⟩
  · exact ⟨by rw [txb_rev, hut]; rfl, E⟩
  exact absurd h0 (by omega)
end Go.Proofs.Ytoboklelbbgcnaa
set_option linter.unusedSimpArgs false
set_option linter.unusedVariables false
namespace Go.Proofs.Ytoboklelbbgcnaa
open Go.RowKit
set_option maxRecDepth 100000 in
theorem visit_c (w0 wb : World) (B bs bt bg n : Nat) (gv nv : Value) (f : Int → Int → Int) (s : Int) (ws : List (List Int)) (D : Int → Prop) (G : Int → Bool) (hclo : GClo Try.prog wb gv D G) (hM : SMem wb w0 3 4 24 108 106 51 B bs bt bg gv n f s ws) (p l q : Int) (v0 : List Int) (hq : q = nodeOf f s v0) (hx : Ints w0 3 nv [q]) (hl : Link ws p l v0) (hv0 : ∀ x ∈ v0, 0 ≤ x ∧ x < 6) (hD : D q) (hqn : 0 ≤ q ∧ q < n) (hwl : ws.length ≤ 1000) : Ret Try.prog 106 #[Value.int .i64 p, Value.int .i64 l, nv, Value.pointer (some ⟨bs, 0, none⟩), Value.pointer (some ⟨bg, 0, none⟩), Value.pointer (some ⟨bt, 0, none⟩)] w0 (fun v w => v = .bool (!decide (q ∈ (ws.map (nodeOf f s))) && G q) ∧ SMem wb w 3 4 24 108 106 51 B bs bt bg gv n f s (wadd f s ws v0)) := by
  obtain ⟨sv, tv, rs, hSb, hSeen, hTb, hW, hSt, hGb, E, hB0, hB1, hB2, hB3⟩ := hM
  obtain ⟨kg, fg, cg, hgv, hFg, hgoal⟩ := hclo
  have hrl := hSt.len
  have hwb := Below.size E
  have hne1 := hSb.ne hTb (by decide)
  have hne2 := hGb.ne hTb (by decide)
  have hne3 := hGb.ne hSb (by decide)
  refine Ret.of (args := [Value.int .i64 p, Value.int .i64 l, nv, Value.pointer (some ⟨bs, 0, none⟩), Value.pointer (some ⟨bg, 0, none⟩), Value.pointer (some ⟨bt, 0, none⟩)]) Try.func106 rfl rfl rfl ?_
  rintro _ rfl
  show Cq _ _ _ _ [(0, Value.int .i64 p), (1, Value.int .i64 l), (2, nv), (3, Value.pointer (some ⟨bs, 0, none⟩)), (4, Value.pointer (some ⟨bg, 0, none⟩)), (5, Value.pointer (some ⟨bt, 0, none⟩))] _
  refine Cq.seq ?_
  refine Cq.region ?_
  refine Sq.assign .plain rfl rfl ?_
  refine Sq.nil ?_
  refine Eq.next ?_
  refine Cq.seq ?_
  refine Cq.region ?_
  refine Sq.assign .plain rfl rfl ?_
  refine Sq.nil ?_
  refine Eq.next ?_
  refine Cq.seq ?_
  refine Cq.region ?_
  refine Sq.assign .plain rfl rfl ?_
  refine Sq.nil ?_
  refine Eq.next ?_
  refine Cq.seq ?_
  refine Cq.seq ?_
  refine Cq.region ?_
  refine Sq.move .plain rfl rfl ?_
  refine Sq.lenInts hx .plain rfl und55 rfl ?_
  refine Sq.move .plain rfl rfl ?_
  refine Sq.nil ?_
  refine Eq.next ?_
  refine Cq.block ?_
  refine Cq.loop (fun nn w ls => ∃ (k : Int), ∃ (ov : Value), ∃ (xs : List Int), ∃ (ms : List Int), ∃ (bv : Bool), ls = [(0, Value.int .i64 p), (1, Value.int .i64 l), (3, Value.pointer (some ⟨bs, 0, none⟩)), (4, Value.pointer (some ⟨bg, 0, none⟩)), (5, Value.pointer (some ⟨bt, 0, none⟩)), (10, ov), (11, Value.bool bv), (14, nv), (15, Value.int .i64 ((List.length ([q] : List Int) : Int))), (16, Value.int .i64 k)] ∧ (0 ≤ k ∧ k ≤ 1) ∧ (w0.heap.size ≤ w.heap.size) ∧ Own w B 4 sv ((seenOf n ms).map Value.bool) ∧ ms = (if k = 0 then (ws.map (nodeOf f s)) else addNode (ws.map (nodeOf f s)) q) ∧ (k = 0 → ov = .slice none 0 0) ∧ Own w w0.heap.size 3 ov (xs.map (Value.int .i64)) ∧ xs = (if k = 0 ∨ q ∈ (ws.map (nodeOf f s)) then [] else [q]) ∧ bv = (decide (k = 1) && (!decide (q ∈ (ws.map (nodeOf f s))) && G q)) ∧ Ext wb w ∧ Blk w bs 24 [sv] ∧ Blk w bg 51 [gv] ∧ Blk w bt 106 [tv] ∧ Wid w B 108 3 tv (rows3 rs) ∧ Ints w 3 nv [q] ∧ Trail w 3 f s ws rs ∧ nn = (1 - k).toNat) _ _ ⟨0, _, [], _, _, rfl, by omega, Nat.le_refl _, hSeen, rfl, fun _ => rfl, Own.nil _ _ _, rfl, rfl, E, hSb, hGb, hTb, hW, hx, hSt, rfl⟩ (.cons rfl (.cons rfl (.cons rfl (.cons rfl (.cons rfl (.cons rfl (.cons rfl (.cons rfl (.cons rfl (.cons rfl (.nil))))))))))) ?_
  rintro nn wl1 ls ⟨k, ov, xs, ms, bv, rfl, hk, hsz, hSeen, hms, hov, ho, hxs, hbv, E, hSb, hGb, hTb, hW, hx, hSt, rfl⟩
  have hs1 := Below.size E
  have hsl := seenOf_length n ms
  have hl1 : (List.length ([q] : List Int) : Int) = 1 := rfl
  refine Cq.seq ?_
  refine Cq.region ?_
  refine Sq.lss .plain rfl rfl rfl ?_
  refine Sq.part (fun c2 => ?_) (fun c2 => ?_)
  · refine Sq.nil ?_
    refine Eq.next ?_
    refine Cq.seq ?_
    refine Cq.thn rfl ?_
    refine Cq.skip ?_
    refine Eq.next ?_
    refine Cq.seq ?_
    refine Cq.block ?_
    refine Cq.seq ?_
    refine Cq.region ?_
    have hk0 : k = 0 := by omega
    obtain rfl := hov hk0
    have hms0 : ms = (ws.map (nodeOf f s)) := by rw [hms, if_pos hk0]
    have hk1 : ([q] : List Int).getD k.toNat 0 = q := by rw [hk0]; rfl
    refine Sq.idxInts sl55 one3 hx .plain rfl rfl rfl .plain rfl rfl (by omega) (by simp only [List.length_singleton]; omega) ?_
    rw [hk1]
    refine Sq.assign .plain rfl rfl ?_
    refine Sq.nil ?_
    refine Eq.next ?_
    refine Cq.seq ?_
    refine Cq.region ?_
    refine Sq.loadB one24 .plain rfl rfl hSb rfl ?_
    refine Sq.move .plain rfl rfl ?_
    refine Sq.idxBools sl24 one4 (Own.row hSeen) .plain rfl rfl rfl .plain rfl rfl (by omega) (by omega) ?_
    refine Sq.partB (fun hse => ?_) (fun hse => ?_)
    · refine Sq.notT .plain rfl rfl ?_
      refine Sq.nil ?_
      refine Eq.next ?_
      refine Cq.els rfl ?_
      refine Cq.skip ?_
      refine Eq.end ?_
      refine Eq.next ?_
      refine Cq.region ?_
      refine Sq.add .plain rfl rfl rfl (by omega) ?_
      refine Sq.move .plain rfl rfl ?_
      refine Sq.nil ?_
      have hnin : q ∈ (ws.map (nodeOf f s)) := by rw [seenOf_at hqn, hms0] at hse; simpa using hse
      refine Eq.round _ _ ⟨k + 1, _, [], _, _, rfl, by omega, by omega, hSeen, by rw [if_neg (by omega), addNode_T hnin, hms0], fun h => absurd h (by omega), Own.nil _ _ _, by rw [if_pos (.inr hnin)], by rw [hbv]; simp [hk0, hnin], E, hSb, hGb, hTb, hW, hx, hSt, rfl⟩ (by omega) (.cons rfl (.cons rfl (.cons rfl (.cons rfl (.cons rfl (.cons rfl (.cons rfl (.cons rfl (.cons rfl (.cons rfl (.nil)))))))))))
    refine Sq.notF .plain rfl rfl ?_
    refine Sq.nil ?_
    refine Eq.next ?_
    refine Cq.thn rfl ?_
    refine Cq.seq ?_
    refine Cq.region ?_
    refine Sq.loadB one24 .plain rfl rfl hSb rfl ?_
    refine Sq.move .plain rfl rfl ?_
    obtain ⟨p3, hp4o⟩ := Own.at hSeen (i := q) (by omega) (by first | (simp only [List.length_map]; omega) | (simp; omega))
    refine Sq.atO sl24 hp4o .plain rfl rfl rfl ?_
    refine Sq.storeO one4 hSeen hp4o .plain rfl rfl rfl (fun w5 g6 ho7 => ?_)
    have hs8 := World.grownBy.size g6
    replace E := E.owned hSeen g6 (by omega)
    replace hSb := hSb.owned hSeen g6 (by decide)
    replace hGb := hGb.owned hSeen g6 (by decide)
    replace hTb := hTb.owned hSeen g6 (by decide)
    replace hW := hW.owned hSeen g6 (by decide)
    replace hx := hx.owned hSeen g6 (by decide)
    replace hSt := hSt.owned hSeen g6 (by decide)
    replace hSeen := ho7
    refine Sq.nil ?_
    refine Eq.next ?_
    refine Cq.seq ?_
    refine Cq.region ?_
    refine Sq.move .plain rfl rfl ?_
    refine Sq.move .plain rfl rfl ?_
    refine Sq.lit sl55 rfl rfl .plain rfl rfl (one_cons rfl one_nil) (fun b9 w10 e11 hlo12 ho13 hk14 => ?_)
    have hs15 := Below.size e11
    replace E := E.trans e11
    replace hSb := hSb.ext e11
    replace hGb := hGb.ext e11
    replace hTb := hTb.ext e11
    replace hW := hW.ext e11
    replace hx := hx.ext e11
    replace hSt := hSt.ext e11
    replace hSeen := hSeen.ext e11
    refine Sq.app1F sl55 (Own.nil _ w0.heap.size 3) (by simp) (by omega) (by simp) hk14 rfl .plain rfl rfl rfl (fun v16 w17 ho19 g18 _ _ => ?_)
    have e20 := Ext.of_grown g18
    have hs21 := Below.size e20
    replace E := E.trans e20
    replace hSb := hSb.ext e20
    replace hGb := hGb.ext e20
    replace hTb := hTb.ext e20
    replace hW := hW.ext e20
    replace hx := hx.ext e20
    replace hSt := hSt.ext e20
    replace hSeen := hSeen.ext e20
    refine Sq.assign .plain rfl rfl ?_
    refine Sq.nil ?_
    refine Eq.next ?_
    refine Cq.region ?_
    refine Sq.move .plain rfl rfl ?_
    refine Sq.beF (by rw [hbv, hk0]; rfl) ?_
    refine Sq.move .plain rfl rfl ?_
    refine Sq.loadB one51 (.met rfl rfl rfl) rfl rfl hGb rfl ?_
    refine Sq.move (.met rfl rfl rfl) rfl rfl ?_
    refine Sq.callC hFg (.met rfl rfl rfl) rfl (by rw [← hgv]; rfl) rfl (hgoal _ q E hD) ?_
    rintro _ w22 ⟨rfl, e23⟩
    have hs24 := Below.size e23
    replace E := E.trans e23
    replace hSb := hSb.ext e23
    replace hGb := hGb.ext e23
    replace hTb := hTb.ext e23
    replace hW := hW.ext e23
    replace hx := hx.ext e23
    replace hSt := hSt.ext e23
    replace hSeen := hSeen.ext e23
    replace ho19 := ho19.ext e23
    refine Sq.pickF .plain rfl rfl rfl ?_
    refine Sq.assign .plain rfl rfl ?_
    refine Sq.partB (fun hgq => ?_) (fun hgq => ?_)
    · refine Sq.nil ?_
      refine Eq.end ?_
      refine Eq.next ?_
      refine Cq.region ?_
      refine Sq.add .plain rfl rfl rfl (by omega) ?_
      refine Sq.move .plain rfl rfl ?_
      refine Sq.nil ?_
      have hnin : q ∉ (ws.map (nodeOf f s)) := by rw [seenOf_at hqn, hms0] at hse; simpa using hse
      refine Eq.round _ _ ⟨k + 1, _, [q], _, _, rfl, by omega, by omega, by rw [← seenOf_set hqn.1, List.map_set]; exact hSeen, by rw [if_neg (by omega), addNode_F hnin, hms0], fun h => absurd h (by omega), by simpa using ho19, by rw [if_neg (by rintro (h | h); omega; exact hnin h)], by simp [hk0, hnin, hgq], E, hSb, hGb, hTb, hW, hx, hSt, rfl⟩ (by omega) (.cons rfl (.cons rfl (.cons rfl (.cons rfl (.cons rfl (.cons rfl (.cons rfl (.cons rfl (.cons rfl (.cons rfl (.nil)))))))))))
    refine Sq.nil ?_
    refine Eq.end ?_
    refine Eq.next ?_
    refine Cq.region ?_
    refine Sq.add .plain rfl rfl rfl (by omega) ?_
    refine Sq.move .plain rfl rfl ?_
    refine Sq.nil ?_
    have hnin : q ∉ (ws.map (nodeOf f s)) := by rw [seenOf_at hqn, hms0] at hse; simpa using hse
    refine Eq.round _ _ ⟨k + 1, _, [q], _, _, rfl, by omega, by omega, by rw [← seenOf_set hqn.1, List.map_set]; exact hSeen, by rw [if_neg (by omega), addNode_F hnin, hms0], fun h => absurd h (by omega), by simpa using ho19, by rw [if_neg (by rintro (h | h); omega; exact hnin h)], by simp [hk0, hnin, hgq], E, hSb, hGb, hTb, hW, hx, hSt, rfl⟩ (by omega) (.cons rfl (.cons rfl (.cons rfl (.cons rfl (.cons rfl (.cons rfl (.cons rfl (.cons rfl (.cons rfl (.cons rfl (.nil)))))))))))
  refine Sq.nil ?_
  refine Eq.next ?_
  refine Cq.seq ?_
  refine Cq.els rfl ?_
  refine Cq.exit ?_
  refine Eq.past ?_
  refine Eq.past ?_
  refine Eq.hit ?_
  refine Eq.next ?_
  refine Cq.seq ?_
  refine Cq.seq ?_
  refine Cq.region ?_
  have hkk : k = 1 := by omega
  refine Sq.move .plain rfl rfl ?_
  refine Sq.lenInts (Own.row ho) .plain rfl und55 rfl ?_
  refine Sq.gtr .plain rfl rfl rfl ?_
  refine Sq.part (fun hfr => ?_) (fun hfr => ?_)
  · refine Sq.nil ?_
    refine Eq.next ?_
    refine Cq.thn rfl ?_
    refine Cq.region ?_
    have hnin : q ∉ (ws.map (nodeOf f s)) := fun h => by rw [hxs, if_pos (.inr h)] at hfr; exact absurd hfr (by decide)
    have hx1 : (xs.map (Value.int .i64)) = [q].map (Value.int .i64) := by rw [hxs, if_neg (by rintro (h | h); omega; exact hnin h)]
    refine Sq.loadB one106 .plain rfl rfl hTb rfl ?_
    refine Sq.move .plain rfl rfl ?_
    refine Sq.move .plain rfl rfl ?_
    refine Sq.move .plain rfl rfl ?_
    refine Sq.build st108 rfl rfl .plain rfl rfl (one_cons rfl (one_cons rfl (one_cons (Row.one (Own.row ho)) one_nil))) rfl ?_
    refine Sq.litW slw106 rfl rfl (by decide) .plain rfl (rows := [[Value.int .i64 p, Value.int .i64 l, ov]]) rfl (fun r hr => by rw [List.mem_singleton.1 hr]; exact ⟨rfl, one_cons rfl (one_cons rfl (one_cons (Row.one (Own.row ho)) one_nil))⟩) (fun b25 w26 e27 hlo28 hw29 hk30 => ?_)
    have hs35 := Below.size e27
    replace E := E.trans e27
    replace hSb := hSb.ext e27
    replace hGb := hGb.ext e27
    replace hTb := hTb.ext e27
    replace hW := hW.ext e27
    replace hSt := hSt.ext e27
    replace hSeen := hSeen.ext e27
    replace ho := ho.ext e27
    refine Sq.appS slw106 hW (by omega) (by rw [rows3_length]; omega) (r := [Value.int .i64 p, Value.int .i64 l, ov]) hk30 ⟨rfl, one_cons rfl (one_cons rfl (one_cons (Row.one (Own.row ho)) one_nil))⟩ .plain rfl rfl rfl (fun v31 w32 hW34 g33 _ _ => ?_)
    have hs36 := World.grownBy.size g33
    replace E := E.wid hW g33 (by omega)
    replace hSb := hSb.wid hW g33 (by decide)
    replace hGb := hGb.wid hW g33 (by decide)
    replace hTb := hTb.wid hW g33 (by decide)
    replace hSt := hSt.wid hW g33 (by decide)
    replace hSeen := hSeen.wid hW g33 (by decide)
    replace ho := ho.wid hW g33 (by decide)
    replace hW : Wid w32 B 108 3 v31 (rows3 (rs ++ [(p, l, ov)])) := by rw [rows3_snoc]; exact hW34
    refine Sq.store one106 .plain rfl rfl (Wid.one hW) hTb (by simp) (fun w37 g38 hB39 => ?_)
    have hs40 := World.grownBy.size g38
    replace E := E.grown g38 (fun k hk => by injection hk with hk; subst hk; omega)
    replace hSb := hSb.grown g38 (by intro h; injection h with h; omega)
    replace hGb := hGb.grown g38 (by intro h; injection h with h; omega)
    replace hW := hW.stored g38 hTb (by decide)
    replace hSt := hSt.stored g38 hTb (by decide)
    replace hSeen := hSeen.stored g38 hTb (by decide)
    replace ho := ho.stored g38 hTb (by decide)
    replace hTb := hB39
    refine Sq.nil ?_
    refine Eq.next ?_
    refine Cq.seq ?_
    refine Cq.region ?_
    refine Sq.move .plain rfl rfl ?_
    refine Sq.assign .plain rfl rfl ?_
    refine Sq.nil ?_
    refine Eq.next ?_
    refine Cq.ret ?_
    refine Eq.ret1 rfl rfl ?_
    have hq2 := hq
    have hn2 : nodeOf f s v0 ∉ (ws.map (nodeOf f s)) := by rw [← hq]; exact hnin
    refine ⟨by rw [hbv]; simp [hkk, hnin], ?_⟩
    rw [wadd_F hn2]
    rw [hms, if_neg (by omega), addNode_F hnin] at hSeen
    exact ⟨sv, _, _, hSb, by rw [List.map_append, List.map_cons, List.map_nil, ← hq]; exact hSeen, hTb, hW, hSt.snoc hl (by rw [← hq]; show Row _ _ _ ([q].map (Value.int .i64)); rw [← hx1]; exact Own.row ho) hv0, hGb, E, by omega, by omega, by omega, by omega⟩
  refine Sq.nil ?_
  refine Eq.next ?_
  refine Cq.els rfl ?_
  refine Cq.skip ?_
  refine Eq.next ?_
  refine Cq.seq ?_
  refine Cq.region ?_
  have hnin : q ∈ (ws.map (nodeOf f s)) := Classical.byContradiction fun h => hfr (by rw [hxs, if_neg (by rintro (h' | h'); omega; exact h h')]; show (0 : Int) < 1; decide)
  refine Sq.move .plain rfl rfl ?_
  refine Sq.assign .plain rfl rfl ?_
  refine Sq.nil ?_
  refine Eq.next ?_
  refine Cq.ret ?_
  refine Eq.ret1 rfl rfl ?_
  have hn2 : nodeOf f s v0 ∈ (ws.map (nodeOf f s)) := by rw [← hq]; exact hnin
  refine ⟨by rw [hbv]; simp [hkk, hnin], ?_⟩
  rw [wadd_T hn2]
  rw [hms, if_neg (by omega), addNode_T hnin] at hSeen
  exact ⟨sv, _, _, hSb, hSeen, hTb, hW, hSt, hGb, E, by omega, by omega, by omega, by omega⟩
end Go.Proofs.Ytoboklelbbgcnaa
set_option linter.unusedSimpArgs false
set_option linter.unusedVariables false
namespace Go.Proofs.Ytoboklelbbgcnaa
open Go.RowKit
set_option maxRecDepth 100000 in
theorem firstPath_c (w0 : World) (nI : Int) (n : Nat) (s : Int) (L : List Int) (sv0 lv fv gv : Value) (f : Int → Int → Int) (G : Int → Bool) (D : Int → Prop) (hnI : nI = n) (hs0 : Ints w0 3 sv0 [s]) (hx : Ints w0 3 lv L) (hLl : L.length ≤ 100) (hL : ∀ x ∈ L, 0 ≤ x ∧ x < 6) (hD0 : D s) (hD : ∀ q, D q → ∀ x ∈ L, D (f q x)) (hDn : ∀ q, D q → 0 ≤ q ∧ q < n) (hn : n ≤ 150) (hclo : NClo Try.prog w0 3 fv D f) (hgo : GClo Try.prog w0 gv D G) : Ret Try.prog 77 #[Value.int .i64 nI, sv0, lv, fv, gv] w0 (fun v w => v = .tuple #[.string (txt ((firstOf f s L G).getD [])), .bool (firstOf f s L G).isSome] ∧ Ext w0 w) := by
  have E := Ext.refl w0
  have hgo2 := hgo
  obtain ⟨kg, fg, cg, hgv0, hFg0, hgoal0⟩ := hgo2
  obtain ⟨kf, fnf, cf, hfv0, hFn, hcall⟩ := hclo
  have hbw := bfsw_range (f := f) (s := s) (L := L) hD0 hD hDn
  refine Ret.of (args := [Value.int .i64 nI, sv0, lv, fv, gv]) Try.func77 rfl rfl rfl ?_
  rintro _ rfl
  show Cq _ _ _ _ [(0, Value.int .i64 nI), (1, sv0), (2, lv), (3, fv), (4, gv)] _
  refine Cq.seq ?_
  refine Cq.region ?_
  refine Sq.box1 .plain rfl rfl (by rw [hgv0]; rfl) (fun b1 w2 e3 hB4 hlo5 => ?_)
  have hd6 := Nat.le_trans (Below.size E) hlo5
  have hs7 := Below.size e3
  replace E := E.trans e3
  refine Sq.assign .plain rfl rfl ?_
  refine Sq.assign .plain rfl rfl ?_
  refine Sq.nil ?_
  refine Eq.next ?_
  refine Cq.seq ?_
  refine Cq.region ?_
  refine Sq.move .plain rfl rfl ?_
  refine Sq.make sl24 .plain rfl rfl rfl rfl (by omega) (fun b8 w9 e10 hlo11 hB12 => ?_)
  replace hB12 := hB12 w2.heap.size (Nat.le_refl _)
  have hs13 := Below.size e10
  replace E := E.trans e10
  replace hB4 := hB4.ext e10
  refine Sq.alloc1 zero24 rfl .plain rfl (fun b14 w15 e16 hB17 hlo18 => ?_)
  have hd19 := Nat.le_trans (Below.size E) hlo18
  have hd20 := Nat.lt_of_lt_of_le hB4.lt hlo18
  have hs21 := Below.size e16
  replace E := E.trans e16
  replace hB4 := hB4.ext e16
  replace hB12 := hB12.ext e16
  refine Sq.store one24 .plain rfl rfl (Row.one (Own.row hB12)) hB17 (by simp) (fun w22 g23 hB24 => ?_)
  have hs25 := World.grownBy.size g23
  replace E := E.grown g23 (fun k hk => by injection hk with hk; subst hk; omega)
  replace hB4 := hB4.grown g23 (by intro h; injection h with h; omega)
  replace hB12 := hB12.stored g23 hB17 (by decide)
  replace hB17 := hB24
  refine Sq.nil ?_
  refine Eq.next ?_
  refine Cq.seq ?_
  refine Cq.region ?_
  refine Sq.alloc1 zero106 rfl .plain rfl (fun b26 w27 e28 hB29 hlo30 => ?_)
  have hd31 := Nat.le_trans (Below.size E) hlo30
  have hd32 := Nat.lt_of_lt_of_le hB4.lt hlo30
  have hd33 := Nat.lt_of_lt_of_le hB17.lt hlo30
  have hs34 := Below.size e28
  replace E := E.trans e28
  replace hB4 := hB4.ext e28
  replace hB12 := hB12.ext e28
  replace hB17 := hB17.ext e28
  refine Sq.nil ?_
  refine Eq.next ?_
  refine Cq.seq ?_
  refine Cq.region ?_
  refine Sq.makeFunc .plain rfl rfl ?_
  refine Sq.assign .plain rfl rfl ?_
  refine Sq.nil ?_
  refine Eq.next ?_
  refine Cq.seq ?_
  refine Cq.seq ?_
  refine Cq.region ?_
  refine Sq.move .plain rfl rfl ?_
  refine Sq.move .plain rfl rfl ?_
  have hM : SMem w0 w27 3 4 24 108 106 51 w2.heap.size b14 b26 b1 gv n f s [] := ⟨_, _, [], hB17, Own.seen0 (seen_n (by omega) hB12), hB29, Wid.nil _ _ _ _, Trail.nil _ _ _ _, hB4, E, by omega, by omega, by omega, by omega⟩
  refine Sq.callC fn106 .plain rfl rfl rfl (visit_c _ _ _ _ _ _ _ _ _ f s _ D G hgo hM _ _ s [] rfl (hs0.ext E) (.inl ⟨rfl, rfl⟩) (by simp) hD0 (hDn _ hD0) (by simp)) ?_
  rintro _ w35 ⟨rfl, hM'⟩
  clear hM
  have hM := hM'
  clear hM'
  replace E := SMem.base hM
  have hs37 := Below.size E
  refine Sq.partB (fun hg0 => ?_) (fun hg0 => ?_)
  · refine Sq.nil ?_
    refine Eq.next ?_
    refine Cq.thn rfl ?_
    refine Cq.seq ?_
    refine Cq.region ?_
    refine Sq.assign .plain rfl rfl ?_
    refine Sq.assign .plain rfl rfl ?_
    refine Sq.nil ?_
    refine Eq.next ?_
    refine Cq.ret ?_
    refine Eq.pastRet ?_
    refine Eq.ret2 rfl rfl rfl ?_
    have e1 := first_here (f := f) (L := L) (by simpa using hg0 : G s = true)
    exact ⟨by rw [e1]; rfl, E⟩
  refine Sq.nil ?_
  refine Eq.next ?_
  refine Cq.els rfl ?_
  refine Cq.skip ?_
  refine Eq.next ?_
  refine Cq.seq ?_
  refine Cq.seq ?_
  refine Cq.region ?_
  refine Sq.assign .plain rfl rfl ?_
  refine Sq.nil ?_
  refine Eq.next ?_
  refine Cq.block ?_
  have hw0 : wadd f s [] [] = bfsw f s L 0 := wadd_F (by simp)
  rw [hw0] at hM
  refine Cq.loop (fun nn w ls => ∃ (i : Int), ls = [(2, lv), (3, fv), (13, Value.pointer (some ⟨b26, 0, none⟩)), (14, Value.func (.func 106) #[] #[Value.pointer (some ⟨b14, 0, none⟩), Value.pointer (some ⟨b1, 0, none⟩), Value.pointer (some ⟨b26, 0, none⟩)]), (15, Value.int .i64 i)] ∧ (0 ≤ i ∧ i ≤ (List.length (bfsw f s L i.toNat) : Int)) ∧ SMem w0 w 3 4 24 108 106 51 w2.heap.size b14 b26 b1 gv n f s (bfsw f s L i.toNat) ∧ (∀ v ∈ (bfsw f s L i.toNat), G (nodeOf f s v) = false) ∧ Ext w0 w ∧ nn = (151 - i).toNat) _ _ ⟨0, rfl, ⟨by omega, by show (0 : Int) ≤ ((1 : Nat) : Int); omega⟩, hM, (fun v hv => by rw [show v = [] by simpa [bfsw] using hv]; simpa [nodeOf] using hg0), E, rfl⟩ (.cons rfl (.cons rfl (.cons rfl (.cons rfl (.cons rfl (.nil)))))) ?_
  rintro nn wl1 ls ⟨i, rfl, hi, hM, hG, E, rfl⟩
  have hs38 := Below.size E
  have hbl := hbw i.toNat
  have hbl1 := hbw (i.toNat + 1)
  refine Cq.seq ?_
  refine Cq.seq ?_
  refine Cq.region ?_
  refine Sq.move .plain rfl rfl ?_
  have M39 := hM
  obtain ⟨svM39, tvM39, rsM39, _, _, hTM39, hWM39, hSM39, _⟩ := M39
  refine Sq.loadB one106 .plain rfl rfl hTM39 rfl ?_
  refine Sq.lenWid hWM39 .plain rfl und106 rfl ?_
  rw [rows3_length, hSM39.len]
  refine Sq.lss .plain rfl rfl rfl ?_
  refine Sq.part (fun c40 => ?_) (fun c40 => ?_)
  · refine Sq.nil ?_
    refine Eq.next ?_
    refine Cq.thn rfl ?_
    refine Cq.skip ?_
    refine Eq.next ?_
    refine Cq.seq ?_
    refine Cq.block ?_
    refine Cq.seq ?_
    refine Cq.region ?_
    refine Sq.move .plain rfl rfl ?_
    refine Sq.lenInts (hx.ext E) .plain rfl und55 rfl ?_
    refine Sq.move .plain rfl rfl ?_
    refine Sq.nil ?_
    refine Eq.next ?_
    refine Cq.block ?_
    obtain ⟨u, hu⟩ : ∃ u, (bfsw f s L i.toNat)[i.toNat]? = some u := ⟨_, List.getElem?_eq_getElem (by omega)⟩
    have hDu : D (nodeOf f s u) := nodeOf_in hD0 hD _ _ (List.mem_of_getElem? hu)
    have hul := bfsw_lets (f := f) (s := s) (i := i.toNat) hL u (List.mem_of_getElem? hu)
    refine Cq.loop (fun nn w ls => ∃ (k : Int), ls = [(2, lv), (3, fv), (13, Value.pointer (some ⟨b26, 0, none⟩)), (14, Value.func (.func 106) #[] #[Value.pointer (some ⟨b14, 0, none⟩), Value.pointer (some ⟨b1, 0, none⟩), Value.pointer (some ⟨b26, 0, none⟩)]), (15, Value.int .i64 i), (33, lv), (34, Value.int .i64 (List.length L : Int)), (35, Value.int .i64 k)] ∧ (0 ≤ k ∧ k ≤ L.length) ∧ SMem w0 w 3 4 24 108 106 51 w2.heap.size b14 b26 b1 gv n f s (wmid f s L i.toNat u k.toNat) ∧ (∀ v ∈ (wmid f s L i.toNat u k.toNat), G (nodeOf f s v) = false) ∧ Ext w0 w ∧ nn = ((L.length : Int) - k).toNat) _ _ ⟨0, rfl, by omega, hM, hG, E, rfl⟩ (.cons rfl (.cons rfl (.cons rfl (.cons rfl (.cons rfl (.cons rfl (.cons rfl (.cons rfl (.nil))))))))) ?_
    rintro nn wl2 ls ⟨k, rfl, hk, hM, hG, E, rfl⟩
    have hs41 := Below.size E
    have hmh := (wmid_last (f := f) (s := s) (L := L) (k := k.toNat) hu).length_le
    have hum : (wmid f s L i.toNat u k.toNat)[i.toNat]? = some u := by
      obtain ⟨t, ht⟩ := wmid_more (f := f) (s := s) (L := L) i.toNat u k.toNat
      rw [← ht, List.getElem?_append_left (List.getElem?_eq_some_iff.1 hu).1]; exact hu
    refine Cq.seq ?_
    refine Cq.region ?_
    refine Sq.lss .plain rfl rfl rfl ?_
    refine Sq.part (fun c42 => ?_) (fun c42 => ?_)
    · refine Sq.nil ?_
      refine Eq.next ?_
      refine Cq.seq ?_
      refine Cq.thn rfl ?_
      refine Cq.skip ?_
      refine Eq.next ?_
      refine Cq.seq ?_
      refine Cq.block ?_
      refine Cq.seq ?_
      refine Cq.region ?_
      refine Sq.idxInts sl55 one3 (hx.ext E) .plain rfl rfl rfl .plain rfl rfl (by omega) (by omega) ?_
      refine Sq.assign .plain rfl rfl ?_
      refine Sq.nil ?_
      refine Eq.next ?_
      refine Cq.seq ?_
      refine Cq.region ?_
      refine Sq.assign .plain rfl rfl ?_
      refine Sq.nil ?_
      refine Eq.next ?_
      refine Cq.seq ?_
      refine Cq.seq ?_
      refine Cq.region ?_
      have M43 := hM
      obtain ⟨svM43, tvM43, rsM43, _, _, hTM43, hWM43, hSM43, _⟩ := M43
      obtain ⟨pp, ll, fvv, hr, hlk, hfv⟩ := hSM43.row _ _ hum
      have hlt := (List.getElem?_eq_some_iff.1 hr).1
      refine Sq.loadB one106 .plain rfl rfl hTM43 rfl ?_
      refine Sq.move .plain rfl rfl ?_
      obtain ⟨gq44, kq44, hvq44, hlq44, haq44, hbq44, hcq44⟩ := Wid.triple hWM43 (i := i) (by omega) hr
      refine Sq.val .plain rfl rfl (Still.ixV slw106 hvq44 rfl rfl (by omega)) ?_
      refine Sq.fieldAddr fld108_2 .plain rfl rfl ?_
      refine Sq.val .plain rfl rfl (Still.load one55 rfl hcq44) ?_
      refine Sq.lenInts hfv .plain rfl und55 rfl ?_
      refine Sq.move .plain rfl rfl ?_
      refine Sq.nil ?_
      refine Eq.next ?_
      refine Cq.block ?_
      have hXm : (L.getD k.toNat 0) ∈ L := getD_mem (by omega)
      have hXr := hL _ hXm
      have hlu : ∀ x ∈ u ++ [(L.getD k.toNat 0)], 0 ≤ x ∧ x < 6 := by
        intro x hx
        rcases List.mem_append.1 hx with h | h
        · exact hul x h
        · rw [List.mem_singleton.1 h]; exact hXr
      have hul2 : u.length ≤ 150 := by have := bfsw_lenw hu; omega
      have hone : (List.length ([(nodeOf f s u)] : List Int) : Int) = 1 := rfl
      refine Cq.loop (fun nn w ls => ∃ (j : Int), ∃ (rv : Value), ls = [(2, lv), (3, fv), (13, Value.pointer (some ⟨b26, 0, none⟩)), (14, Value.func (.func 106) #[] #[Value.pointer (some ⟨b14, 0, none⟩), Value.pointer (some ⟨b1, 0, none⟩), Value.pointer (some ⟨b26, 0, none⟩)]), (15, Value.int .i64 i), (17, Value.int .i64 (L.getD k.toNat 0)), (18, rv), (33, lv), (34, Value.int .i64 (List.length L : Int)), (35, Value.int .i64 k), (43, fvv), (44, Value.int .i64 ((List.length ([(nodeOf f s u)] : List Int) : Int))), (45, Value.int .i64 j)] ∧ (0 ≤ j ∧ j ≤ 1) ∧ (j = 0 → rv = .slice none 0 0) ∧ (j = 1 → Ints w 3 rv [f (nodeOf f s u) (L.getD k.toNat 0)]) ∧ Ext w0 w ∧ Ints w 3 fvv [(nodeOf f s u)] ∧ SMem w0 w 3 4 24 108 106 51 w2.heap.size b14 b26 b1 gv n f s (wmid f s L i.toNat u k.toNat) ∧ nn = (1 - j).toNat) _ _ ⟨0, _, rfl, by omega, fun _ => rfl, fun h => absurd h (by decide), E, hfv, hM, rfl⟩ (.cons rfl (.cons rfl (.cons rfl (.cons rfl (.cons rfl (.cons rfl (.cons rfl (.cons rfl (.cons rfl (.cons rfl (.cons rfl (.cons rfl (.cons rfl (.nil)))))))))))))) ?_
      rintro nn wl3 ls ⟨j, rv, rfl, hj, hrv, hrr, E, hfv, hM, rfl⟩
      have hs45 := Below.size E
      refine Cq.seq ?_
      refine Cq.region ?_
      refine Sq.lss .plain rfl rfl rfl ?_
      refine Sq.part (fun c46 => ?_) (fun c46 => ?_)
      · refine Sq.nil ?_
        refine Eq.next ?_
        refine Cq.seq ?_
        refine Cq.thn rfl ?_
        refine Cq.skip ?_
        refine Eq.next ?_
        refine Cq.seq ?_
        refine Cq.block ?_
        refine Cq.seq ?_
        refine Cq.region ?_
        have hj0 : j = 0 := by omega
        obtain rfl := hrv hj0
        have hj1 : ([(nodeOf f s u)] : List Int).getD j.toNat 0 = (nodeOf f s u) := by rw [hj0]; rfl
        refine Sq.idxInts sl55 one3 hfv .plain rfl rfl rfl .plain rfl rfl (by omega) (by simp only [List.length_singleton]; omega) ?_
        rw [hj1]
        refine Sq.assign .plain rfl rfl ?_
        refine Sq.nil ?_
        refine Eq.next ?_
        refine Cq.region ?_
        refine Sq.move .plain rfl rfl ?_
        refine Sq.move .plain rfl rfl ?_
        refine Sq.move .plain rfl rfl ?_
        refine Sq.move .plain rfl rfl ?_
        refine Sq.callC hFn .plain rfl (by rw [← hfv0]; rfl) rfl (hcall _ _ _ E hDu hXr) ?_
        rintro vw47 w47 ⟨ho48, e49⟩
        have hs50 := Below.size e49
        replace E := E.trans e49
        replace hfv := hfv.ext e49
        replace hM := hM.ext e49
        refine Sq.assign .plain rfl rfl ?_
        refine Sq.nil ?_
        refine Eq.end ?_
        refine Eq.next ?_
        refine Cq.region ?_
        refine Sq.add .plain rfl rfl rfl (by omega) ?_
        refine Sq.move .plain rfl rfl ?_
        refine Sq.nil ?_
        refine Eq.round _ _ ⟨j + 1, _, rfl, by omega, fun h => absurd h (by omega), fun _ => Own.row ho48, E, hfv, hM, rfl⟩ (by omega) (.cons rfl (.cons rfl (.cons rfl (.cons rfl (.cons rfl (.cons rfl (.cons rfl (.cons rfl (.cons rfl (.cons rfl (.cons rfl (.cons rfl (.cons rfl (.nil))))))))))))))
      refine Sq.nil ?_
      refine Eq.next ?_
      refine Cq.seq ?_
      refine Cq.els rfl ?_
      refine Cq.exit ?_
      refine Eq.past ?_
      refine Eq.past ?_
      refine Eq.hit ?_
      refine Eq.next ?_
      refine Cq.seq ?_
      refine Cq.region ?_
      refine Sq.move .plain rfl rfl ?_
      refine Sq.move .plain rfl rfl ?_
      refine Sq.move .plain rfl rfl ?_
      refine Sq.move .plain rfl rfl ?_
      refine Sq.callC fn106 .plain rfl rfl rfl (visit_c _ _ _ _ _ _ _ _ _ f s _ D G hgo hM i (L.getD k.toNat 0) _ (u ++ [(L.getD k.toNat 0)]) (nodeOf_snoc ..).symm (hrr (by omega)) (.inr ⟨u, rfl, hi.1, hum⟩) hlu (hD _ hDu _ hXm) (hDn _ (hD _ hDu _ hXm)) (by omega)) ?_
      rintro _ w51 ⟨rfl, hM'⟩
      clear hM
      have hM := hM'
      clear hM'
      replace E := SMem.base hM
      have hs53 := Below.size E
      refine Sq.partB (fun hfd => ?_) (fun hfd => ?_)
      · refine Sq.nil ?_
        refine Eq.next ?_
        refine Cq.thn rfl ?_
        refine Cq.seq ?_
        refine Cq.region ?_
        have hnew : nodeOf f s (u ++ [(L.getD k.toNat 0)]) ∉ (wmid f s L i.toNat u k.toNat).map (nodeOf f s) ∧ G (nodeOf f s (u ++ [(L.getD k.toNat 0)])) = true := by rw [nodeOf_snoc]; simpa using hfd
        rw [wadd_F hnew.1] at hM
        have M54 := hM
        obtain ⟨svM54, tvM54, rsM54, _, _, hTM54, hWM54, hSM54, _⟩ := M54
        refine Sq.loadB one106 .plain rfl rfl hTM54 rfl ?_
        refine Sq.call fn107 .plain rfl rfl (pathWord_c _ _ _ _ f s _ hWM54 hSM54 (u ++ [(L.getD k.toNat 0)]) (by rw [List.length_append, List.length_singleton, Nat.add_sub_cancel, List.getElem?_append_right (Nat.le_refl _), Nat.sub_self]; rfl) (by rw [List.length_append, List.length_singleton]; omega) (by rw [List.length_append, List.length_singleton]; omega)) ?_
        rintro _ w55 ⟨rfl, e56⟩
        have hs57 := Below.size e56
        replace E := E.trans e56
        refine Sq.assign .plain rfl rfl ?_
        refine Sq.assign .plain rfl rfl ?_
        refine Sq.nil ?_
        refine Eq.next ?_
        refine Cq.ret ?_
        refine Eq.outRet ?_
        refine Eq.pastRet ?_
        refine Eq.pastRet ?_
        refine Eq.outRet ?_
        refine Eq.outRet ?_
        refine Eq.pastRet ?_
        refine Eq.pastRet ?_
        refine Eq.outRet ?_
        refine Eq.pastRet ?_
        refine Eq.ret2 rfl rfl rfl ?_
        have e1 := first_found hu (by omega) (by omega) hG hnew.1 hnew.2
        exact ⟨by rw [e1]; rfl, E⟩
      refine Sq.nil ?_
      refine Eq.next ?_
      refine Cq.els rfl ?_
      refine Cq.skip ?_
      refine Eq.end ?_
      refine Eq.next ?_
      refine Cq.region ?_
      refine Sq.add .plain rfl rfl rfl (by omega) ?_
      refine Sq.move .plain rfl rfl ?_
      refine Sq.nil ?_
      have e2 := toNat_succ hk.1
      have e5 := wmid_succ (f := f) (s := s) (i := i.toNat) (u := u) (k := k.toNat) (L := L) (by omega)
      refine Eq.round _ _ ⟨k + 1, rfl, by omega, by rw [e2, e5]; exact hM, by rw [e2, e5]; exact wadd_miss hG (by rw [nodeOf_snoc]; exact hfd), E, rfl⟩ (by omega) (.cons rfl (.cons rfl (.cons rfl (.cons rfl (.cons rfl (.cons rfl (.cons rfl (.cons rfl (.nil)))))))))
    refine Sq.nil ?_
    refine Eq.next ?_
    refine Cq.seq ?_
    refine Cq.els rfl ?_
    refine Cq.exit ?_
    refine Eq.past ?_
    refine Eq.past ?_
    refine Eq.hit ?_
    refine Eq.end ?_
    refine Eq.next ?_
    refine Cq.region ?_
    refine Sq.move .plain rfl rfl ?_
    refine Sq.add .plain rfl rfl rfl (by omega) ?_
    refine Sq.assign .plain rfl rfl ?_
    refine Sq.nil ?_
    have e1 := toNat_succ hi.1
    have e3 := wmid_done (k := k.toNat) (by omega) hu
    have e4 := (bfsw_prefix1 (f := f) (s := s) (L := L) i.toNat).length_le
    refine Eq.round _ _ ⟨i + 1, rfl, by rw [e1]; omega, by rw [e1, ← e3]; exact hM, by rw [e1, ← e3]; exact hG, E, rfl⟩ (by omega) (.cons rfl (.cons rfl (.cons rfl (.cons rfl (.cons rfl (.nil))))))
  refine Sq.nil ?_
  refine Eq.next ?_
  refine Cq.els rfl ?_
  refine Cq.exit ?_
  refine Eq.past ?_
  refine Eq.past ?_
  refine Eq.hit ?_
  refine Eq.next ?_
  refine Cq.seq ?_
  refine Cq.region ?_
  refine Sq.assign .plain rfl rfl ?_
  refine Sq.assign .plain rfl rfl ?_
  refine Sq.nil ?_
  refine Eq.next ?_
  refine Cq.ret ?_
  refine Eq.ret2 rfl rfl rfl ?_
  have e1 := first_missed (f := f) (s := s) (L := L) (G := G) (i := i.toNat) (by omega) (by omega) hG
  exact ⟨by rw [e1]; rfl, E⟩
end Go.Proofs.Ytoboklelbbgcnaa
set_option linter.unusedSimpArgs false
set_option linter.unusedVariables false
namespace Go.Proofs.Ytoboklelbbgcnaa
open Go.RowKit
set_option maxRecDepth 100000 in
theorem ff1_c (w0 : World) (q x : Int) (a : A) (bt b : Nat) (xs : List Int) (hB : Blk w0 bt 52 [Value.slice (some ⟨b, 0, none⟩) a.next.length a.next.length]) (hT : Blk w0 b 57 (xs.map (Value.int .i64))) (hTab : Tab a xs) (hq : 0 ≤ q ∧ q < a.next.length) (hx : 0 ≤ x ∧ x < 6) : Ret Try.prog 94 #[Value.int .i64 q, Value.int .i64 x, Value.slice none 0 0, Value.pointer (some ⟨bt, 0, none⟩)] w0 (fun v w => Own w w0.heap.size 3 v [Value.int .i64 (goA a q x)] ∧ Ext w0 w) := by
  have E := Ext.refl w0
  refine Ret.of (args := [Value.int .i64 q, Value.int .i64 x, Value.slice none 0 0, Value.pointer (some ⟨bt, 0, none⟩)]) Try.func94 rfl rfl rfl ?_
  rintro _ rfl
  show Cq _ _ _ _ [(0, Value.int .i64 q), (1, Value.int .i64 x), (2, Value.slice none 0 0), (3, Value.pointer (some ⟨bt, 0, none⟩))] _
  refine Cq.seq ?_
  refine Cq.region ?_
  refine Sq.assign .plain rfl rfl ?_
  refine Sq.nil ?_
  refine Eq.next ?_
  refine Cq.seq ?_
  refine Cq.region ?_
  refine Sq.move .plain rfl rfl ?_
  refine Sq.loadB one52 .plain rfl rfl hB rfl ?_
  refine Sq.move .plain rfl rfl ?_
  refine Sq.move .plain rfl rfl ?_
  refine Sq.val .plain rfl rfl (Still.ixS slk52 rfl rfl (by omega) (by omega)) ?_
  refine Sq.val .plain rfl rfl (Still.ixA ar57 rfl rfl (by omega) (by omega)) ?_
  refine Sq.val .plain rfl rfl (Still.loadB one3 rfl hT (by rw [Nat.zero_add, List.getElem?_map, hTab.2 q x (by first | omega | assumption) (by omega)]; rfl)) ?_
  refine Sq.app1 sl55 (Own.nil w0 (w0.heap.size) 3) (by omega) (by simp) .plain rfl rfl rfl rfl rfl rfl rfl (fun v1 w2 ho4 g3 _ => ?_)
  have hs5 := g3.size
  replace E := E.owned (Own.nil w0 (w0.heap.size) 3) g3 (by omega)
  refine Sq.assign .plain rfl rfl ?_
  refine Sq.nil ?_
  refine Eq.next ?_
  refine Cq.ret ?_
  refine Eq.ret1 rfl rfl ?_
  exact ⟨by simpa using ho4, E⟩
set_option maxRecDepth 100000 in
theorem la1_c (w0 : World) (q x : Int) (a : A) (bt b : Nat) (xs : List Int) (hB : Blk w0 bt 52 [Value.slice (some ⟨b, 0, none⟩) a.next.length a.next.length]) (hT : Blk w0 b 57 (xs.map (Value.int .i64))) (hTab : Tab a xs) (hq : 0 ≤ q ∧ q < a.next.length) (hx : 0 ≤ x ∧ x < 6) : Ret Try.prog 100 #[Value.int .i64 q, Value.int .i64 x, Value.slice none 0 0, Value.pointer (some ⟨bt, 0, none⟩)] w0 (fun v w => Own w w0.heap.size 3 v [Value.int .i64 (goA a q x)] ∧ Ext w0 w) := by
  have E := Ext.refl w0
  refine Ret.of (args := [Value.int .i64 q, Value.int .i64 x, Value.slice none 0 0, Value.pointer (some ⟨bt, 0, none⟩)]) Try.func100 rfl rfl rfl ?_
  rintro _ rfl
  show Cq _ _ _ _ [(0, Value.int .i64 q), (1, Value.int .i64 x), (2, Value.slice none 0 0), (3, Value.pointer (some ⟨bt, 0, none⟩))] _
  refine Cq.seq ?_
  refine Cq.region ?_
  refine Sq.assign .plain rfl rfl ?_
  refine Sq.nil ?_
  refine Eq.next ?_
  refine Cq.seq ?_
  refine Cq.region ?_
  refine Sq.move .plain rfl rfl ?_
  refine Sq.loadB one52 .plain rfl rfl hB rfl ?_
  refine Sq.move .plain rfl rfl ?_
  refine Sq.move .plain rfl rfl ?_
  refine Sq.val .plain rfl rfl (Still.ixS slk52 rfl rfl (by omega) (by omega)) ?_
  refine Sq.val .plain rfl rfl (Still.ixA ar57 rfl rfl (by omega) (by omega)) ?_
  refine Sq.val .plain rfl rfl (Still.loadB one3 rfl hT (by rw [Nat.zero_add, List.getElem?_map, hTab.2 q x (by first | omega | assumption) (by omega)]; rfl)) ?_
  refine Sq.app1 sl55 (Own.nil w0 (w0.heap.size) 3) (by omega) (by simp) .plain rfl rfl rfl rfl rfl rfl rfl (fun v1 w2 ho4 g3 _ => ?_)
  have hs5 := g3.size
  replace E := E.owned (Own.nil w0 (w0.heap.size) 3) g3 (by omega)
  refine Sq.assign .plain rfl rfl ?_
  refine Sq.nil ?_
  refine Eq.next ?_
  refine Cq.ret ?_
  refine Eq.ret1 rfl rfl ?_
  exact ⟨by simpa using ho4, E⟩
set_option maxRecDepth 100000 in
theorem fa1_c (w0 : World) (q : Int) (a : A) (nx ac : Value) (b : Nat) (hB : Blk w0 b 26 [Value.int .i64 a.al, nx, ac]) (hac : Bools w0 4 ac a.acc) (hq : 0 ≤ q ∧ q < a.acc.length) : Ret Try.prog 59 #[Value.int .i64 q, Value.pointer (some ⟨b, 0, none⟩)] w0 (fun v w => v = .bool (accA a q) ∧ w0 = w) := by
  refine Ret.of (args := [Value.int .i64 q, Value.pointer (some ⟨b, 0, none⟩)]) Try.func59 rfl rfl rfl ?_
  rintro _ rfl
  show Cq _ _ _ _ [(0, Value.int .i64 q), (1, Value.pointer (some ⟨b, 0, none⟩))] _
  refine Cq.seq ?_
  refine Cq.region ?_
  refine Sq.assign .plain rfl rfl ?_
  refine Sq.nil ?_
  refine Eq.next ?_
  refine Cq.seq ?_
  refine Cq.region ?_
  refine Sq.fieldAddr fld26_2 .plain rfl rfl ?_
  refine Sq.loadB one24 .plain rfl rfl hB rfl ?_
  refine Sq.move .plain rfl rfl ?_
  refine Sq.idxBools sl24 one4 hac .plain rfl rfl rfl .plain rfl rfl (by omega) (by omega) ?_
  refine Sq.assign .plain rfl rfl ?_
  refine Sq.nil ?_
  refine Eq.next ?_
  refine Cq.ret ?_
  refine Eq.ret1 rfl rfl ?_
  exact ⟨rfl, rfl⟩
set_option maxRecDepth 100000 in
theorem la2_c (w0 : World) (q : Int) (a : A) (nx ac : Value) (b : Nat) (hB : Blk w0 b 26 [Value.int .i64 a.al, nx, ac]) (hac : Bools w0 4 ac a.acc) (hq : 0 ≤ q ∧ q < a.acc.length) : Ret Try.prog 101 #[Value.int .i64 q, Value.pointer (some ⟨b, 0, none⟩)] w0 (fun v w => v = .bool (accA a q) ∧ w0 = w) := by
  refine Ret.of (args := [Value.int .i64 q, Value.pointer (some ⟨b, 0, none⟩)]) Try.func101 rfl rfl rfl ?_
  rintro _ rfl
  show Cq _ _ _ _ [(0, Value.int .i64 q), (1, Value.pointer (some ⟨b, 0, none⟩))] _
  refine Cq.seq ?_
  refine Cq.region ?_
  refine Sq.assign .plain rfl rfl ?_
  refine Sq.nil ?_
  refine Eq.next ?_
  refine Cq.seq ?_
  refine Cq.region ?_
  refine Sq.fieldAddr fld26_2 .plain rfl rfl ?_
  refine Sq.loadB one24 .plain rfl rfl hB rfl ?_
  refine Sq.move .plain rfl rfl ?_
  refine Sq.idxBools sl24 one4 hac .plain rfl rfl rfl .plain rfl rfl (by omega) (by omega) ?_
  refine Sq.assign .plain rfl rfl ?_
  refine Sq.nil ?_
  refine Eq.next ?_
  refine Cq.ret ?_
  refine Eq.ret1 rfl rfl ?_
  exact ⟨rfl, rfl⟩
set_option maxRecDepth 100000 in
theorem do1_c (w0 : World) (x y : Bool) : Ret Try.prog 64 #[Value.bool x, Value.bool y] w0 (fun v w => v = .bool (x != y) ∧ w0 = w) := by
  refine Ret.of (args := [Value.bool x, Value.bool y]) Try.func64 rfl rfl rfl ?_
  rintro _ rfl
  show Cq _ _ _ _ [(0, Value.bool x), (1, Value.bool y)] _
  refine Cq.seq ?_
  refine Cq.region ?_
  refine Sq.assign .plain rfl rfl ?_
  refine Sq.nil ?_
  refine Eq.next ?_
  refine Cq.seq ?_
  refine Cq.region ?_
  refine Sq.move .plain rfl rfl ?_
  refine Sq.move .plain rfl rfl ?_
  refine Sq.neqB und4 .plain rfl rfl rfl ?_
  refine Sq.assign .plain rfl rfl ?_
  refine Sq.nil ?_
  refine Eq.next ?_
  refine Cq.ret ?_
  refine Eq.ret1 rfl rfl ?_
  exact ⟨by cases x <;> cases y <;> rfl, rfl⟩
set_option maxRecDepth 100000 in
theorem firstFrom_c (w0 : World) (a : A) (nx ac : Value) (hnx : Rows w0 55 3 nx a.next) (hac : Bools w0 4 ac a.acc) (hv : validA a = true) (gv : Value) (G : Int → Bool) (hgo : GClo Try.prog w0 gv (fun q => 0 ≤ q ∧ q < (a.next.length : Int)) G) : Ret Try.prog 58 #[Value.agg #[Value.int .i64 a.al, nx, ac], gv] w0 (fun v w => v = resW (firstA a 0 G) ∧ Ext w0 w) := by
  have E := Ext.refl w0
  have hal := (validA_spec.1 hv).1
  refine Ret.of (args := [Value.agg #[Value.int .i64 a.al, nx, ac], gv]) Try.func58 rfl rfl rfl ?_
  rintro _ rfl
  show Cq _ _ _ _ [(0, Value.agg #[Value.int .i64 a.al, nx, ac]), (1, gv)] _
  refine Cq.seq ?_
  refine Cq.region ?_
  refine Sq.box .plain rfl rfl (fun b1 w2 e3 hB4 hlo5 => ?_)
  have hd6 := Nat.le_trans (Below.size E) hlo5
  have hs7 := Below.size e3
  replace E := E.trans e3
  refine Sq.assign .plain rfl rfl ?_
  refine Sq.assign .plain rfl rfl ?_
  refine Sq.nil ?_
  refine Eq.next ?_
  refine Cq.seq ?_
  refine Cq.region ?_
  refine Sq.loadAgg agg26 .plain rfl rfl hB4 rfl ?_
  have hd16 := hB4.lt
  refine Sq.call fn43 .plain rfl rfl (tableOf_c _ a _ _ (hnx.ext E) (hac.ext E) hv) ?_
  rintro _ w9 ⟨⟨b11, xs12, rfl, hlo13, hT14, hTab15⟩, e10⟩
  have hs17 := Below.size E
  have hs18 := Below.size e10
  replace E := E.trans e10
  replace hB4 := hB4.ext e10
  refine Sq.alloc1 zero52 rfl .plain rfl (fun b19 w20 e21 hB22 hlo23 => ?_)
  have hd24 := Nat.le_trans (Below.size E) hlo23
  have hd25 := Nat.lt_of_lt_of_le hB4.lt hlo23
  have hd26 := Nat.lt_of_lt_of_le hT14.lt hlo23
  have hs27 := Below.size e21
  replace E := E.trans e21
  replace hB4 := hB4.ext e21
  replace hT14 := hT14.ext e21
  refine Sq.store one52 .plain rfl rfl rfl hB22 (by simp) (fun w28 g29 hB30 => ?_)
  have hs31 := World.grownBy.size g29
  replace E := E.grown g29 (fun k hk => by injection hk with hk; subst hk; omega)
  replace hB4 := hB4.grown g29 (by intro h; injection h with h; omega)
  replace hT14 := hT14.grown g29 (by intro h; injection h with h; omega)
  replace hB22 := hB30
  refine Sq.nil ?_
  refine Eq.next ?_
  refine Cq.seq ?_
  refine Cq.drawS 11 (fun w' => Blk w' b1 26 [Value.int .i64 a.al, nx, ac] ∧ Blk w' b19 52 [Value.slice (some ⟨b11, 0, none⟩) a.next.length a.next.length] ∧ Blk w' b11 57 (xs12.map (Value.int .i64)) ∧ Ext w0 w') mixed (⟨hB4, hB22, hT14, E⟩) (fun w32 e33 hS => ?_)
  clear hS
  have hs34 := Below.size e33
  replace E := E.trans e33
  replace hB4 := hB4.ext e33
  replace hT14 := hT14.ext e33
  replace hB22 := hB22.ext e33
  refine Gq.st 0 rfl (by kernel_rfl) rfl .plain rfl (fun _ _ _ h => h) ⟨hB4, hB22, hT14, E⟩ (fun w' x => Still.loadB one52 rfl x.2.1 rfl) ?_
  refine Gq.st 1 rfl (by kernel_rfl) rfl .plain rfl (fun _ _ _ h => h) ⟨hB4, hB22, hT14, E⟩ (fun w' x => Still.len und52 rfl) ?_
  refine Gq.st 3 rfl (by kernel_rfl) rfl .plain rfl (fun _ _ _ h => h) ⟨hB4, hB22, hT14, E⟩ (fun w' x => Still.fieldAddr fld26_0 rfl) ?_
  refine Gq.st 4 rfl (by kernel_rfl) rfl .plain rfl (fun _ _ _ h => h) ⟨hB4, hB22, hT14, E⟩ (fun w' x => Still.loadB one3 rfl x.1 rfl) ?_
  refine Gq.st 6 rfl (by kernel_rfl) rfl .plain rfl (fun _ _ _ h => h) ⟨hB4, hB22, hT14, E⟩ (fun w' x => Still.makeFunc rfl) ?_
  refine Gq.st 7 rfl (by kernel_rfl) rfl .plain rfl (fun _ _ _ h => h) ⟨hB4, hB22, hT14, E⟩ (fun w' x => Still.move rfl) ?_
  refine Gq.two 2 5 rfl rfl (by kernel_rfl) ?_ ?_
  · refine Sq.lit sl55 rfl rfl .plain rfl rfl (one_cons rfl one_nil) (fun b35 w36 e37 hlo38 ho39 _ => ?_)
    replace ho39 := ho39 w32.heap.size (Nat.le_refl _)
    have hs41 := Below.size e37
    replace E := E.trans e37
    replace hB4 := hB4.ext e37
    replace hT14 := hT14.ext e37
    replace hB22 := hB22.ext e37
    refine Sq.nil ?_
    refine Eq.goes (fun _ => ⟨hB4, hB22, hT14, E⟩) ?_
    refine Gq.one 5 rfl (by kernel_rfl) ?_
    have hd46 := hB4.lt
    have hd47 := hT14.lt
    have hd48 := hB22.lt
    refine Sq.call fn45 .plain rfl rfl (lettersOf_c a.al (by omega) _) ?_
    rintro v42 w43 ⟨hl45, e44⟩
    have hs49 := Below.size E
    have hs50 := Below.size e44
    replace E := E.trans e44
    replace hB4 := hB4.ext e44
    replace hT14 := hT14.ext e44
    replace hB22 := hB22.ext e44
    replace ho39 := ho39.ext e44
    refine Sq.nil ?_
    refine Eq.goes (fun _ => ⟨hB4, hB22, hT14, E⟩) ?_
    refine Gq.one 8 rfl (by kernel_rfl) ?_
    have hd53 := hB4.lt
    have hd54 := hT14.lt
    have hd55 := hB22.lt
    have hvs := validA_spec.1 hv
    have hlet := letters_len6 a.al
    refine Sq.call fn77 .plain rfl rfl (firstPath_c _ (List.length a.next : Int) a.next.length 0 (letters a.al) _ _ _ _ (goA a) G (fun q => 0 ≤ q ∧ q < (a.next.length : Int)) rfl (Own.row ho39) (Own.row hl45) (by omega) (fun x hx => ⟨(mem_letters hx).1, (mem_letters hx).2.1⟩) (zero_in hv) (fun q hq x hx => goA_in hv hq ⟨(mem_letters hx).1, (mem_letters hx).2.1⟩) (fun q hq => hq) (by omega) ⟨94, _, [Value.pointer (some ⟨b19, 0, none⟩)], rfl, fn94, fun w q x hx hq hxx => ff1_c w q x a _ _ _ (hB22.ext hx) (hT14.ext hx) hTab15 hq hxx⟩ (GClo.up hgo E)) ?_
    rintro _ w51 ⟨rfl, e52⟩
    have hs56 := Below.size E
    have hs57 := Below.size e52
    replace E := E.trans e52
    replace hB4 := hB4.ext e52
    replace hT14 := hT14.ext e52
    replace hB22 := hB22.ext e52
    refine Sq.nil ?_
    refine Eq.goes (fun _ => ⟨hB4, hB22, hT14, E⟩) ?_
    refine Gq.st 9 rfl (by kernel_rfl) rfl .plain rfl (fun _ _ _ h => h) ⟨hB4, hB22, hT14, E⟩ (fun w' x => Still.extract rfl rfl) ?_
    refine Gq.st 10 rfl (by kernel_rfl) rfl .plain rfl (fun _ _ _ h => h) ⟨hB4, hB22, hT14, E⟩ (fun w' x => Still.extract rfl rfl) ?_
    refine Gq.one 11 rfl (by kernel_rfl) ?_
    refine Sq.assign .plain rfl rfl ?_
    refine Sq.nil ?_
    refine Eq.goes (fun h => absurd h (by decide)) ?_
    refine Gq.one 12 rfl (by kernel_rfl) ?_
    refine Sq.assign .plain rfl rfl ?_
    refine Sq.nil ?_
    refine Eq.goes (fun h => absurd h (by decide)) ?_
    refine Gq.done (by kernel_rfl) ?_
    refine Eq.next ?_
    refine Cq.ret ?_
    refine Eq.ret2 rfl rfl rfl ?_
    exact ⟨rfl, E⟩
  have hd62 := hB4.lt
  have hd63 := hT14.lt
  have hd64 := hB22.lt
  refine Sq.call fn45 .plain rfl rfl (lettersOf_c a.al (by omega) _) ?_
  rintro v58 w59 ⟨hl61, e60⟩
  have hs65 := Below.size E
  have hs66 := Below.size e60
  replace E := E.trans e60
  replace hB4 := hB4.ext e60
  replace hT14 := hT14.ext e60
  replace hB22 := hB22.ext e60
  refine Sq.nil ?_
  refine Eq.goes (fun _ => ⟨hB4, hB22, hT14, E⟩) ?_
  refine Gq.one 2 rfl (by kernel_rfl) ?_
  refine Sq.lit sl55 rfl rfl .plain rfl rfl (one_cons rfl one_nil) (fun b67 w68 e69 hlo70 ho71 _ => ?_)
  replace ho71 := ho71 w59.heap.size (Nat.le_refl _)
  have hs73 := Below.size e69
  replace E := E.trans e69
  replace hB4 := hB4.ext e69
  replace hT14 := hT14.ext e69
  replace hB22 := hB22.ext e69
  replace hl61 := hl61.ext e69
  refine Sq.nil ?_
  refine Eq.goes (fun _ => ⟨hB4, hB22, hT14, E⟩) ?_
  refine Gq.one 8 rfl (by kernel_rfl) ?_
  have hd76 := hB4.lt
  have hd77 := hT14.lt
  have hd78 := hB22.lt
  have hvs := validA_spec.1 hv
  have hlet := letters_len6 a.al
  refine Sq.call fn77 .plain rfl rfl (firstPath_c _ (List.length a.next : Int) a.next.length 0 (letters a.al) _ _ _ _ (goA a) G (fun q => 0 ≤ q ∧ q < (a.next.length : Int)) rfl (Own.row ho71) (Own.row hl61) (by omega) (fun x hx => ⟨(mem_letters hx).1, (mem_letters hx).2.1⟩) (zero_in hv) (fun q hq x hx => goA_in hv hq ⟨(mem_letters hx).1, (mem_letters hx).2.1⟩) (fun q hq => hq) (by omega) ⟨94, _, [Value.pointer (some ⟨b19, 0, none⟩)], rfl, fn94, fun w q x hx hq hxx => ff1_c w q x a _ _ _ (hB22.ext hx) (hT14.ext hx) hTab15 hq hxx⟩ (GClo.up hgo E)) ?_
  rintro _ w74 ⟨rfl, e75⟩
  have hs79 := Below.size E
  have hs80 := Below.size e75
  replace E := E.trans e75
  replace hB4 := hB4.ext e75
  replace hT14 := hT14.ext e75
  replace hB22 := hB22.ext e75
  refine Sq.nil ?_
  refine Eq.goes (fun _ => ⟨hB4, hB22, hT14, E⟩) ?_
  refine Gq.st 9 rfl (by kernel_rfl) rfl .plain rfl (fun _ _ _ h => h) ⟨hB4, hB22, hT14, E⟩ (fun w' x => Still.extract rfl rfl) ?_
  refine Gq.st 10 rfl (by kernel_rfl) rfl .plain rfl (fun _ _ _ h => h) ⟨hB4, hB22, hT14, E⟩ (fun w' x => Still.extract rfl rfl) ?_
  refine Gq.one 11 rfl (by kernel_rfl) ?_
  refine Sq.assign .plain rfl rfl ?_
  refine Sq.nil ?_
  refine Eq.goes (fun h => absurd h (by decide)) ?_
  refine Gq.one 12 rfl (by kernel_rfl) ?_
  refine Sq.assign .plain rfl rfl ?_
  refine Sq.nil ?_
  refine Eq.goes (fun h => absurd h (by decide)) ?_
  refine Gq.done (by kernel_rfl) ?_
  refine Eq.next ?_
  refine Cq.ret ?_
  refine Eq.ret2 rfl rfl rfl ?_
  exact ⟨rfl, E⟩
set_option maxRecDepth 100000 in
theorem leads_c (w0 : World) (a : A) (nx ac : Value) (hnx : Rows w0 55 3 nx a.next) (hac : Bools w0 4 ac a.acc) (hv : validA a = true) (s : Int) (hs : 0 ≤ s ∧ s < a.next.length) : Ret Try.prog 68 #[Value.agg #[Value.int .i64 a.al, nx, ac], Value.int .i64 s] w0 (fun v w => v = .bool (firstA a s (accA a)).isSome ∧ Ext w0 w) := by
  have E := Ext.refl w0
  have hal := (validA_spec.1 hv).1
  refine Ret.of (args := [Value.agg #[Value.int .i64 a.al, nx, ac], Value.int .i64 s]) Try.func68 rfl rfl rfl ?_
  rintro _ rfl
  show Cq _ _ _ _ [(0, Value.agg #[Value.int .i64 a.al, nx, ac]), (1, Value.int .i64 s)] _
  refine Cq.seq ?_
  refine Cq.region ?_
  refine Sq.box .plain rfl rfl (fun b1 w2 e3 hB4 hlo5 => ?_)
  have hd6 := Nat.le_trans (Below.size E) hlo5
  have hs7 := Below.size e3
  replace E := E.trans e3
  refine Sq.assign .plain rfl rfl ?_
  refine Sq.nil ?_
  refine Eq.next ?_
  refine Cq.seq ?_
  refine Cq.region ?_
  refine Sq.loadAgg agg26 .plain rfl rfl hB4 rfl ?_
  have hd16 := hB4.lt
  refine Sq.call fn43 .plain rfl rfl (tableOf_c _ a _ _ (hnx.ext E) (hac.ext E) hv) ?_
  rintro _ w9 ⟨⟨b11, xs12, rfl, hlo13, hT14, hTab15⟩, e10⟩
  have hs17 := Below.size E
  have hs18 := Below.size e10
  replace E := E.trans e10
  replace hB4 := hB4.ext e10
  refine Sq.alloc1 zero52 rfl .plain rfl (fun b19 w20 e21 hB22 hlo23 => ?_)
  have hd24 := Nat.le_trans (Below.size E) hlo23
  have hd25 := Nat.lt_of_lt_of_le hB4.lt hlo23
  have hd26 := Nat.lt_of_lt_of_le hT14.lt hlo23
  have hs27 := Below.size e21
  replace E := E.trans e21
  replace hB4 := hB4.ext e21
  replace hT14 := hT14.ext e21
  refine Sq.store one52 .plain rfl rfl rfl hB22 (by simp) (fun w28 g29 hB30 => ?_)
  have hs31 := World.grownBy.size g29
  replace E := E.grown g29 (fun k hk => by injection hk with hk; subst hk; omega)
  replace hB4 := hB4.grown g29 (by intro h; injection h with h; omega)
  replace hT14 := hT14.grown g29 (by intro h; injection h with h; omega)
  replace hB22 := hB30
  refine Sq.nil ?_
  refine Eq.next ?_
  refine Cq.seq ?_
  refine Cq.drawS 14 (fun w' => Blk w' b1 26 [Value.int .i64 a.al, nx, ac] ∧ Blk w' b19 52 [Value.slice (some ⟨b11, 0, none⟩) a.next.length a.next.length] ∧ Blk w' b11 57 (xs12.map (Value.int .i64)) ∧ Ext w0 w') mixed (⟨hB4, hB22, hT14, E⟩) (fun w32 e33 hS => ?_)
  clear hS
  have hs34 := Below.size e33
  replace E := E.trans e33
  replace hB4 := hB4.ext e33
  replace hT14 := hT14.ext e33
  replace hB22 := hB22.ext e33
  refine Gq.st 0 rfl (by kernel_rfl) rfl .plain rfl (fun _ _ _ h => h) ⟨hB4, hB22, hT14, E⟩ (fun w' x => Still.loadB one52 rfl x.2.1 rfl) ?_
  refine Gq.st 1 rfl (by kernel_rfl) rfl .plain rfl (fun _ _ _ h => h) ⟨hB4, hB22, hT14, E⟩ (fun w' x => Still.len und52 rfl) ?_
  refine Gq.st 2 rfl (by kernel_rfl) rfl .plain rfl (fun _ _ _ h => h) ⟨hB4, hB22, hT14, E⟩ (fun w' x => Still.move rfl) ?_
  refine Gq.st 4 rfl (by kernel_rfl) rfl .plain rfl (fun _ _ _ h => h) ⟨hB4, hB22, hT14, E⟩ (fun w' x => Still.fieldAddr fld26_0 rfl) ?_
  refine Gq.st 5 rfl (by kernel_rfl) rfl .plain rfl (fun _ _ _ h => h) ⟨hB4, hB22, hT14, E⟩ (fun w' x => Still.loadB one3 rfl x.1 rfl) ?_
  refine Gq.st 7 rfl (by kernel_rfl) rfl .plain rfl (fun _ _ _ h => h) ⟨hB4, hB22, hT14, E⟩ (fun w' x => Still.makeFunc rfl) ?_
  refine Gq.st 8 rfl (by kernel_rfl) rfl .plain rfl (fun _ _ _ h => h) ⟨hB4, hB22, hT14, E⟩ (fun w' x => Still.makeFunc rfl) ?_
  refine Gq.two 3 6 rfl rfl (by kernel_rfl) ?_ ?_
  · refine Sq.lit sl55 rfl rfl .plain rfl rfl (one_cons rfl one_nil) (fun b35 w36 e37 hlo38 ho39 _ => ?_)
    replace ho39 := ho39 w32.heap.size (Nat.le_refl _)
    have hs41 := Below.size e37
    replace E := E.trans e37
    replace hB4 := hB4.ext e37
    replace hT14 := hT14.ext e37
    replace hB22 := hB22.ext e37
    refine Sq.nil ?_
    refine Eq.goes (fun _ => ⟨hB4, hB22, hT14, E⟩) ?_
    refine Gq.one 6 rfl (by kernel_rfl) ?_
    have hd46 := hB4.lt
    have hd47 := hT14.lt
    have hd48 := hB22.lt
    refine Sq.call fn45 .plain rfl rfl (lettersOf_c a.al (by omega) _) ?_
    rintro v42 w43 ⟨hl45, e44⟩
    have hs49 := Below.size E
    have hs50 := Below.size e44
    replace E := E.trans e44
    replace hB4 := hB4.ext e44
    replace hT14 := hT14.ext e44
    replace hB22 := hB22.ext e44
    replace ho39 := ho39.ext e44
    refine Sq.nil ?_
    refine Eq.goes (fun _ => ⟨hB4, hB22, hT14, E⟩) ?_
    refine Gq.one 9 rfl (by kernel_rfl) ?_
    have hd53 := hB4.lt
    have hd54 := hT14.lt
    have hd55 := hB22.lt
    have hvs := validA_spec.1 hv
    have hlet := letters_len6 a.al
    refine Sq.call fn77 .plain rfl rfl (firstPath_c _ (List.length a.next : Int) a.next.length s (letters a.al) _ _ _ _ (goA a) (accA a) (fun q => 0 ≤ q ∧ q < (a.next.length : Int)) rfl (Own.row ho39) (Own.row hl45) (by omega) (fun x hx => ⟨(mem_letters hx).1, (mem_letters hx).2.1⟩) hs (fun q hq x hx => goA_in hv hq ⟨(mem_letters hx).1, (mem_letters hx).2.1⟩) (fun q hq => hq) (by omega) ⟨100, _, [Value.pointer (some ⟨b19, 0, none⟩)], rfl, fn100, fun w q x hx hq hxx => la1_c w q x a _ _ _ (hB22.ext hx) (hT14.ext hx) hTab15 hq hxx⟩ ⟨101, _, [Value.pointer (some ⟨b1, 0, none⟩)], rfl, fn101, fun w q hx hq => (la2_c w q a _ _ _ (hB4.ext hx) ((hac.ext E).ext hx) (by have := (validA_spec.1 hv).2; omega)).mono fun v w' h => ⟨h.1, h.2 ▸ Ext.refl w⟩⟩) ?_
    rintro _ w51 ⟨rfl, e52⟩
    have hs56 := Below.size E
    have hs57 := Below.size e52
    replace E := E.trans e52
    replace hB4 := hB4.ext e52
    replace hT14 := hT14.ext e52
    replace hB22 := hB22.ext e52
    refine Sq.nil ?_
    refine Eq.goes (fun _ => ⟨hB4, hB22, hT14, E⟩) ?_
    refine Gq.st 10 rfl (by kernel_rfl) rfl .plain rfl (fun _ _ _ h => h) ⟨hB4, hB22, hT14, E⟩ (fun w' x => Still.move rfl) ?_
    refine Gq.st 11 rfl (by kernel_rfl) rfl .plain rfl (fun _ _ _ h => h) ⟨hB4, hB22, hT14, E⟩ (fun w' x => Still.extract rfl rfl) ?_
    refine Gq.st 12 rfl (by kernel_rfl) rfl .plain rfl (fun _ _ _ h => h) ⟨hB4, hB22, hT14, E⟩ (fun w' x => Still.extract rfl rfl) ?_
    refine Gq.st 13 rfl (by kernel_rfl) rfl .plain rfl (fun _ _ _ h => h) ⟨hB4, hB22, hT14, E⟩ (fun w' x => Still.assign rfl) ?_
    refine Gq.one 14 rfl (by kernel_rfl) ?_
    refine Sq.assign .plain rfl rfl ?_
    refine Sq.nil ?_
    refine Eq.goes (fun h => absurd h (by decide)) ?_
    refine Gq.done (by kernel_rfl) ?_
    refine Eq.next ?_
    refine Cq.seq ?_
    refine Cq.region ?_
    refine Sq.move .plain rfl rfl ?_
    refine Sq.assign .plain rfl rfl ?_
    refine Sq.nil ?_
    refine Eq.next ?_
    refine Cq.ret ?_
    refine Eq.ret1 rfl rfl ?_
    exact ⟨rfl, E⟩
  have hd62 := hB4.lt
  have hd63 := hT14.lt
  have hd64 := hB22.lt
  refine Sq.call fn45 .plain rfl rfl (lettersOf_c a.al (by omega) _) ?_
  rintro v58 w59 ⟨hl61, e60⟩
  have hs65 := Below.size E
  have hs66 := Below.size e60
  replace E := E.trans e60
  replace hB4 := hB4.ext e60
  replace hT14 := hT14.ext e60
  replace hB22 := hB22.ext e60
  refine Sq.nil ?_
  refine Eq.goes (fun _ => ⟨hB4, hB22, hT14, E⟩) ?_
  refine Gq.one 3 rfl (by kernel_rfl) ?_
  refine Sq.lit sl55 rfl rfl .plain rfl rfl (one_cons rfl one_nil) (fun b67 w68 e69 hlo70 ho71 _ => ?_)
  replace ho71 := ho71 w59.heap.size (Nat.le_refl _)
  have hs73 := Below.size e69
  replace E := E.trans e69
  replace hB4 := hB4.ext e69
  replace hT14 := hT14.ext e69
  replace hB22 := hB22.ext e69
  replace hl61 := hl61.ext e69
  refine Sq.nil ?_
  refine Eq.goes (fun _ => ⟨hB4, hB22, hT14, E⟩) ?_
  refine Gq.one 9 rfl (by kernel_rfl) ?_
  have hd76 := hB4.lt
  have hd77 := hT14.lt
  have hd78 := hB22.lt
  have hvs := validA_spec.1 hv
  have hlet := letters_len6 a.al
  refine Sq.call fn77 .plain rfl rfl (firstPath_c _ (List.length a.next : Int) a.next.length s (letters a.al) _ _ _ _ (goA a) (accA a) (fun q => 0 ≤ q ∧ q < (a.next.length : Int)) rfl (Own.row ho71) (Own.row hl61) (by omega) (fun x hx => ⟨(mem_letters hx).1, (mem_letters hx).2.1⟩) hs (fun q hq x hx => goA_in hv hq ⟨(mem_letters hx).1, (mem_letters hx).2.1⟩) (fun q hq => hq) (by omega) ⟨100, _, [Value.pointer (some ⟨b19, 0, none⟩)], rfl, fn100, fun w q x hx hq hxx => la1_c w q x a _ _ _ (hB22.ext hx) (hT14.ext hx) hTab15 hq hxx⟩ ⟨101, _, [Value.pointer (some ⟨b1, 0, none⟩)], rfl, fn101, fun w q hx hq => (la2_c w q a _ _ _ (hB4.ext hx) ((hac.ext E).ext hx) (by have := (validA_spec.1 hv).2; omega)).mono fun v w' h => ⟨h.1, h.2 ▸ Ext.refl w⟩⟩) ?_
  rintro _ w74 ⟨rfl, e75⟩
  have hs79 := Below.size E
  have hs80 := Below.size e75
  replace E := E.trans e75
  replace hB4 := hB4.ext e75
  replace hT14 := hT14.ext e75
  replace hB22 := hB22.ext e75
  refine Sq.nil ?_
  refine Eq.goes (fun _ => ⟨hB4, hB22, hT14, E⟩) ?_
  refine Gq.st 10 rfl (by kernel_rfl) rfl .plain rfl (fun _ _ _ h => h) ⟨hB4, hB22, hT14, E⟩ (fun w' x => Still.move rfl) ?_
  refine Gq.st 11 rfl (by kernel_rfl) rfl .plain rfl (fun _ _ _ h => h) ⟨hB4, hB22, hT14, E⟩ (fun w' x => Still.extract rfl rfl) ?_
  refine Gq.st 12 rfl (by kernel_rfl) rfl .plain rfl (fun _ _ _ h => h) ⟨hB4, hB22, hT14, E⟩ (fun w' x => Still.extract rfl rfl) ?_
  refine Gq.st 13 rfl (by kernel_rfl) rfl .plain rfl (fun _ _ _ h => h) ⟨hB4, hB22, hT14, E⟩ (fun w' x => Still.assign rfl) ?_
  refine Gq.one 14 rfl (by kernel_rfl) ?_
  refine Sq.assign .plain rfl rfl ?_
  refine Sq.nil ?_
  refine Eq.goes (fun h => absurd h (by decide)) ?_
  refine Gq.done (by kernel_rfl) ?_
  refine Eq.next ?_
  refine Cq.seq ?_
  refine Cq.region ?_
  refine Sq.move .plain rfl rfl ?_
  refine Sq.assign .plain rfl rfl ?_
  refine Sq.nil ?_
  refine Eq.next ?_
  refine Cq.ret ?_
  refine Eq.ret1 rfl rfl ?_
  exact ⟨rfl, E⟩
end Go.Proofs.Ytoboklelbbgcnaa
set_option linter.unusedSimpArgs false
set_option linter.unusedVariables false
namespace Go.Proofs.Ytoboklelbbgcnaa
open Go.RowKit
set_option maxRecDepth 100000 in
theorem l4Sizes_c (w0 : World) (aa : List A) (av sv : Value) (ss : List Int) (lt kd gl : Int) (hN : NetA w0 26 55 3 4 av aa) (hS : Ints w0 3 sv ss) (hlen : aa.length ≤ 2) : Ret Try.prog 82 #[Value.agg #[Value.slice none 0 0, av, sv, Value.int .i64 lt, Value.int .i64 kd, Value.int .i64 gl]] w0 (fun v w => Own w w0.heap.size 3 v ((szs aa).map (Value.int .i64)) ∧ Ext w0 w) := by
  have E := Ext.refl w0
  obtain ⟨BN, rows, hW, hrl, hat⟩ := id hN
  refine Ret.of (args := [Value.agg #[Value.slice none 0 0, av, sv, Value.int .i64 lt, Value.int .i64 kd, Value.int .i64 gl]]) Try.func82 rfl rfl rfl ?_
  rintro _ rfl
  show Cq _ _ _ _ [(0, Value.agg #[Value.slice none 0 0, av, sv, Value.int .i64 lt, Value.int .i64 kd, Value.int .i64 gl])] _
  refine Cq.seq ?_
  refine Cq.region ?_
  refine Sq.box .plain rfl rfl (fun b1 w2 e3 hB4 hlo5 => ?_)
  have hd6 := Nat.le_trans (Below.size E) hlo5
  have hs7 := Below.size e3
  replace E := E.trans e3
  replace hW := hW.ext e3
  refine Sq.assign .plain rfl rfl ?_
  refine Sq.nil ?_
  refine Eq.next ?_
  refine Cq.seq ?_
  refine Cq.region ?_
  refine Sq.lit sl55 rfl rfl .plain rfl rfl one_nil (fun b8 w9 e10 hlo11 ho12 _ => ?_)
  replace ho12 := ho12 w2.heap.size (Nat.le_refl _)
  have hs14 := Below.size e10
  replace E := E.trans e10
  replace hW := hW.ext e10
  replace hB4 := hB4.ext e10
  refine Sq.assign .plain rfl rfl ?_
  refine Sq.nil ?_
  refine Eq.next ?_
  refine Cq.seq ?_
  refine Cq.seq ?_
  refine Cq.region ?_
  refine Sq.assign .plain rfl rfl ?_
  refine Sq.nil ?_
  refine Eq.next ?_
  refine Cq.block ?_
  refine Cq.loop (fun nn w ls => ∃ (k : Int), ∃ (ov : Value), ls = [(1, Value.pointer (some ⟨b1, 0, none⟩)), (3, ov), (4, Value.int .i64 k)] ∧ k = 0 ∧ Own w w0.heap.size 3 ov ([] : List Value) ∧ Ext w0 w ∧ Blk w b1 70 [Value.slice none 0 0, av, sv, Value.int .i64 lt, Value.int .i64 kd, Value.int .i64 gl] ∧ Wid w BN 26 3 av rows ∧ nn = k.toNat) _ _ ⟨0, _, rfl, rfl, Own.mono ho12 (by omega), E, hB4, hW, rfl⟩ (.cons rfl (.cons rfl (.cons rfl (.nil)))) ?_
  rintro nn wl1 ls ⟨k, ov, rfl, hk, ho, E, hB4, hW, rfl⟩
  have hs15 := Below.size E
  refine Cq.seq ?_
  refine Cq.seq ?_
  refine Cq.region ?_
  refine Sq.move .plain rfl rfl ?_
  refine Sq.fieldAddr fld70_0 .plain rfl rfl ?_
  refine Sq.loadB one68 .plain rfl rfl hB4 rfl ?_
  refine Sq.len .plain rfl und68 rfl ?_
  refine Sq.lss .plain rfl rfl rfl ?_
  refine Sq.part (fun c16 => ?_) (fun c16 => ?_)
  · refine Sq.nil ?_
    refine Eq.next ?_
    refine Cq.thn rfl ?_
    refine Cq.skip ?_
    refine Eq.next ?_
    refine Cq.seq ?_
    refine Cq.block ?_
    refine Cq.region ?_
    exfalso
    omega
  refine Sq.nil ?_
  refine Eq.next ?_
  refine Cq.els rfl ?_
  refine Cq.exit ?_
  refine Eq.past ?_
  refine Eq.past ?_
  refine Eq.hit ?_
  refine Eq.next ?_
  refine Cq.seq ?_
  refine Cq.seq ?_
  refine Cq.region ?_
  refine Sq.assign .plain rfl rfl ?_
  refine Sq.nil ?_
  refine Eq.next ?_
  refine Cq.block ?_
  refine Cq.loop (fun nn w ls => ∃ (k : Int), ∃ (ov : Value), ls = [(1, Value.pointer (some ⟨b1, 0, none⟩)), (3, ov), (5, Value.int .i64 k)] ∧ (0 ≤ k ∧ k ≤ aa.length) ∧ Own w w0.heap.size 3 ov (((szs aa).take k.toNat).map (Value.int .i64)) ∧ Ext w0 w ∧ Blk w b1 70 [Value.slice none 0 0, av, sv, Value.int .i64 lt, Value.int .i64 kd, Value.int .i64 gl] ∧ Wid w BN 26 3 av rows ∧ nn = ((aa.length : Int) - k).toNat) _ _ ⟨0, _, rfl, by omega, Own.mono ho (by omega), E, hB4, hW, rfl⟩ (.cons rfl (.cons rfl (.cons rfl (.nil)))) ?_
  rintro nn wl2 ls ⟨k, ov, rfl, hk, ho, E, hB4, hW, rfl⟩
  have hs17 := Below.size E
  refine Cq.seq ?_
  refine Cq.seq ?_
  refine Cq.region ?_
  refine Sq.move .plain rfl rfl ?_
  refine Sq.fieldAddr fld70_1 .plain rfl rfl ?_
  refine Sq.loadB one67 .plain rfl rfl hB4 rfl ?_
  refine Sq.lenWid hW .plain rfl und67 rfl ?_
  rw [hrl]
  refine Sq.lss .plain rfl rfl rfl ?_
  refine Sq.part (fun c18 => ?_) (fun c18 => ?_)
  · refine Sq.nil ?_
    refine Eq.next ?_
    refine Cq.thn rfl ?_
    refine Cq.skip ?_
    refine Eq.next ?_
    refine Cq.seq ?_
    refine Cq.block ?_
    refine Cq.region ?_
    refine Sq.move .plain rfl rfl ?_
    refine Sq.fieldAddr fld70_1 .plain rfl rfl ?_
    refine Sq.loadB one67 .plain rfl rfl hB4 rfl ?_
    refine Sq.move .plain rfl rfl ?_
    obtain ⟨nxq19, acq19, hrq19, hnxq19, hacq19⟩ := hat k.toNat (aa.getD k.toNat zeroA) (at_getD (by omega))
    obtain ⟨gq19, cq19, hvq19, hlq19⟩ := Wid.rowAt hW (i := k) (by omega) hrq19
    refine Sq.val .plain rfl rfl (Still.ixV slw67 hvq19 rfl rfl (by omega)) ?_
    refine Sq.fieldAddr fld26_1 .plain rfl rfl ?_
    refine Sq.val .plain rfl rfl (Still.load one23 rfl (Wid.cellR hvq19 hW (by omega) hrq19 (j := 1) (by decide))) ?_
    refine Sq.lenRows (hnxq19.ext E) .plain rfl und23 rfl ?_
    refine Sq.app1 sl55 ho (by omega) (by rw [List.length_map, List.length_take]; omega) .plain rfl rfl rfl rfl rfl rfl rfl (fun v20 w21 ho23 g22 _ => ?_)
    have hs24 := g22.size
    replace E := E.owned ho g22 (by omega)
    replace hB4 := hB4.owned ho g22 (by decide)
    replace hW := hW.owned ho g22 (by decide)
    refine Sq.assign .plain rfl rfl ?_
    refine Sq.nil ?_
    refine Eq.end ?_
    refine Eq.next ?_
    refine Cq.region ?_
    refine Sq.move .plain rfl rfl ?_
    refine Sq.add .plain rfl rfl rfl (by omega) ?_
    refine Sq.assign .plain rfl rfl ?_
    refine Sq.nil ?_
    have e1 := toNat_succ hk.1
    refine Eq.round _ _ ⟨k + 1, _, rfl, by omega, by rw [e1, take_snoc 0 (by rw [szs_length]; omega), List.map_append, szs_at (by omega)]; exact ho23, E, hB4, hW, rfl⟩ (by omega) (.cons rfl (.cons rfl (.cons rfl (.nil))))
  refine Sq.nil ?_
  refine Eq.next ?_
  refine Cq.els rfl ?_
  refine Cq.exit ?_
  refine Eq.past ?_
  refine Eq.past ?_
  refine Eq.hit ?_
  refine Eq.next ?_
  refine Cq.seq ?_
  refine Cq.region ?_
  refine Sq.move .plain rfl rfl ?_
  refine Sq.assign .plain rfl rfl ?_
  refine Sq.nil ?_
  refine Eq.next ?_
  refine Cq.ret ?_
  refine Eq.ret1 rfl rfl ?_
  rw [List.take_of_length_le (by rw [szs_length]; omega)] at ho
  exact ⟨ho, E⟩
set_option maxRecDepth 100000 in
theorem l4Decode_c (w0 : World) (ss : List Int) (r : Value) (hr : Ints w0 3 r ss) (q : Int) (hs : SzOk ss) (hq : 0 ≤ q ∧ q ≤ 1000) : Ret Try.prog 85 #[r, Value.int .i64 q] w0 (fun v w => Own w w0.heap.size 3 v ((decL ss q).map (Value.int .i64)) ∧ Ext w0 w) := by
  have E := Ext.refl w0
  have hsl := hs.1
  refine Ret.of (args := [r, Value.int .i64 q]) Try.func85 rfl rfl rfl ?_
  rintro _ rfl
  show Cq _ _ _ _ [(0, r), (1, Value.int .i64 q)] _
  refine Cq.seq ?_
  refine Cq.region ?_
  refine Sq.assign .plain rfl rfl ?_
  refine Sq.nil ?_
  refine Eq.next ?_
  refine Cq.seq ?_
  refine Cq.region ?_
  refine Sq.move .plain rfl rfl ?_
  refine Sq.lenInts (hr.ext E) .plain rfl und55 rfl ?_
  refine Sq.make sl55 .plain rfl rfl rfl rfl (by omega) (fun b1 w2 e3 hlo4 hB5 => ?_)
  replace hB5 := hB5 w0.heap.size (Nat.le_refl _)
  have hs6 := Below.size e3
  replace E := E.trans e3
  refine Sq.assign .plain rfl rfl ?_
  refine Sq.nil ?_
  refine Eq.next ?_
  refine Cq.seq ?_
  refine Cq.seq ?_
  refine Cq.region ?_
  refine Sq.move .plain rfl rfl ?_
  refine Sq.lenInts (hr.ext E) .plain rfl und55 rfl ?_
  refine Sq.sub .plain rfl rfl rfl (by omega) ?_
  refine Sq.assign .plain rfl rfl ?_
  refine Sq.nil ?_
  refine Eq.next ?_
  refine Cq.block ?_
  refine Cq.loop (fun nn w ls => ∃ (i : Int), ∃ (qv : Int), ls = [(0, r), (1, Value.int .i64 qv), (5, Value.slice (some ⟨b1, 0, none⟩) (List.length ss : Int).toNat (List.length ss : Int).toNat), (6, Value.int .i64 i)] ∧ (-1 ≤ i ∧ i < ss.length) ∧ qv = q / prodFrom ss (i + 1).toNat ∧ Own w w0.heap.size 3 (Value.slice (some ⟨b1, 0, none⟩) (List.length ss : Int).toNat (List.length ss : Int).toNat) ((decTo ss q (i + 1).toNat).map (Value.int .i64)) ∧ Ext w0 w ∧ nn = (i + 1).toNat) _ _ ⟨(List.length ss : Int) - 1, q, rfl, by omega, by rw [prodFrom_end (by omega), Int.ediv_one], by rw [decTo_all q (by omega), List.map_replicate]; exact hB5, E, rfl⟩ (.cons rfl (.cons rfl (.cons rfl (.cons rfl (.nil))))) ?_
  rintro nn wl1 ls ⟨i, qv, rfl, hi, hqv, ho, E, rfl⟩
  have hs7 := Below.size E
  have hnb := node_bd hs hq (i + 1).toNat
  rw [← hqv] at hnb
  have hdl := decTo_length ss q (i + 1).toNat
  have hsi : 0 ≤ i → 1 ≤ ss.getD i.toNat 0 ∧ ss.getD i.toNat 0 ≤ 12 := fun h => hs.2 _ (by omega)
  refine Cq.seq ?_
  refine Cq.seq ?_
  refine Cq.region ?_
  refine Sq.move .plain rfl rfl ?_
  refine Sq.geq .plain rfl rfl rfl ?_
  refine Sq.part (fun c8 => ?_) (fun c8 => ?_)
  · refine Sq.nil ?_
    refine Eq.next ?_
    refine Cq.thn rfl ?_
    refine Cq.skip ?_
    refine Eq.next ?_
    refine Cq.seq ?_
    refine Cq.block ?_
    refine Cq.seq ?_
    refine Cq.region ?_
    refine Sq.move .plain rfl rfl ?_
    refine Sq.move .plain rfl rfl ?_
    refine Sq.move .plain rfl rfl ?_
    refine Sq.move .plain rfl rfl ?_
    refine Sq.move .plain rfl rfl ?_
    refine Sq.idxInts sl55 one3 (hr.ext E) .plain rfl rfl rfl .plain rfl rfl (by omega) (by omega) ?_
    refine Sq.rem .plain rfl rfl rfl (by have := hsi (by omega); omega) ?_
    obtain ⟨p9, hp10o⟩ := Own.at ho (i := i) (by omega) (by first | (simp only [List.length_map]; omega) | (simp; omega))
    refine Sq.atO sl55 hp10o .plain rfl rfl rfl ?_
    refine Sq.storeO one3 ho hp10o .plain rfl rfl rfl (fun w11 g12 ho13 => ?_)
    have hs14 := World.grownBy.size g12
    replace E := E.owned ho g12 (by omega)
    replace ho := ho13
    refine Sq.nil ?_
    refine Eq.next ?_
    refine Cq.region ?_
    refine Sq.move .plain rfl rfl ?_
    refine Sq.move .plain rfl rfl ?_
    refine Sq.move .plain rfl rfl ?_
    refine Sq.idxInts sl55 one3 (hr.ext E) .plain rfl rfl rfl .plain rfl rfl (by omega) (by omega) ?_
    refine Sq.quo .plain rfl rfl rfl (by have := hsi (by omega); omega) ?_
    refine Sq.assign .plain rfl rfl ?_
    refine Sq.nil ?_
    refine Eq.end ?_
    refine Eq.next ?_
    refine Cq.region ?_
    refine Sq.move .plain rfl rfl ?_
    refine Sq.sub .plain rfl rfl rfl (by omega) ?_
    refine Sq.assign .plain rfl rfl ?_
    refine Sq.nil ?_
    have e1 : (i + 1).toNat = i.toNat + 1 := toNat_succ (by omega)
    have e2 : (i - 1 + 1).toNat = i.toNat := by omega
    refine Eq.round _ _ ⟨i - 1, _, rfl, by omega, by rw [e2, hqv, e1, prod_node (by omega) hs], by rw [e2, ← decTo_step (q := q) (m := i.toNat) (by omega), List.map_set, ← e1, ← hqv]; exact ho, E, rfl⟩ (by omega) (.cons rfl (.cons rfl (.cons rfl (.cons rfl (.nil)))))
  refine Sq.nil ?_
  refine Eq.next ?_
  refine Cq.els rfl ?_
  refine Cq.exit ?_
  refine Eq.past ?_
  refine Eq.past ?_
  refine Eq.hit ?_
  refine Eq.next ?_
  refine Cq.seq ?_
  refine Cq.region ?_
  refine Sq.move .plain rfl rfl ?_
  refine Sq.assign .plain rfl rfl ?_
  refine Sq.nil ?_
  refine Eq.next ?_
  refine Cq.ret ?_
  refine Eq.ret1 rfl rfl ?_
  have e3 : (i + 1).toNat = 0 := by omega
  rw [e3, decTo_zero] at ho
  exact ⟨ho, E⟩
set_option maxRecDepth 100000 in
theorem l4Encode_c (w0 : World) (ss st : List Int) (r u : Value) (hr : Ints w0 3 r ss) (hu : Ints w0 3 u st) (hs : SzOk ss) (hst : StOk ss st) (hl : st.length = ss.length) : Ret Try.prog 87 #[r, u] w0 (fun v w => v = .int .i64 (encTo ss st ss.length) ∧ Ext w0 w) := by
  have E := Ext.refl w0
  have hsl := hs.1
  refine Ret.of (args := [r, u]) Try.func87 rfl rfl rfl ?_
  rintro _ rfl
  show Cq _ _ _ _ [(0, r), (1, u)] _
  refine Cq.seq ?_
  refine Cq.region ?_
  refine Sq.assign .plain rfl rfl ?_
  refine Sq.nil ?_
  refine Eq.next ?_
  refine Cq.seq ?_
  refine Cq.region ?_
  refine Sq.assign .plain rfl rfl ?_
  refine Sq.nil ?_
  refine Eq.next ?_
  refine Cq.seq ?_
  refine Cq.seq ?_
  refine Cq.region ?_
  refine Sq.assign .plain rfl rfl ?_
  refine Sq.nil ?_
  refine Eq.next ?_
  refine Cq.block ?_
  refine Cq.loop (fun nn w ls => ∃ (k : Int), ls = [(0, r), (1, u), (5, Value.int .i64 (encTo ss st k.toNat)), (6, Value.int .i64 k)] ∧ (0 ≤ k ∧ k ≤ ss.length) ∧ Ext w0 w ∧ Ints w 3 r ss ∧ Ints w 3 u st ∧ nn = ((ss.length : Int) - k).toNat) _ _ ⟨0, rfl, by omega, E, hr, hu, rfl⟩ (.cons rfl (.cons rfl (.cons rfl (.cons rfl (.nil))))) ?_
  rintro nn wl1 ls ⟨k, rfl, hk, E, hr, hu, rfl⟩
  have hs1 := Below.size E
  refine Cq.seq ?_
  refine Cq.seq ?_
  refine Cq.region ?_
  refine Sq.move .plain rfl rfl ?_
  refine Sq.move .plain rfl rfl ?_
  refine Sq.lenInts hr .plain rfl und55 rfl ?_
  refine Sq.lss .plain rfl rfl rfl ?_
  refine Sq.part (fun c2 => ?_) (fun c2 => ?_)
  · refine Sq.nil ?_
    refine Eq.next ?_
    refine Cq.thn rfl ?_
    refine Cq.skip ?_
    refine Eq.next ?_
    refine Cq.seq ?_
    refine Cq.block ?_
    obtain ⟨phpA, hpA⟩ := Ints.at hr (i := k) (by omega) (by omega)
    obtain ⟨phpB, hpB⟩ := Ints.at hu (i := k) (by omega) (by omega)
    have heb := enc_bd hs hst (k := k.toNat) (by omega)
    have hsb := hst k.toNat (by omega)
    have hsb2 := hs.2 k.toNat (by omega)
    refine Cq.drawS 11 (fun w' => At w' 3 r k phpA (.int .i64 (ss.getD k.toNat 0)) ∧ At w' 3 u k phpB (.int .i64 (st.getD k.toNat 0))) mixed (⟨hpA, hpB⟩) (fun w3 e4 hS => ?_)
    clear hS
    have hs5 := Below.size e4
    replace E := E.trans e4
    replace hr := hr.ext e4
    replace hu := hu.ext e4
    replace hpA := hpA.ext e4
    replace hpB := hpB.ext e4
    refine Gq.st 0 rfl (by kernel_rfl) rfl .plain rfl (fun _ _ _ h => h) ⟨hpA, hpB⟩ (fun w' x => Still.move rfl) ?_
    refine Gq.st 1 rfl (by kernel_rfl) rfl .plain rfl (fun _ _ _ h => h) ⟨hpA, hpB⟩ (fun w' x => Still.move rfl) ?_
    refine Gq.st 2 rfl (by kernel_rfl) rfl .plain rfl (fun _ _ _ h => h) ⟨hpA, hpB⟩ (fun w' x => Still.move rfl) ?_
    refine Gq.st 3 rfl (by kernel_rfl) rfl .plain rfl (fun _ _ _ h => h) ⟨hpA, hpB⟩ (fun w' x => Still.at' sl55 hpA rfl rfl) ?_
    refine Gq.st 4 rfl (by kernel_rfl) rfl .plain rfl (fun _ _ _ h => h) ⟨hpA, hpB⟩ (fun w' x => Still.loadA one3 rfl (x.1).1) ?_
    refine Gq.st 5 rfl (by kernel_rfl) rfl .plain rfl (fun _ _ _ h => h) ⟨hpA, hpB⟩ (fun w' x => Still.mul rfl rfl (by omega)) ?_
    refine Gq.st 6 rfl (by kernel_rfl) rfl .plain rfl (fun _ _ _ h => h) ⟨hpA, hpB⟩ (fun w' x => Still.move rfl) ?_
    refine Gq.st 7 rfl (by kernel_rfl) rfl .plain rfl (fun _ _ _ h => h) ⟨hpA, hpB⟩ (fun w' x => Still.move rfl) ?_
    refine Gq.st 8 rfl (by kernel_rfl) rfl .plain rfl (fun _ _ _ h => h) ⟨hpA, hpB⟩ (fun w' x => Still.at' sl55 hpB rfl rfl) ?_
    refine Gq.st 9 rfl (by kernel_rfl) rfl .plain rfl (fun _ _ _ h => h) ⟨hpA, hpB⟩ (fun w' x => Still.loadA one3 rfl (x.2).1) ?_
    refine Gq.st 10 rfl (by kernel_rfl) rfl .plain rfl (fun _ _ _ h => h) ⟨hpA, hpB⟩ (fun w' x => Still.add rfl rfl (by omega)) ?_
    refine Gq.one 11 rfl (by kernel_rfl) ?_
    refine Sq.assign .plain rfl rfl ?_
    refine Sq.nil ?_
    refine Eq.goes (fun h => absurd h (by decide)) ?_
    refine Gq.done (by kernel_rfl) ?_
    refine Eq.end ?_
    refine Eq.next ?_
    refine Cq.region ?_
    refine Sq.move .plain rfl rfl ?_
    refine Sq.add .plain rfl rfl rfl (by omega) ?_
    refine Sq.assign .plain rfl rfl ?_
    refine Sq.nil ?_
    have e1 := toNat_succ hk.1
    rw [show encTo ss st k.toNat * ss.getD k.toNat 0 + st.getD k.toNat 0 = encTo ss st (k + 1).toNat by rw [e1]; rfl]
    refine Eq.round _ _ ⟨k + 1, rfl, by omega, E, hr, hu, rfl⟩ (by omega) (.cons rfl (.cons rfl (.cons rfl (.cons rfl (.nil)))))
  refine Sq.nil ?_
  refine Eq.next ?_
  refine Cq.els rfl ?_
  refine Cq.exit ?_
  refine Eq.past ?_
  refine Eq.past ?_
  refine Eq.hit ?_
  refine Eq.next ?_
  refine Cq.seq ?_
  refine Cq.region ?_
  refine Sq.move .plain rfl rfl ?_
  refine Sq.assign .plain rfl rfl ?_
  refine Sq.nil ?_
  refine Eq.next ?_
  refine Cq.ret ?_
  refine Eq.ret1 rfl rfl ?_
  have e2 : k.toNat = ss.length := by omega
  exact ⟨by rw [e2], E⟩
set_option maxRecDepth 100000 in
theorem l4Choices_c (w0 : World) (aa : List A) (av sv : Value) (ss : List Int) (lt kd gl : Int) (hN : NetA w0 26 55 3 4 av aa) (hS : Ints w0 3 sv ss) (hok : NetOk aa) (i q x : Int) (hi : 0 ≤ i ∧ i < aa.length) (hq : 0 ≤ q ∧ q < ((aa.getD i.toNat zeroA).next.length : Int)) (hx : 0 ≤ x ∧ x < 6) : Ret Try.prog 121 #[Value.agg #[Value.slice none 0 0, av, sv, Value.int .i64 lt, Value.int .i64 kd, Value.int .i64 gl], Value.int .i64 i, Value.int .i64 q, Value.int .i64 x] w0 (fun v w => Own w w0.heap.size 3 v [Value.int .i64 (goA (aa.getD i.toNat zeroA) q x)] ∧ Ext w0 w) := by
  have E := Ext.refl w0
  obtain ⟨BN, rows, hW, hrl, hat⟩ := id hN
  have hlen := hok.1
  have hv := (net_at hok (k := i.toNat) (by omega)).2.1
  refine Ret.of (args := [Value.agg #[Value.slice none 0 0, av, sv, Value.int .i64 lt, Value.int .i64 kd, Value.int .i64 gl], Value.int .i64 i, Value.int .i64 q, Value.int .i64 x]) Try.func121 rfl rfl rfl ?_
  rintro _ rfl
  show Cq _ _ _ _ [(0, Value.agg #[Value.slice none 0 0, av, sv, Value.int .i64 lt, Value.int .i64 kd, Value.int .i64 gl]), (1, Value.int .i64 i), (2, Value.int .i64 q), (3, Value.int .i64 x)] _
  refine Cq.seq ?_
  refine Cq.region ?_
  refine Sq.box .plain rfl rfl (fun b1 w2 e3 hB4 hlo5 => ?_)
  have hd6 := Nat.le_trans (Below.size E) hlo5
  have hs7 := Below.size e3
  replace E := E.trans e3
  replace hW := hW.ext e3
  refine Sq.assign .plain rfl rfl ?_
  refine Sq.nil ?_
  refine Eq.next ?_
  refine Cq.seq ?_
  refine Cq.seq ?_
  refine Cq.region ?_
  refine Sq.move .plain rfl rfl ?_
  refine Sq.fieldAddr fld70_0 .plain rfl rfl ?_
  refine Sq.loadB one68 .plain rfl rfl hB4 rfl ?_
  refine Sq.len .plain rfl und68 rfl ?_
  refine Sq.geq .plain rfl rfl rfl ?_
  refine Sq.isT (by omega) ?_
  refine Sq.nil ?_
  refine Eq.next ?_
  refine Cq.thn rfl ?_
  refine Cq.seq ?_
  refine Cq.region ?_
  refine Sq.fieldAddr fld70_1 .plain rfl rfl ?_
  refine Sq.loadB one67 .plain rfl rfl hB4 rfl ?_
  refine Sq.move .plain rfl rfl ?_
  refine Sq.fieldAddr fld70_0 .plain rfl rfl ?_
  refine Sq.loadB one68 .plain rfl rfl hB4 rfl ?_
  refine Sq.len .plain rfl und68 rfl ?_
  refine Sq.sub .plain rfl rfl rfl (by omega) ?_
  rw [show i - ((0 : Nat) : Int) = i by omega]
  obtain ⟨nxq8, acq8, hrq8, hnxq8, hacq8⟩ := hat i.toNat (aa.getD i.toNat zeroA) (at_getD (by omega))
  obtain ⟨gq8, cq8, hvq8, hlq8⟩ := Wid.rowAt hW (i := i) (by omega) hrq8
  refine Sq.val .plain rfl rfl (Still.ixV slw67 hvq8 rfl rfl (by omega)) ?_
  refine Sq.val .plain rfl rfl (Still.loadAggW agg26 rfl rfl (fun j hj => Wid.cellR hvq8 hW (by omega) hrq8 hj)) ?_
  refine Sq.move .plain rfl rfl ?_
  refine Sq.move .plain rfl rfl ?_
  have hd12 := hB4.lt
  refine Sq.call fn125 .plain rfl rfl (l3Go_c _ (aa.getD i.toNat zeroA) _ _ (hnxq8.ext E) (hacq8.ext E) hv q x (by omega) (by omega)) ?_
  rintro _ w10 ⟨rfl, e11⟩
  have hs13 := Below.size E
  have hs14 := Below.size e11
  replace E := E.trans e11
  refine Sq.lit sl55 rfl rfl .plain rfl rfl (one_cons rfl one_nil) (fun b15 w16 e17 hlo18 ho19 _ => ?_)
  replace ho19 := ho19 w10.heap.size (Nat.le_refl _)
  have hs21 := Below.size e17
  replace E := E.trans e17
  refine Sq.assign .plain rfl rfl ?_
  refine Sq.nil ?_
  refine Eq.next ?_
  refine Cq.ret ?_
  refine Eq.pastRet ?_
  refine Eq.ret1 rfl rfl ?_
  exact ⟨Own.mono ho19 (by omega), E⟩
end Go.Proofs.Ytoboklelbbgcnaa
set_option linter.unusedSimpArgs false
set_option linter.unusedVariables false
namespace Go.Proofs.Ytoboklelbbgcnaa
open Go.RowKit
set_option maxRecDepth 100000 in
theorem l4Ok_c (w0 : World) (aa : List A) (av sv : Value) (ss : List Int) (lt kd gl : Int) (hN : NetA w0 26 55 3 4 av aa) (hS : Ints w0 3 sv ss) (u : Value) (st : List Int) (hu : Ints w0 3 u st) (hok : NetOk aa) (hst : StOk (szs aa) st) (hsl : st.length = aa.length) (i : Int) (hi : 0 ≤ i ∧ i < aa.length) : Ret Try.prog 110 #[Value.agg #[Value.slice none 0 0, av, sv, Value.int .i64 lt, Value.int .i64 kd, Value.int .i64 gl], u, Value.int .i64 i] w0 (fun v w => v = .bool (accA (aa.getD i.toNat zeroA) (st.getD i.toNat 0)) ∧ Ext w0 w) := by
  have E := Ext.refl w0
  obtain ⟨BN, rows, hW, hrl, hat⟩ := id hN
  have hlen := hok.1
  refine Ret.of (args := [Value.agg #[Value.slice none 0 0, av, sv, Value.int .i64 lt, Value.int .i64 kd, Value.int .i64 gl], u, Value.int .i64 i]) Try.func110 rfl rfl rfl ?_
  rintro _ rfl
  show Cq _ _ _ _ [(0, Value.agg #[Value.slice none 0 0, av, sv, Value.int .i64 lt, Value.int .i64 kd, Value.int .i64 gl]), (1, u), (2, Value.int .i64 i)] _
  refine Cq.seq ?_
  refine Cq.region ?_
  refine Sq.box .plain rfl rfl (fun b1 w2 e3 hB4 hlo5 => ?_)
  have hd6 := Nat.le_trans (Below.size E) hlo5
  have hs7 := Below.size e3
  replace E := E.trans e3
  replace hW := hW.ext e3
  refine Sq.assign .plain rfl rfl ?_
  refine Sq.nil ?_
  refine Eq.next ?_
  refine Cq.seq ?_
  obtain ⟨nxq, acq, hrq, hnxq, hacq⟩ := hat i.toNat (aa.getD i.toNat zeroA) (at_getD (by omega))
  obtain ⟨gq, cq, hvq, hlq⟩ := Wid.rowAt hW (i := i) (by omega) hrq
  have hcC : Cell1 w2 ⟨gq, i.toNat * 3 + 2, none⟩ acq := Wid.cellR hvq hW (by omega) hrq (j := 2) (by decide)
  obtain ⟨phpS, hpS⟩ := Ints.at hu (i := i) (by omega) (by omega)
  replace hpS : At w2 3 u (((0 : Nat) : Int) + i) phpS (.int .i64 (st.getD i.toNat 0)) := by rw [show (((0 : Nat) : Int) + i) = i by omega]; exact hpS.ext E
  have hsti := st_at hst (k := i.toNat) (by omega)
  have hnat := net_at hok (k := i.toNat) (by omega)
  obtain ⟨phpC, hpC⟩ := Bools.at hacq (i := st.getD i.toNat 0) (by omega) (by omega)
  replace hpC := hpC.ext E
  refine Cq.drawS 16 (fun w' => Blk w' b1 70 [Value.slice none 0 0, av, sv, Value.int .i64 lt, Value.int .i64 kd, Value.int .i64 gl] ∧ Cell1 w' ⟨gq, i.toNat * 3 + 2, none⟩ acq ∧ At w' 3 u (((0 : Nat) : Int) + i) phpS (.int .i64 (st.getD i.toNat 0)) ∧ At w' 4 acq (st.getD i.toNat 0) phpC (.bool ((aa.getD i.toNat zeroA).acc.getD (st.getD i.toNat 0).toNat false))) mixed (⟨hB4, hcC, hpS, hpC⟩) (fun w8 e9 hS => ?_)
  clear hS
  have hs10 := Below.size e9
  replace E := E.trans e9
  replace hB4 := hB4.ext e9
  replace hcC := hcC.ext e9
  replace hpS := hpS.ext e9
  replace hpC := hpC.ext e9
  refine Gq.st 0 rfl (by kernel_rfl) rfl .plain rfl (fun _ _ _ h => h) ⟨hB4, hcC, hpS, hpC⟩ (fun w' x => Still.fieldAddr fld70_1 rfl) ?_
  refine Gq.st 1 rfl (by kernel_rfl) rfl .plain rfl (fun _ _ _ h => h) ⟨hB4, hcC, hpS, hpC⟩ (fun w' x => Still.loadB one67 rfl x.1 rfl) ?_
  refine Gq.st 2 rfl (by kernel_rfl) rfl .plain rfl (fun _ _ _ h => h) ⟨hB4, hcC, hpS, hpC⟩ (fun w' x => Still.move rfl) ?_
  refine Gq.st 3 rfl (by kernel_rfl) rfl .plain rfl (fun _ _ _ h => h) ⟨hB4, hcC, hpS, hpC⟩ (fun w' x => Still.ixV slw67 hvq rfl rfl (by omega)) ?_
  refine Gq.st 4 rfl (by kernel_rfl) rfl .plain rfl (fun _ _ _ h => h) ⟨hB4, hcC, hpS, hpC⟩ (fun w' x => Still.fieldAddr fld26_2 rfl) ?_
  refine Gq.st 5 rfl (by kernel_rfl) rfl .plain rfl (fun _ _ _ h => h) ⟨hB4, hcC, hpS, hpC⟩ (fun w' x => Still.load one24 rfl (x.2.1)) ?_
  refine Gq.st 6 rfl (by kernel_rfl) rfl .plain rfl (fun _ _ _ h => h) ⟨hB4, hcC, hpS, hpC⟩ (fun w' x => Still.move rfl) ?_
  refine Gq.st 7 rfl (by kernel_rfl) rfl .plain rfl (fun _ _ _ h => h) ⟨hB4, hcC, hpS, hpC⟩ (fun w' x => Still.fieldAddr fld70_0 rfl) ?_
  refine Gq.st 8 rfl (by kernel_rfl) rfl .plain rfl (fun _ _ _ h => h) ⟨hB4, hcC, hpS, hpC⟩ (fun w' x => Still.loadB one68 rfl x.1 rfl) ?_
  refine Gq.st 9 rfl (by kernel_rfl) rfl .plain rfl (fun _ _ _ h => h) ⟨hB4, hcC, hpS, hpC⟩ (fun w' x => Still.len und68 rfl) ?_
  refine Gq.st 10 rfl (by kernel_rfl) rfl .plain rfl (fun _ _ _ h => h) ⟨hB4, hcC, hpS, hpC⟩ (fun w' x => Still.move rfl) ?_
  refine Gq.st 11 rfl (by kernel_rfl) rfl .plain rfl (fun _ _ _ h => h) ⟨hB4, hcC, hpS, hpC⟩ (fun w' x => Still.add rfl rfl (by omega)) ?_
  refine Gq.st 12 rfl (by kernel_rfl) rfl .plain rfl (fun _ _ _ h => h) ⟨hB4, hcC, hpS, hpC⟩ (fun w' x => Still.at' sl55 hpS rfl rfl) ?_
  refine Gq.st 13 rfl (by kernel_rfl) rfl .plain rfl (fun _ _ _ h => h) ⟨hB4, hcC, hpS, hpC⟩ (fun w' x => Still.loadA one3 rfl (x.2.2.1).1) ?_
  refine Gq.st 14 rfl (by kernel_rfl) rfl .plain rfl (fun _ _ _ h => h) ⟨hB4, hcC, hpS, hpC⟩ (fun w' x => Still.at' sl24 hpC rfl rfl) ?_
  refine Gq.st 15 rfl (by kernel_rfl) rfl .plain rfl (fun _ _ _ h => h) ⟨hB4, hcC, hpS, hpC⟩ (fun w' x => Still.loadA one4 rfl (x.2.2.2).1) ?_
  refine Gq.one 16 rfl (by kernel_rfl) ?_
  refine Sq.assign .plain rfl rfl ?_
  refine Sq.nil ?_
  refine Eq.goes (fun h => absurd h (by decide)) ?_
  refine Gq.done (by kernel_rfl) ?_
  refine Eq.next ?_
  refine Cq.ret ?_
  refine Eq.ret1 rfl rfl ?_
  exact ⟨rfl, E⟩
set_option maxRecDepth 100000 in
theorem l4Found_c (w0 : World) (aa : List A) (av sv : Value) (ss : List Int) (lt kd gl : Int) (hN : NetA w0 26 55 3 4 av aa) (hS : Ints w0 3 sv ss) (u : Value) (st : List Int) (hu : Ints w0 3 u st) (hok : NetOk aa) (hst : StOk (szs aa) st) (hsl : st.length = aa.length) (mv : Value) (hk : KindOk kd aa) : Ret Try.prog 84 #[Value.agg #[Value.slice none 0 0, av, sv, Value.int .i64 lt, Value.int .i64 kd, Value.int .i64 gl], u, mv] w0 (fun v w => v = .bool (foundN kd gl aa st) ∧ Ext w0 w) := by
  have E := Ext.refl w0
  have hlen := hok.1
  have hk' : kd = 0 ∨ kd = 5 ∨ ((kd = 1 ∨ kd = 2) ∧ aa.length = 2) := hk
  refine Ret.of (args := [Value.agg #[Value.slice none 0 0, av, sv, Value.int .i64 lt, Value.int .i64 kd, Value.int .i64 gl], u, mv]) Try.func84 rfl rfl rfl ?_
  rintro _ rfl
  show Cq _ _ _ _ [(0, Value.agg #[Value.slice none 0 0, av, sv, Value.int .i64 lt, Value.int .i64 kd, Value.int .i64 gl]), (1, u), (2, mv)] _
  refine Cq.seq ?_
  refine Cq.region ?_
  refine Sq.box .plain rfl rfl (fun b1 w2 e3 hB4 hlo5 => ?_)
  have hd6 := Nat.le_trans (Below.size E) hlo5
  have hs7 := Below.size e3
  replace E := E.trans e3
  refine Sq.assign .plain rfl rfl ?_
  refine Sq.nil ?_
  refine Eq.next ?_
  refine Cq.seq ?_
  refine Cq.seq ?_
  refine Cq.region ?_
  refine Sq.fieldAddr fld70_4 .plain rfl rfl ?_
  refine Sq.loadB one3 .plain rfl rfl hB4 rfl ?_
  refine Sq.nil ?_
  refine Eq.next ?_
  refine Cq.block ?_
  refine Cq.seq ?_
  refine Cq.region ?_
  refine Sq.eql .plain rfl rfl rfl ?_
  refine Sq.part (fun hk0 => ?_) (fun hk0 => ?_)
  · refine Sq.assign .plain rfl rfl ?_
    refine Sq.nil ?_
    refine Eq.next ?_
    refine Cq.thn rfl ?_
    refine Cq.seq ?_
    refine Cq.region ?_
    refine Sq.loadAgg agg70 .plain rfl rfl hB4 rfl ?_
    refine Sq.move .plain rfl rfl ?_
    have hd11 := hB4.lt
    refine Sq.call fn110 .plain rfl rfl (l4Ok_c _ aa av sv ss lt kd gl (hN.ext E) (hS.ext E) u st (hu.ext E) hok hst hsl 0 (by omega)) ?_
    rintro _ w9 ⟨rfl, e10⟩
    have hs12 := Below.size E
    have hs13 := Below.size e10
    replace E := E.trans e10
    refine Sq.assign .plain rfl rfl ?_
    refine Sq.nil ?_
    refine Eq.next ?_
    refine Cq.ret ?_
    refine Eq.outRet ?_
    refine Eq.pastRet ?_
    refine Eq.ret1 rfl rfl ?_
    exact ⟨by unfold foundN; rw [if_pos hk0]; first | done | rfl | (have hx' : accA (aa.getD 0 zeroA) (st.getD 0 0) = _ := hx; rw [hx']; first | done | rfl | (rw [Bool.true_and]; done) | (rw [Bool.true_and]; rfl) | (rw [Bool.false_and]; done) | (rw [Bool.false_and]; rfl)), E⟩
  refine Sq.assign .plain rfl rfl ?_
  refine Sq.nil ?_
  refine Eq.next ?_
  refine Cq.els rfl ?_
  refine Cq.seq ?_
  refine Cq.region ?_
  refine Sq.eql .plain rfl rfl rfl ?_
  refine Sq.part (fun hk1 => ?_) (fun hk1 => ?_)
  · refine Sq.assign .plain rfl rfl ?_
    refine Sq.nil ?_
    refine Eq.next ?_
    refine Cq.thn rfl ?_
    refine Cq.seq ?_
    refine Cq.drawS 7 (fun w' => Blk w' b1 70 [Value.slice none 0 0, av, sv, Value.int .i64 lt, Value.int .i64 kd, Value.int .i64 gl]) mixed (hB4) (fun w14 e15 hS => ?_)
    clear hS
    have hs16 := Below.size e15
    replace E := E.trans e15
    replace hB4 := hB4.ext e15
    refine Gq.st 0 rfl (by kernel_rfl) rfl .plain rfl (fun _ _ _ h => h) hB4 (fun w' x => Still.loadAgg agg70 rfl x rfl) ?_
    refine Gq.st 1 rfl (by kernel_rfl) rfl .plain rfl (fun _ _ _ h => h) hB4 (fun w' x => Still.move rfl) ?_
    refine Gq.st 3 rfl (by kernel_rfl) rfl .plain rfl (fun _ _ _ h => h) hB4 (fun w' x => Still.loadAgg agg70 rfl x rfl) ?_
    refine Gq.st 4 rfl (by kernel_rfl) rfl .plain rfl (fun _ _ _ h => h) hB4 (fun w' x => Still.move rfl) ?_
    refine Gq.one 2 rfl (by kernel_rfl) ?_
    have hd20 := hB4.lt
    refine Sq.call fn110 .plain rfl rfl (l4Ok_c _ aa av sv ss lt kd gl (hN.ext E) (hS.ext E) u st (hu.ext E) hok hst hsl 0 (by omega)) ?_
    rintro _ w18 ⟨rfl, e19⟩
    have hs21 := Below.size E
    have hs22 := Below.size e19
    replace E := E.trans e19
    replace hB4 := hB4.ext e19
    refine Sq.nil ?_
    refine Eq.goes (fun _ => hB4) ?_
    refine Gq.one 5 rfl (by kernel_rfl) ?_
    have hd26 := hB4.lt
    refine Sq.call fn110 .plain rfl rfl (l4Ok_c _ aa av sv ss lt kd gl (hN.ext E) (hS.ext E) u st (hu.ext E) hok hst hsl 1 (by omega)) ?_
    rintro _ w24 ⟨rfl, e25⟩
    have hs27 := Below.size E
    have hs28 := Below.size e25
    replace E := E.trans e25
    replace hB4 := hB4.ext e25
    refine Sq.nil ?_
    refine Eq.goes (fun _ => hB4) ?_
    refine Gq.st 6 rfl (by kernel_rfl) rfl .plain rfl (fun _ _ _ h => h) hB4 (fun w' x => Still.neqB und4 rfl rfl) ?_
    refine Gq.one 7 rfl (by kernel_rfl) ?_
    refine Sq.assign .plain rfl rfl ?_
    refine Sq.nil ?_
    refine Eq.goes (fun h => absurd h (by decide)) ?_
    refine Gq.done (by kernel_rfl) ?_
    refine Eq.next ?_
    refine Cq.ret ?_
    refine Eq.outRet ?_
    refine Eq.pastRet ?_
    refine Eq.ret1 rfl rfl ?_
    exact ⟨by unfold foundN; rw [if_neg hk0]; rw [if_pos hk1]; first | done | rfl | (have hx' : accA (aa.getD 0 zeroA) (st.getD 0 0) = _ := hx; rw [hx']; first | done | rfl | (rw [Bool.true_and]; done) | (rw [Bool.true_and]; rfl) | (rw [Bool.false_and]; done) | (rw [Bool.false_and]; rfl)), E⟩
  refine Sq.assign .plain rfl rfl ?_
  refine Sq.nil ?_
  refine Eq.next ?_
  refine Cq.els rfl ?_
  refine Cq.seq ?_
  refine Cq.region ?_
  refine Sq.eql .plain rfl rfl rfl ?_
  refine Sq.part (fun hk2 => ?_) (fun hk2 => ?_)
  · refine Sq.assign .plain rfl rfl ?_
    refine Sq.nil ?_
    refine Eq.next ?_
    refine Cq.thn rfl ?_
    refine Cq.seq ?_
    refine Cq.region ?_
    refine Sq.loadAgg agg70 .plain rfl rfl hB4 rfl ?_
    refine Sq.move .plain rfl rfl ?_
    have hd32 := hB4.lt
    refine Sq.call fn110 .plain rfl rfl (l4Ok_c _ aa av sv ss lt kd gl (hN.ext E) (hS.ext E) u st (hu.ext E) hok hst hsl 0 (by omega)) ?_
    rintro _ w30 ⟨rfl, e31⟩
    have hs33 := Below.size E
    have hs34 := Below.size e31
    replace E := E.trans e31
    replace hB4 := hB4.ext e31
    refine Sq.partB (fun hx => ?_) (fun hx => ?_)
    · refine Sq.move .plain rfl rfl ?_
      refine Sq.loadAgg agg70 (.met rfl rfl rfl) rfl rfl hB4 rfl ?_
      refine Sq.move (.met rfl rfl rfl) rfl rfl ?_
      have hd38 := hB4.lt
      refine Sq.call fn110 (.met rfl rfl rfl) rfl rfl (l4Ok_c _ aa av sv ss lt kd gl (hN.ext E) (hS.ext E) u st (hu.ext E) hok hst hsl 1 (by omega)) ?_
      rintro _ w36 ⟨rfl, e37⟩
      have hs39 := Below.size E
      have hs40 := Below.size e37
      replace E := E.trans e37
      refine Sq.not (.met rfl rfl rfl) rfl rfl ?_
      refine Sq.pickT .plain rfl rfl rfl ?_
      refine Sq.assign .plain rfl rfl ?_
      refine Sq.nil ?_
      refine Eq.next ?_
      refine Cq.ret ?_
      refine Eq.outRet ?_
      refine Eq.pastRet ?_
      refine Eq.ret1 rfl rfl ?_
      exact ⟨by unfold foundN; rw [if_neg hk0]; rw [if_neg hk1]; rw [if_pos hk2]; first | done | rfl | (have hx' : accA (aa.getD 0 zeroA) (st.getD 0 0) = _ := hx; rw [hx']; first | done | rfl | (rw [Bool.true_and]; done) | (rw [Bool.true_and]; rfl) | (rw [Bool.false_and]; done) | (rw [Bool.false_and]; rfl)), E⟩
    refine Sq.move .plain rfl rfl ?_
    refine Sq.off rfl rfl rfl rfl rfl rfl ?_
    refine Sq.off rfl rfl rfl rfl rfl rfl ?_
    refine Sq.off rfl rfl rfl rfl rfl rfl ?_
    refine Sq.off rfl rfl rfl rfl rfl rfl ?_
    refine Sq.pickF .plain rfl rfl rfl ?_
    refine Sq.assign .plain rfl rfl ?_
    refine Sq.nil ?_
    refine Eq.next ?_
    refine Cq.ret ?_
    refine Eq.outRet ?_
    refine Eq.pastRet ?_
    refine Eq.ret1 rfl rfl ?_
    exact ⟨by unfold foundN; rw [if_neg hk0]; rw [if_neg hk1]; rw [if_pos hk2]; first | done | rfl | (have hx' : accA (aa.getD 0 zeroA) (st.getD 0 0) = _ := hx; rw [hx']; first | done | rfl | (rw [Bool.true_and]; done) | (rw [Bool.true_and]; rfl) | (rw [Bool.false_and]; done) | (rw [Bool.false_and]; rfl)), E⟩
  refine Sq.assign .plain rfl rfl ?_
  refine Sq.nil ?_
  refine Eq.next ?_
  refine Cq.els rfl ?_
  refine Cq.seq ?_
  refine Cq.region ?_
  refine Sq.eql .plain rfl rfl rfl ?_
  refine Sq.isF (by omega) ?_
  refine Sq.assign .plain rfl rfl ?_
  refine Sq.nil ?_
  refine Eq.next ?_
  refine Cq.els rfl ?_
  refine Cq.seq ?_
  refine Cq.region ?_
  refine Sq.eql .plain rfl rfl rfl ?_
  refine Sq.isT (by omega) ?_
  refine Sq.assign .plain rfl rfl ?_
  refine Sq.nil ?_
  refine Eq.next ?_
  refine Cq.thn rfl ?_
  refine Cq.seq ?_
  obtain ⟨phpS, hpS⟩ := Ints.at hu (i := ((0 : Nat) : Int)) (by omega) (by omega)
  replace hpS := hpS.ext E
  refine Cq.drawS 9 (fun w' => Blk w' b1 70 [Value.slice none 0 0, av, sv, Value.int .i64 lt, Value.int .i64 kd, Value.int .i64 gl] ∧ At w' 3 u ((0 : Nat) : Int) phpS (.int .i64 (st.getD 0 0))) mixed (⟨hB4, hpS⟩) (fun w41 e42 hS => ?_)
  clear hS
  have hs43 := Below.size e42
  replace E := E.trans e42
  replace hB4 := hB4.ext e42
  replace hpS := hpS.ext e42
  refine Gq.st 0 rfl (by kernel_rfl) rfl .plain rfl (fun _ _ _ h => h) ⟨hB4, hpS⟩ (fun w' x => Still.move rfl) ?_
  refine Gq.st 1 rfl (by kernel_rfl) rfl .plain rfl (fun _ _ _ h => h) ⟨hB4, hpS⟩ (fun w' x => Still.fieldAddr fld70_0 rfl) ?_
  refine Gq.st 2 rfl (by kernel_rfl) rfl .plain rfl (fun _ _ _ h => h) ⟨hB4, hpS⟩ (fun w' x => Still.loadB one68 rfl x.1 rfl) ?_
  refine Gq.st 3 rfl (by kernel_rfl) rfl .plain rfl (fun _ _ _ h => h) ⟨hB4, hpS⟩ (fun w' x => Still.len und68 rfl) ?_
  refine Gq.st 4 rfl (by kernel_rfl) rfl .plain rfl (fun _ _ _ h => h) ⟨hB4, hpS⟩ (fun w' x => Still.at' sl55 hpS rfl rfl) ?_
  refine Gq.st 5 rfl (by kernel_rfl) rfl .plain rfl (fun _ _ _ h => h) ⟨hB4, hpS⟩ (fun w' x => Still.loadA one3 rfl (x.2).1) ?_
  refine Gq.st 6 rfl (by kernel_rfl) rfl .plain rfl (fun _ _ _ h => h) ⟨hB4, hpS⟩ (fun w' x => Still.fieldAddr fld70_5 rfl) ?_
  refine Gq.st 7 rfl (by kernel_rfl) rfl .plain rfl (fun _ _ _ h => h) ⟨hB4, hpS⟩ (fun w' x => Still.loadB one3 rfl x.1 rfl) ?_
  refine Gq.st 8 rfl (by kernel_rfl) rfl .plain rfl (fun _ _ _ h => h) ⟨hB4, hpS⟩ (fun w' x => Still.eql rfl rfl) ?_
  refine Gq.one 9 rfl (by kernel_rfl) ?_
  refine Sq.assign .plain rfl rfl ?_
  refine Sq.nil ?_
  refine Eq.goes (fun h => absurd h (by decide)) ?_
  refine Gq.done (by kernel_rfl) ?_
  refine Eq.next ?_
  refine Cq.ret ?_
  refine Eq.outRet ?_
  refine Eq.pastRet ?_
  refine Eq.ret1 rfl rfl ?_
  exact ⟨by unfold foundN; rw [if_neg hk0]; rw [if_neg hk1]; rw [if_neg hk2]; first | done | rfl | (have hx' : accA (aa.getD 0 zeroA) (st.getD 0 0) = _ := hx; rw [hx']; first | done | rfl | (rw [Bool.true_and]; done) | (rw [Bool.true_and]; rfl) | (rw [Bool.false_and]; done) | (rw [Bool.false_and]; rfl)), E⟩
set_option maxRecDepth 100000 in
theorem l4Near_c (w0 : World) (rv dv : Value) (xss : List (List Int)) (ds : List Int) (d : Int) (hr : Rows w0 55 3 rv xss) (hd : Ints w0 3 dv ds) (hb : ∀ r ∈ xss, r.length ≤ 1000 ∧ ∀ x ∈ r, 0 ≤ x ∧ x < (ds.length : Int)) (hl : xss.length ≤ 1000) : Ret Try.prog 111 #[rv, dv, Value.int .i64 d] w0 (fun v w => v = .bool (nearX ds xss d) ∧ Ext w0 w) := by
  have E := Ext.refl w0
  refine Ret.of (args := [rv, dv, Value.int .i64 d]) Try.func111 rfl rfl rfl ?_
  rintro _ rfl
  show Cq _ _ _ _ [(0, rv), (1, dv), (2, Value.int .i64 d)] _
  refine Cq.seq ?_
  refine Cq.region ?_
  refine Sq.assign .plain rfl rfl ?_
  refine Sq.nil ?_
  refine Eq.next ?_
  refine Cq.seq ?_
  refine Cq.seq ?_
  refine Cq.region ?_
  refine Sq.assign .plain rfl rfl ?_
  refine Sq.nil ?_
  refine Eq.next ?_
  refine Cq.block ?_
  refine Cq.loop (fun nn w ls => ∃ (k : Int), ls = [(0, rv), (1, dv), (2, Value.int .i64 d), (7, Value.int .i64 k)] ∧ (0 ≤ k ∧ k ≤ xss.length) ∧ nearX ds (xss.take k.toNat) d = false ∧ Ext w0 w ∧ nn = ((xss.length : Int) - k).toNat) _ _ ⟨0, rfl, by omega, rfl, E, rfl⟩ (.cons rfl (.cons rfl (.cons rfl (.cons rfl (.nil))))) ?_
  rintro nn wl1 ls ⟨k, rfl, hk, hp, E, rfl⟩
  have hs1 := Below.size E
  refine Cq.seq ?_
  refine Cq.seq ?_
  refine Cq.region ?_
  refine Sq.move .plain rfl rfl ?_
  refine Sq.move .plain rfl rfl ?_
  refine Sq.lenRows (hr.ext E) .plain rfl und23 rfl ?_
  refine Sq.lss .plain rfl rfl rfl ?_
  refine Sq.part (fun c2 => ?_) (fun c2 => ?_)
  · refine Sq.nil ?_
    refine Eq.next ?_
    refine Cq.thn rfl ?_
    refine Cq.skip ?_
    refine Eq.next ?_
    refine Cq.seq ?_
    refine Cq.block ?_
    refine Cq.seq ?_
    refine Cq.region ?_
    refine Sq.assign .plain rfl rfl ?_
    refine Sq.nil ?_
    refine Eq.next ?_
    refine Cq.block ?_
    have hbr := hb (xss.getD k.toNat []) (getD_mem (by omega))
    have hbr1 := hbr.1
    refine Cq.loop (fun nn w ls => ∃ (i : Int), ls = [(0, rv), (1, dv), (2, Value.int .i64 d), (7, Value.int .i64 k), (8, Value.int .i64 i)] ∧ (0 ≤ i ∧ i ≤ (xss.getD k.toNat []).length) ∧ (((xss.getD k.toNat []).take i.toNat).any fun x => decide (ds.getD x.toNat 0 = d)) = false ∧ Ext w0 w ∧ nn = (((xss.getD k.toNat []).length : Int) - i).toNat) _ _ ⟨0, rfl, by omega, rfl, E, rfl⟩ (.cons rfl (.cons rfl (.cons rfl (.cons rfl (.cons rfl (.nil)))))) ?_
    rintro nn wl2 ls ⟨i, rfl, hi, hq, E, rfl⟩
    have hs3 := Below.size E
    have hbx : i < ((xss.getD k.toNat []).length : Int) → 0 ≤ (xss.getD k.toNat []).getD i.toNat 0 ∧ (xss.getD k.toNat []).getD i.toNat 0 < (ds.length : Int) := fun h => hbr.2 _ (getD_mem (by omega))
    refine Cq.seq ?_
    refine Cq.seq ?_
    refine Cq.region ?_
    refine Sq.move .plain rfl rfl ?_
    refine Sq.move .plain rfl rfl ?_
    refine Sq.move .plain rfl rfl ?_
    refine Sq.idxRows sl23 one55 (hr.ext E) .plain rfl rfl rfl .plain rfl rfl (by omega) (by omega) (fun r4 hr5 => ?_)
    refine Sq.lenInts hr5 .plain rfl und55 rfl ?_
    refine Sq.lss .plain rfl rfl rfl ?_
    refine Sq.part (fun c6 => ?_) (fun c6 => ?_)
    · refine Sq.nil ?_
      refine Eq.next ?_
      refine Cq.thn rfl ?_
      refine Cq.skip ?_
      refine Eq.next ?_
      refine Cq.seq ?_
      refine Cq.block ?_
      refine Cq.seq ?_
      refine Cq.region ?_
      refine Sq.move .plain rfl rfl ?_
      refine Sq.move .plain rfl rfl ?_
      refine Sq.move .plain rfl rfl ?_
      refine Sq.idxRows sl23 one55 (hr.ext E) .plain rfl rfl rfl .plain rfl rfl (by omega) (by omega) (fun r7 hr8 => ?_)
      refine Sq.move .plain rfl rfl ?_
      refine Sq.idxInts sl55 one3 hr8 .plain rfl rfl rfl .plain rfl rfl (by omega) (by omega) ?_
      refine Sq.idxInts sl55 one3 (hd.ext E) .plain rfl rfl rfl .plain rfl rfl (by have := hbx (by omega); omega) (by have := hbx (by omega); omega) ?_
      refine Sq.move .plain rfl rfl ?_
      refine Sq.eql .plain rfl rfl rfl ?_
      refine Sq.part (fun hne => ?_) (fun hne => ?_)
      · refine Sq.nil ?_
        refine Eq.next ?_
        refine Cq.thn rfl ?_
        refine Cq.seq ?_
        refine Cq.region ?_
        refine Sq.assign .plain rfl rfl ?_
        refine Sq.nil ?_
        refine Eq.next ?_
        refine Cq.ret ?_
        refine Eq.outRet ?_
        refine Eq.pastRet ?_
        refine Eq.pastRet ?_
        refine Eq.outRet ?_
        refine Eq.outRet ?_
        refine Eq.pastRet ?_
        refine Eq.pastRet ?_
        refine Eq.outRet ?_
        refine Eq.pastRet ?_
        refine Eq.ret1 rfl rfl ?_
        exact ⟨by rw [near_yes (k := k.toNat) (i := i.toNat) (by omega) (by omega) hne], E⟩
      refine Sq.nil ?_
      refine Eq.next ?_
      refine Cq.els rfl ?_
      refine Cq.skip ?_
      refine Eq.end ?_
      refine Eq.next ?_
      refine Cq.region ?_
      refine Sq.move .plain rfl rfl ?_
      refine Sq.add .plain rfl rfl rfl (by omega) ?_
      refine Sq.assign .plain rfl rfl ?_
      refine Sq.nil ?_
      have e2 := toNat_succ hi.1
      refine Eq.round _ _ ⟨i + 1, rfl, by omega, by rw [e2, take_snoc 0 (by omega), List.any_append, hq, Bool.false_or, List.any_cons, List.any_nil, Bool.or_false]; exact decide_eq_false hne, E, rfl⟩ (by omega) (.cons rfl (.cons rfl (.cons rfl (.cons rfl (.cons rfl (.nil))))))
    refine Sq.nil ?_
    refine Eq.next ?_
    refine Cq.els rfl ?_
    refine Cq.exit ?_
    refine Eq.past ?_
    refine Eq.past ?_
    refine Eq.hit ?_
    refine Eq.end ?_
    refine Eq.next ?_
    refine Cq.region ?_
    refine Sq.move .plain rfl rfl ?_
    refine Sq.add .plain rfl rfl rfl (by omega) ?_
    refine Sq.assign .plain rfl rfl ?_
    refine Sq.nil ?_
    have e1 := toNat_succ hk.1
    refine Eq.round _ _ ⟨k + 1, rfl, by omega, by rw [List.take_of_length_le (by omega)] at hq; rw [e1, take_snoc [] (by omega)]; unfold nearX at hp ⊢; rw [List.any_append, hp, Bool.false_or, List.any_cons, List.any_nil, Bool.or_false]; exact hq, E, rfl⟩ (by omega) (.cons rfl (.cons rfl (.cons rfl (.cons rfl (.nil)))))
  refine Sq.nil ?_
  refine Eq.next ?_
  refine Cq.els rfl ?_
  refine Cq.exit ?_
  refine Eq.past ?_
  refine Eq.past ?_
  refine Eq.hit ?_
  refine Eq.next ?_
  refine Cq.seq ?_
  refine Cq.region ?_
  refine Sq.assign .plain rfl rfl ?_
  refine Sq.nil ?_
  refine Eq.next ?_
  refine Cq.ret ?_
  refine Eq.ret1 rfl rfl ?_
  exact ⟨by rw [List.take_of_length_le (by omega)] at hp; rw [hp], E⟩
end Go.Proofs.Ytoboklelbbgcnaa
set_option linter.unusedSimpArgs false
set_option linter.unusedVariables false
namespace Go.Proofs.Ytoboklelbbgcnaa
open Go.RowKit
set_option maxRecDepth 100000 in
theorem l4Dist_c (w0 wm : World) (B : Nat) (mv dv : Value) (f : Int → Int → Int) (L : List Int) (G : Int → Bool) (n : Nat) (Em : Ext wm w0) (hm : Read3 wm 23 55 3 mv ((List.range n).map fun (q : Nat) => L.map fun x => [f (q : Int) x])) (hB : wm.heap.size ≤ B) (ho : Own w0 B 3 dv ((dsOf f L G n 0).map (Value.int .i64))) (hf : ∀ q l, l ∈ L → 0 ≤ f q l ∧ f q l < n) (hn : n ≤ 1000) (hLl : L.length ≤ 100) : Ret Try.prog 86 #[mv, dv] w0 (fun v w => v = .tuple #[] ∧ (∃ d, d ≤ n ∧ Own w B 3 dv ((dsOf f L G n d).map (Value.int .i64)) ∧ ∀ q, 0 ≤ q ∧ q < (n : Int) → disTo f L G (d + 1) q = disTo f L G d q) ∧ w0.grownBy w dv.ownBlock) := by
  have E := Em
  have hgo := World.grownBy.refl w0 dv.ownBlock
  refine Ret.of (args := [mv, dv]) Try.func86 rfl rfl rfl ?_
  rintro _ rfl
  show Cq _ _ _ _ [(0, mv), (1, dv)] _
  refine Cq.seq ?_
  refine Cq.region ?_
  refine Sq.assign .plain rfl rfl ?_
  refine Sq.nil ?_
  refine Eq.next ?_
  refine Cq.seq ?_
  refine Cq.region ?_
  refine Sq.assign .plain rfl rfl ?_
  refine Sq.nil ?_
  refine Eq.next ?_
  refine Cq.block ?_
  refine Cq.loop (fun nn w ls => ∃ (d : Nat), ∃ (more : Bool), ∃ (dI : Int), ls = [(0, mv), (1, dv), (4, Value.bool more), (5, Value.int .i64 dI)] ∧ Own w B 3 dv ((dsOf f L G n d).map (Value.int .i64)) ∧ dI = (d : Int) + 1 ∧ (more = true → d + todo f L G n d 0 ≤ n) ∧ (more = false → ∃ d', d' ≤ n ∧ dsOf f L G n d = dsOf f L G n d' ∧ ∀ q, 0 ≤ q ∧ q < (n : Int) → disTo f L G (d' + 1) q = disTo f L G d' q) ∧ Ext wm w ∧ World.grownBy w0 w dv.ownBlock ∧ nn = 2 * todo f L G n d 0 + (if more = true then 1 else 0)) _ _ ⟨0, true, 1, rfl, ho, rfl, fun _ => by have := todo_le (f := f) (L := L) (G := G) (n := n) 0 0; omega, fun h => absurd h (by decide), E, hgo, rfl⟩ (.cons rfl (.cons rfl (.cons rfl (.cons rfl (.nil))))) ?_
  rintro nn wl1 ls ⟨d, more, dI, rfl, ho, hdI, hdn, hst, E, hgo, rfl⟩
  have hs1 := Below.size E
  have hdl := dsOf_length (f := f) (L := L) (G := G) (n := n) d
  refine Cq.seq ?_
  refine Cq.seq ?_
  refine Cq.region ?_
  refine Sq.move .plain rfl rfl ?_
  refine Sq.partB (fun hmore => ?_) (fun hmore => ?_)
  · refine Sq.nil ?_
    refine Eq.next ?_
    refine Cq.thn rfl ?_
    refine Cq.skip ?_
    refine Eq.next ?_
    refine Cq.seq ?_
    refine Cq.block ?_
    refine Cq.seq ?_
    refine Cq.region ?_
    refine Sq.assign .plain rfl rfl ?_
    refine Sq.nil ?_
    refine Eq.next ?_
    refine Cq.seq ?_
    refine Cq.region ?_
    refine Sq.assign .plain rfl rfl ?_
    refine Sq.nil ?_
    refine Eq.next ?_
    refine Cq.block ?_
    refine Cq.loop (fun nn w ls => ∃ (i : Int), ∃ (m2 : Bool), ls = [(0, mv), (1, dv), (4, Value.bool m2), (5, Value.int .i64 dI), (6, Value.int .i64 i)] ∧ (0 ≤ i ∧ i ≤ (n : Int)) ∧ Own w B 3 dv ((dsAt f L G n d i.toNat).map (Value.int .i64)) ∧ (m2 = true → todo f L G n d i.toNat + 1 ≤ todo f L G n d 0) ∧ (m2 = false → ∀ j : Nat, j < i.toNat → disTo f L G (d + 1) (j : Int) = disTo f L G d (j : Int)) ∧ todo f L G n d i.toNat ≤ todo f L G n d 0 ∧ Ext wm w ∧ World.grownBy w0 w dv.ownBlock ∧ nn = ((n : Int) - i).toNat) _ _ ⟨0, false, rfl, by omega, by rw [show (0 : Int).toNat = 0 from rfl, dsAt_zero]; exact ho, fun h => absurd h (by decide), fun _ j hj => absurd hj (Nat.not_lt_zero _), Nat.le_refl _, E, hgo, rfl⟩ (.cons rfl (.cons rfl (.cons rfl (.cons rfl (.cons rfl (.nil)))))) ?_
    rintro nn wl2 ls ⟨i, m2, rfl, hi, ho, hmt, hmf, hml, E, hgo, rfl⟩
    have hs2 := Below.size E
    have hdl := dsAt_length (f := f) (L := L) (G := G) (n := n) d i.toNat
    have hdm := hdn hmore
    refine Cq.seq ?_
    refine Cq.seq ?_
    refine Cq.region ?_
    refine Sq.move .plain rfl rfl ?_
    refine Sq.move .plain rfl rfl ?_
    refine Sq.lenInts (Own.row ho) .plain rfl und55 rfl ?_
    refine Sq.lss .plain rfl rfl rfl ?_
    refine Sq.part (fun c3 => ?_) (fun c3 => ?_)
    · refine Sq.nil ?_
      refine Eq.next ?_
      refine Cq.thn rfl ?_
      refine Cq.skip ?_
      refine Eq.next ?_
      refine Cq.seq ?_
      refine Cq.block ?_
      refine Cq.seq ?_
      refine Cq.region ?_
      refine Sq.move .plain rfl rfl ?_
      refine Sq.move .plain rfl rfl ?_
      refine Sq.idxInts sl55 one3 (Own.row ho) .plain rfl rfl rfl .plain rfl rfl (by omega) (by omega) ?_
      refine Sq.lss .plain rfl rfl rfl ?_
      refine Sq.part (fun hlt => ?_) (fun hlt => ?_)
      · refine Sq.move .plain rfl rfl ?_
        refine Sq.move (.met rfl rfl rfl) rfl rfl ?_
        refine Sq.move (.met rfl rfl rfl) rfl rfl ?_
        obtain ⟨pq4, rq4, hpq4, hrq4⟩ := Read3.at (hm.ext E) (i := i) (by first | omega | (simp; omega)) (by first | omega | (simp; omega))
        refine Sq.val (.met rfl rfl rfl) rfl rfl (Still.at' sl86 hpq4 rfl rfl) ?_
        refine Sq.val (.met rfl rfl rfl) rfl rfl (Still.loadA one23 rfl hpq4.1) ?_
        refine Sq.move (.met rfl rfl rfl) rfl rfl ?_
        refine Sq.move (.met rfl rfl rfl) rfl rfl ?_
        refine Sq.sub (.met rfl rfl rfl) rfl rfl rfl (by omega) ?_
        refine Sq.call fn111 (.met rfl rfl rfl) rfl rfl (l4Near_c _ _ _ ((((List.range n).map fun (q : Nat) => L.map fun x => [f (q : Int) x]).getD i.toNat [])) (dsAt f L G n d i.toNat) (dI - 1) hrq4 (Own.row ho) (mv_ok hf hLl (by omega)) (by rw [moves_f (q := i) (by omega), List.length_map]; omega)) ?_
        rintro _ w6 ⟨rfl, e7⟩
        have hs8 := Below.size E
        have hs9 := Below.size e7
        replace E := E.trans e7
        replace hgo := grown_trans hgo (Ext.to_grown e7 _)
        replace ho := ho.ext e7
        refine Sq.partB (fun hnr => ?_) (fun hnr => ?_)
        · refine Sq.pickT .plain rfl rfl rfl ?_
          refine Sq.nil ?_
          refine Eq.next ?_
          refine Cq.thn rfl ?_
          refine Cq.seq ?_
          refine Cq.region ?_
          refine Sq.move .plain rfl rfl ?_
          refine Sq.move .plain rfl rfl ?_
          refine Sq.move .plain rfl rfl ?_
          obtain ⟨p10, hp11o⟩ := Own.at ho (i := i) (by omega) (by first | (simp only [List.length_map]; omega) | (simp; omega))
          refine Sq.atO sl55 hp11o .plain rfl rfl rfl ?_
          refine Sq.storeO one3 ho hp11o .plain rfl rfl rfl (fun w12 g13 ho14 => ?_)
          have hs15 := World.grownBy.size g13
          replace E := E.owned ho g13 (by omega)
          replace hgo := grown_trans hgo g13
          replace ho := ho14
          refine Sq.nil ?_
          refine Eq.next ?_
          refine Cq.region ?_
          refine Sq.assign .plain rfl rfl ?_
          refine Sq.nil ?_
          refine Eq.end ?_
          refine Eq.next ?_
          refine Cq.region ?_
          refine Sq.move .plain rfl rfl ?_
          refine Sq.add .plain rfl rfl rfl (by omega) ?_
          refine Sq.assign .plain rfl rfl ?_
          refine Sq.nil ?_
          have hlt' : disTo f L G d i < 0 := by rw [dsAt_get (q := i) (by omega), if_neg (by omega)] at hlt; exact hlt
          have ei : ((i.toNat : Nat) : Int) = i := Int.toNat_of_nonneg hi.1
          rw [show dI - 1 = (d : Int) by omega, moves_f (q := i) (by omega), nearX_eq (n := n) hf i] at hnr
          have hk1 := disTo_new hlt' hnr
          have hk2 : disTo f L G (d + 1) ((i.toNat : Nat) : Int) = dI := by rw [ei, hk1]; omega
          have htl := todo_less (f := f) (L := L) (G := G) (d := d) (i := i.toNat) (n := n) (by omega) (by rw [ei]; exact hlt') (by rw [ei, hk1]; omega)
          refine Eq.round _ _ ⟨i + 1, true, rfl, by omega, by rw [toNat_succ hi.1, ← dsAt_set (by omega), List.map_set, hk2]; exact ho, fun _ => by rw [toNat_succ hi.1]; omega, fun h => absurd h (by decide), by rw [toNat_succ hi.1]; omega, E, hgo, rfl⟩ (by omega) (.cons rfl (.cons rfl (.cons rfl (.cons rfl (.cons rfl (.nil))))))
        refine Sq.pickT .plain rfl rfl rfl ?_
        refine Sq.nil ?_
        refine Eq.next ?_
        refine Cq.els rfl ?_
        refine Cq.skip ?_
        refine Eq.end ?_
        refine Eq.next ?_
        refine Cq.region ?_
        refine Sq.move .plain rfl rfl ?_
        refine Sq.add .plain rfl rfl rfl (by omega) ?_
        refine Sq.assign .plain rfl rfl ?_
        refine Sq.nil ?_
        have hlt' : disTo f L G d i < 0 := by rw [dsAt_get (q := i) (by omega), if_neg (by omega)] at hlt; exact hlt
        have ei : ((i.toNat : Nat) : Int) = i := Int.toNat_of_nonneg hi.1
        rw [show dI - 1 = (d : Int) by omega, moves_f (q := i) (by omega), nearX_eq (n := n) hf i] at hnr
        have hk1 := disTo_far hlt' hnr
        have hk2 : disTo f L G (d + 1) ((i.toNat : Nat) : Int) = disTo f L G d ((i.toNat : Nat) : Int) := by rw [ei, hk1]; rcases disTo_cases (f := f) (L := L) (G := G) d i with h | ⟨z, h, _⟩; exact h.symm; omega
        refine Eq.round _ _ ⟨i + 1, m2, rfl, by omega, by rw [toNat_succ hi.1, dsAt_keep hk2]; exact ho, fun h => by rw [toNat_succ hi.1, todo_keep hk2]; exact hmt h, fun h => dis_more ei (hmf h) hk2 (toNat_succ hi.1), by rw [toNat_succ hi.1, todo_keep hk2]; exact hml, E, hgo, rfl⟩ (by omega) (.cons rfl (.cons rfl (.cons rfl (.cons rfl (.cons rfl (.nil))))))
      refine Sq.move .plain rfl rfl ?_
      refine Sq.off rfl rfl rfl rfl rfl rfl ?_
      refine Sq.off rfl rfl rfl rfl rfl rfl ?_
      refine Sq.off rfl rfl rfl rfl rfl rfl ?_
      refine Sq.off rfl rfl rfl rfl rfl rfl ?_
      refine Sq.off rfl rfl rfl rfl rfl rfl ?_
      refine Sq.off rfl rfl rfl rfl rfl rfl ?_
      refine Sq.off rfl rfl rfl rfl rfl rfl ?_
      refine Sq.off rfl rfl rfl rfl rfl rfl ?_
      refine Sq.pickF .plain rfl rfl rfl ?_
      refine Sq.nil ?_
      refine Eq.next ?_
      refine Cq.els rfl ?_
      refine Cq.skip ?_
      refine Eq.end ?_
      refine Eq.next ?_
      refine Cq.region ?_
      refine Sq.move .plain rfl rfl ?_
      refine Sq.add .plain rfl rfl rfl (by omega) ?_
      refine Sq.assign .plain rfl rfl ?_
      refine Sq.nil ?_
      have hk1 : disTo f L G (d + 1) i = disTo f L G d i := disTo_old (by rw [dsAt_get (q := i) (by omega), if_neg (by omega)] at hlt; omega)
      have ei : ((i.toNat : Nat) : Int) = i := Int.toNat_of_nonneg hi.1
      have hk2 : disTo f L G (d + 1) ((i.toNat : Nat) : Int) = disTo f L G d ((i.toNat : Nat) : Int) := by rw [ei]; exact hk1
      refine Eq.round _ _ ⟨i + 1, m2, rfl, by omega, by rw [toNat_succ hi.1, dsAt_keep hk2]; exact ho, fun h => by rw [toNat_succ hi.1, todo_keep hk2]; exact hmt h, fun h => dis_more ei (hmf h) hk2 (toNat_succ hi.1), by rw [toNat_succ hi.1, todo_keep hk2]; exact hml, E, hgo, rfl⟩ (by omega) (.cons rfl (.cons rfl (.cons rfl (.cons rfl (.cons rfl (.nil))))))
    refine Sq.nil ?_
    refine Eq.next ?_
    refine Cq.els rfl ?_
    refine Cq.exit ?_
    refine Eq.past ?_
    refine Eq.past ?_
    refine Eq.hit ?_
    refine Eq.end ?_
    refine Eq.next ?_
    refine Cq.region ?_
    refine Sq.move .plain rfl rfl ?_
    refine Sq.add .plain rfl rfl rfl (by omega) ?_
    refine Sq.assign .plain rfl rfl ?_
    refine Sq.nil ?_
    have en : i.toNat = n := by omega
    rw [en] at ho hmt hmf hml
    rw [dsAt_all (Nat.le_refl _)] at ho
    have etd := todo_round (f := f) (L := L) (G := G) (n := n) d n (Nat.le_refl _)
    rw [etd] at hmt hml
    have hst2 : m2 = false → dsOf f L G n (d + 1) = dsOf f L G n d := fun h => dsOf_same (hmf h)
    refine Eq.round _ _ ⟨d + 1, m2, _, rfl, ho, by omega, fun h => by have := hmt h; have := hdn hmore; omega, fun h => ⟨d, by have := hdn hmore; omega, hst2 h, dis_all (hmf h)⟩, E, hgo, rfl⟩ (by rw [if_pos hmore]; cases m2 with | true => (have := hmt rfl; simp; omega) | false => (simp; omega)) (.cons rfl (.cons rfl (.cons rfl (.cons rfl (.nil)))))
  refine Sq.nil ?_
  refine Eq.next ?_
  refine Cq.els rfl ?_
  refine Cq.exit ?_
  refine Eq.past ?_
  refine Eq.past ?_
  refine Eq.hit ?_
  refine Eq.fall0 rfl ?_
  obtain ⟨d', e0, e1, e2⟩ := hst (by assumption)
  rw [e1] at ho
  exact ⟨rfl, ⟨d', e0, ho, e2⟩, hgo⟩
end Go.Proofs.Ytoboklelbbgcnaa
