/-
  Products of automata as nodes with numbers, and their memory; distances in rounds. Nothing of any one program stands here.
-/
import Derived.Test.YtdkdpmmfebdeaaaPath
set_option linter.unusedSimpArgs false
set_option linter.unusedVariables false
namespace Go.Proofs.Ytdkdpmmfebdeaaa
open Go.RowKit

/-! rows of n cells, read -/
section
variable {w w' : World} {B n : Nat} {e : TypeId} {v : Value} {rows : List (List Value)}
theorem Wid.rowAt (h : Wid w B e n v rows) {i : Int} (h0 : 0 ≤ i) {r : List Value} (hr : rows[i.toNat]? = some r) : ∃ g c, v = .slice (some ⟨g, 0, none⟩) rows.length c ∧ i.toNat < rows.length := by
  have hi := (List.getElem?_eq_some_iff.1 hr).1
  obtain ⟨g, c, hv, _⟩ := h.at h0 (by omega)
  exact ⟨g, c, hv, hi⟩
theorem Wid.cellR {g c : Nat} (hv : v = .slice (some ⟨g, 0, none⟩) rows.length c) (h : Wid w B e n v rows) {i : Int} (h0 : 0 ≤ i) {r : List Value} (hr : rows[i.toNat]? = some r) {j : Nat} (hj : j < n) : w.cell? ⟨g, i.toNat * n + j, none⟩ = r[j]? := by
  have hi := (List.getElem?_eq_some_iff.1 hr).1
  obtain ⟨g', c', hv', _, _, hc⟩ := h.at h0 (by omega)
  rw [hv] at hv'
  injection hv' with hv' _ _
  injection hv' with hv'
  injection hv' with hv' _ _
  subst hv'
  rw [hc j hj, List.getD_eq_getElem?_getD, hr]
  rfl
end
theorem Still.loadAggW {P : Program} {N : Nat} {l : Slots} {w : World} {d : Nat} {ty : TypeId} {pos : String} {after : Array Edge} {g : Option (Nat × Bool)} {t : TypeId} {b o n : Nat} {x : Operand} {cs : List Value} (h1 : Agg P t n) (hx : ev l x = some (.pointer (some ⟨b, o, none⟩))) (hn : cs.length = n) (hc : ∀ j, j < n → w.cell? ⟨b, o + j, none⟩ = cs[j]?) : Still P N l ⟨some d, .load t x, ty, pos, after, g⟩ (.agg cs.toArray) w := fun a ha => by
  have hl : (loadCells ⟨b, o, none⟩ n).run P w = .ok cs.toArray w := by
    rw [← hn]
    refine run_loadCells_list _ _ _ fun j v hv => ?_
    rw [addr_add]
    have hj := (List.getElem?_eq_some_iff.1 hv).1
    rw [hc j (by omega)]
    simpa using hv
  simp [execOp, ha.ev hx, Instr.loadAt, Instr.sureAddr, loadVar, h1.agg, h1.size, hl]
/-- The automata of a product. -/
def NetA (w : World) (AU SI I Bo : TypeId) (av : Value) (as : List A) : Prop :=
  ∃ B rows, Wid w B AU 3 av rows ∧ rows.length = as.length ∧ ∀ (j : Nat) (a : A), as[j]? = some a → ∃ nx ac, rows[j]? = some [.int .i64 a.al, nx, ac] ∧ Rows w SI I nx a.next ∧ Bools w Bo ac a.acc
theorem NetA.ext {w w' : World} {AU SI I Bo : TypeId} {av : Value} {as : List A} (h : NetA w AU SI I Bo av as) (x : Ext w w') : NetA w' AU SI I Bo av as := by
  obtain ⟨B, rows, h1, h2, h3⟩ := h
  refine ⟨B, rows, h1.ext x, h2, fun j a ha => ?_⟩
  obtain ⟨nx, ac, g1, g2, g3⟩ := h3 j a ha
  exact ⟨nx, ac, g1, g2.ext x, g3.ext x⟩
theorem NetA.one {w : World} {AU SI I Bo : TypeId} {av : Value} {as : List A} (h : NetA w AU SI I Bo av as) : av.oneCell' = true := by
  obtain ⟨B, rows, h1, _⟩ := h
  exact h1.one
def Cell1 (w : World) (p : Addr) (u : Value) : Prop := w.cell? p = some u
theorem Cell1.ext {w w' : World} {p : Addr} {u : Value} (h : Cell1 w p u) (x : Ext w w') : Cell1 w' p u := by
  have hb := World.block_lt_of_cell? w p h
  unfold Cell1 at *
  rw [← h]
  unfold World.cell?
  rw [x.block p.block hb]
theorem at_getD {α : Type} {l : List α} {k : Nat} {d : α} (h : k < l.length) : l[k]? = some (l.getD k d) := by
  rw [List.getD_eq_getElem?_getD, List.getElem?_eq_getElem h]; rfl
/-! numbers of three depths -/
def Read3 (w : World) (e3 e2 e1 : TypeId) (v : Value) (xsss : List (List (List Int))) : Prop := ∃ rs, Row w e3 v rs ∧ rs.length = xsss.length ∧ ∀ (i : Nat) (r : Value), rs[i]? = some r → Rows w e2 e1 r (xsss.getD i [])
def RowU (w : World) (U : Nat) (e : TypeId) (v : Value) (vs : List Value) : Prop := Row w e v vs ∧ ∀ k, v.ownBlock = some k → k < U
def RowsU (w : World) (U : Nat) (e e' : TypeId) (v : Value) (xss : List (List Int)) : Prop := ∃ rs, RowU w U e v rs ∧ rs.length = xss.length ∧ ∀ (i : Nat) (r : Value), rs[i]? = some r → RowU w U e' r ((xss.getD i []).map (Value.int .i64))
def Own3 (w : World) (B U : Nat) (e3 e2 e1 : TypeId) (v : Value) (xsss : List (List (List Int))) : Prop := ∃ rs, Own w B e3 v rs ∧ rs.length = xsss.length ∧ ∀ (i : Nat) (r : Value), rs[i]? = some r → RowsU w U e2 e1 r (xsss.getD i [])
section
variable {w w' : World} {B U : Nat} {e e' e1 e2 e3 : TypeId} {v : Value} {vs : List Value} {xss : List (List Int)} {xsss : List (List (List Int))}
theorem RowU.ext (h : RowU w U e v vs) (x : Ext w w') : RowU w' U e v vs := ⟨h.1.ext x, h.2⟩
theorem RowU.apart {g : Nat} (h : RowU w U e v vs) (hg : w.grownBy w' (some g)) (hU : U ≤ g) : RowU w' U e v vs := by
  refine ⟨?_, h.2⟩
  rcases h.1 with h1 | ⟨b, o, c, cur, fr, hv, hb, hx⟩
  · exact .inl h1
  · refine .inr ⟨b, o, c, cur, fr, hv, ?_, hx⟩
    have hlt := h.2 b (by rw [hv]; rfl)
    rw [hg.block b (lt_of_block hb) (fun h => by injection h with h; omega)]
    exact hb
theorem RowU.other {B' : Nat} {t : TypeId} {u : Value} {us : List Value} (h : RowU w U e v vs) (ho : Own w B' t u us) (hg : w.grownBy w' u.ownBlock) (hne : t ≠ e) : RowU w' U e v vs := ⟨h.1.owned ho hg hne, h.2⟩
theorem RowsU.ext (h : RowsU w U e e' v xss) (x : Ext w w') : RowsU w' U e e' v xss := by
  obtain ⟨rs, h1, h2, h3⟩ := h
  exact ⟨rs, h1.ext x, h2, fun i r hr => (h3 i r hr).ext x⟩
theorem RowsU.apart {g : Nat} (h : RowsU w U e e' v xss) (hg : w.grownBy w' (some g)) (hU : U ≤ g) : RowsU w' U e e' v xss := by
  obtain ⟨rs, h1, h2, h3⟩ := h
  exact ⟨rs, h1.apart hg hU, h2, fun i r hr => (h3 i r hr).apart hg hU⟩
theorem RowsU.other {B' : Nat} {t : TypeId} {u : Value} {us : List Value} (h : RowsU w U e e' v xss) (ho : Own w B' t u us) (hg : w.grownBy w' u.ownBlock) (hne : t ≠ e) (hne' : t ≠ e') : RowsU w' U e e' v xss := by
  obtain ⟨rs, h1, h2, h3⟩ := h
  exact ⟨rs, h1.other ho hg hne, h2, fun i r hr => (h3 i r hr).other ho hg hne'⟩
theorem RowsU.up {U' : Nat} (h : RowsU w U e e' v xss) (hU : U ≤ U') : RowsU w U' e e' v xss := by
  obtain ⟨rs, h1, h2, h3⟩ := h
  exact ⟨rs, ⟨h1.1, fun k hk => Nat.lt_of_lt_of_le (h1.2 k hk) hU⟩, h2, fun i r hr => ⟨(h3 i r hr).1, fun k hk => Nat.lt_of_lt_of_le ((h3 i r hr).2 k hk) hU⟩⟩
theorem RowsU.rows (h : RowsU w U e e' v xss) : Rows w e e' v xss := by
  obtain ⟨rs, h1, h2, h3⟩ := h
  exact ⟨rs, h1.1, h2, fun i r hr => (h3 i r hr).1⟩
theorem RowsU.of (h : OwnRows w B w.heap.size e e' v xss) : RowsU w w.heap.size e e' v xss := by
  obtain ⟨rs, h1, h2, h3, h4⟩ := h
  exact ⟨rs, ⟨h1.row, fun k hk => (h1.lt k hk).2⟩, h2, fun i r hr => ⟨(h3 i r hr).1.row, (h3 i r hr).2⟩⟩
theorem Own3.nil (w : World) (B U : Nat) (e3 e2 e1 : TypeId) {v : Value} (h : Own w B e3 v []) : Own3 w B U e3 e2 e1 v [] := ⟨[], h, rfl, by simp⟩
theorem Own3.now (h : Own3 w B U e3 e2 e1 v xsss) (hU : U ≤ w.heap.size := by omega) : Own3 w B w.heap.size e3 e2 e1 v xsss := by
  obtain ⟨rs, h1, h2, h3⟩ := h
  exact ⟨rs, h1, h2, fun i r hr => (h3 i r hr).up hU⟩
theorem OwnRows.nil' (w : World) (B U : Nat) (e e' : TypeId) {v : Value} (h : Own w B e v []) : OwnRows w B U e e' v [] := ⟨[], h, rfl, by simp, by simp⟩
theorem Own3.ext (h : Own3 w B U e3 e2 e1 v xsss) (x : Ext w w') : Own3 w' B U e3 e2 e1 v xsss := by
  obtain ⟨rs, h1, h2, h3⟩ := h
  exact ⟨rs, h1.ext x, h2, fun i r hr => (h3 i r hr).ext x⟩
theorem Own3.apart {B' : Nat} {t : TypeId} {u : Value} {us : List Value} (h : Own3 w B U e3 e2 e1 v xsss) (ho : Own w B' t u us) (hg : w.grownBy w' u.ownBlock) (hB : U ≤ B') (hne : t ≠ e3) : Own3 w' B U e3 e2 e1 v xsss := by
  obtain ⟨rs, h1, h2, h3⟩ := h
  refine ⟨rs, h1.owned ho hg hne, h2, fun i r hr => ?_⟩
  rcases ho.cases with ⟨rfl, rfl⟩ | ⟨g, cap, cs, rfl, hg', hb, _⟩
  · exact (h3 i r hr).ext (Ext.of_grown hg)
  · exact (h3 i r hr).apart (g := g) hg (Nat.le_trans hB hg')
theorem Own3.read (h : Own3 w B U e3 e2 e1 v xsss) : Read3 w e3 e2 e1 v xsss := by
  obtain ⟨rs, h1, h2, h3⟩ := h
  exact ⟨rs, h1.row, h2, fun i r hr => (h3 i r hr).rows⟩
/-- One more. -/
theorem Own3.open (h : Own3 w B U e3 e2 e1 v xsss) (hne : e3 ≠ e2) (hne' : e3 ≠ e1) : ∃ rs, Own w B e3 v rs ∧ rs.length = xsss.length ∧
    ∀ r xss w1 v' w', Ext w w1 → RowsU w1 w1.heap.size e2 e1 r xss → U ≤ w1.heap.size → Own w' B e3 v' (rs ++ [r]) → w1.grownBy w' v.ownBlock → Own3 w' B w'.heap.size e3 e2 e1 v' (xsss ++ [xss]) := by
  obtain ⟨rs, h1, h2, h3⟩ := h
  refine ⟨rs, h1, h2, fun r xss w1 v' w' x hr hU hv hg => ?_⟩
  have hv1 := h1.ext x
  have hsz := World.grownBy.size hg
  refine ⟨rs ++ [r], hv, by simp [h2], fun i q hq => ?_⟩
  rcases Nat.lt_or_ge i rs.length with hi | hi
  · rw [List.getElem?_append_left hi] at hq
    have e4 : (xsss ++ [xss]).getD i [] = xsss.getD i [] := by
      rw [List.getD_eq_getElem?_getD, List.getElem?_append_left (by omega), ← List.getD_eq_getElem?_getD]
    rw [e4]
    exact (((h3 i q hq).ext x).other hv1 hg hne hne').up (by omega)
  · have hi2 := (List.getElem?_eq_some_iff.1 hq).1
    rw [List.length_append, List.length_singleton] at hi2
    obtain rfl : i = rs.length := by omega
    rw [List.getElem?_append_right (Nat.le_refl _), Nat.sub_self] at hq
    have hq' : r = q := by simpa using hq
    subst hq'
    have e4 : (xsss ++ [xss]).getD rs.length [] = xss := by
      rw [h2, List.getD_eq_getElem?_getD, List.getElem?_append_right (Nat.le_refl _), Nat.sub_self]; rfl
    rw [e4]
    exact (hr.other hv1 hg hne hne').up hsz
theorem Read3.ext (h : Read3 w e3 e2 e1 v xsss) (x : Ext w w') : Read3 w' e3 e2 e1 v xsss := by
  obtain ⟨rs, h1, h2, h3⟩ := h
  exact ⟨rs, h1.ext x, h2, fun i r hr => (h3 i r hr).ext x⟩
theorem Read3.at (h : Read3 w e3 e2 e1 v xsss) {i : Int} (hi : 0 ≤ i) (hlt : i.toNat < xsss.length) : ∃ p r, At w e3 v i p r ∧ Rows w e2 e1 r (xsss.getD i.toNat []) := by
  obtain ⟨rs, h1, h2, h3⟩ := h
  have hl : i.toNat < rs.length := by omega
  obtain ⟨p, hp⟩ := h1.at hi hl
  exact ⟨p, rs[i.toNat], hp, h3 _ _ (List.getElem?_eq_getElem hl)⟩
end
/-! the numbers of nodes -/
def szs (as : List A) : List Int := as.map fun a => (a.next.length : Int)
def prodFrom (ss : List Int) (i : Nat) : Int := (ss.drop i).foldr (· * ·) 1
def decL (ss : List Int) (q : Int) : List Int := (List.range ss.length).map fun i => q / prodFrom ss (i + 1) % ss.getD i 0
def decTo (ss : List Int) (q : Int) (m : Nat) : List Int := (List.range ss.length).map fun i => if i < m then 0 else q / prodFrom ss (i + 1) % ss.getD i 0
def encTo (ss st : List Int) : Nat → Int
  | 0 => 0
  | k + 1 => encTo ss st k * ss.getD k 0 + st.getD k 0
def goL (as : List A) (st : List Int) (x : Int) : List Int := (List.range as.length).map fun i => goA (as.getD i zeroA) (st.getD i 0) x
def fN (as : List A) (q x : Int) : Int := encTo (szs as) (goL as (decL (szs as) q) x) as.length
def foundN (kd gl : Int) (as : List A) (st : List Int) : Bool :=
  if kd = 0 then accA (as.getD 0 zeroA) (st.getD 0 0) else if kd = 1 then accA (as.getD 0 zeroA) (st.getD 0 0) != accA (as.getD 1 zeroA) (st.getD 1 0)
  else if kd = 2 then accA (as.getD 0 zeroA) (st.getD 0 0) && !accA (as.getD 1 zeroA) (st.getD 1 0) else decide (st.getD 0 0 = gl)
/-- One or two automata, all good. -/
def NetOk (as : List A) : Prop := (1 ≤ as.length ∧ as.length ≤ 2) ∧ ∀ a ∈ as, validA a = true
def KindOk (kd : Int) (as : List A) : Prop := kd = 0 ∨ kd = 5 ∨ ((kd = 1 ∨ kd = 2) ∧ as.length = 2)
theorem szs_length (as : List A) : (szs as).length = as.length := by simp [szs]
theorem szs_at {as : List A} {k : Nat} (h : k < as.length) : (szs as).getD k 0 = ((as.getD k zeroA).next.length : Int) := by
  simp [szs, List.getD_eq_getElem?_getD, h]
theorem net_at {as : List A} (h : NetOk as) {k : Nat} (hk : k < as.length) : as[k]? = some (as.getD k zeroA) ∧ validA (as.getD k zeroA) = true ∧ 1 ≤ (as.getD k zeroA).next.length ∧ (as.getD k zeroA).next.length ≤ 12 ∧ (as.getD k zeroA).acc.length = (as.getD k zeroA).next.length := by
  have e : as[k]? = some (as.getD k zeroA) := by rw [List.getD_eq_getElem?_getD, List.getElem?_eq_getElem hk]; rfl
  have hv := h.2 _ (List.mem_of_getElem? e)
  have := (validA_spec.1 hv).2
  exact ⟨e, hv, by omega, by omega, by omega⟩
/-- Sizes from 1 to 12, at most two. -/
def SzOk (ss : List Int) : Prop := ss.length ≤ 2 ∧ ∀ k, k < ss.length → 1 ≤ ss.getD k 0 ∧ ss.getD k 0 ≤ 12
theorem szs_ok {as : List A} (h : NetOk as) : SzOk (szs as) := ⟨by rw [szs_length]; exact h.1.2, fun k hk => by
  rw [szs_length] at hk
  have := net_at h hk
  rw [szs_at hk]
  omega⟩
theorem prodFrom_step {ss : List Int} {i : Nat} (h : i < ss.length) : prodFrom ss i = ss.getD i 0 * prodFrom ss (i + 1) := by
  unfold prodFrom
  rw [List.drop_eq_getElem_cons h, List.foldr_cons, List.getD_eq_getElem?_getD, List.getElem?_eq_getElem h]
  rfl
theorem prodFrom_end {ss : List Int} {i : Nat} (h : ss.length ≤ i) : prodFrom ss i = 1 := by
  unfold prodFrom
  rw [List.drop_of_length_le h]
  rfl
theorem prodFrom_pos {ss : List Int} (h : SzOk ss) (i : Nat) : 1 ≤ prodFrom ss i ∧ prodFrom ss i ≤ 144 := by
  have h0 : ∀ i, 1 ≤ i → 1 ≤ prodFrom ss i ∧ prodFrom ss i ≤ 12 := fun i hi => by
    rcases Nat.lt_or_ge i ss.length with hl | hl
    · rw [prodFrom_step hl, prodFrom_end (i := i + 1) (by have := h.1; omega), Int.mul_one]
      exact h.2 i hl
    · rw [prodFrom_end hl]; omega
  rcases Nat.eq_zero_or_pos i with rfl | hi
  · rcases Nat.lt_or_ge 0 ss.length with hl | hl
    · rw [prodFrom_step hl]
      have h1 := h.2 0 hl
      have h2 : 1 ≤ prodFrom ss (0 + 1) ∧ prodFrom ss (0 + 1) ≤ 12 := h0 1 (Nat.le_refl _)
      have h3 : 1 * 1 ≤ ss.getD 0 0 * prodFrom ss (0 + 1) := Int.mul_le_mul h1.1 h2.1 (by omega) (by omega)
      have h4 : ss.getD 0 0 * prodFrom ss (0 + 1) ≤ 12 * 12 := Int.mul_le_mul h1.2 h2.2 (by omega) (by omega)
      omega
    · rw [prodFrom_end hl]; omega
  · have := h0 i hi; omega
theorem decTo_zero (ss : List Int) (q : Int) : decTo ss q 0 = decL ss q := by simp [decTo, decL]
theorem decTo_all {ss : List Int} (q : Int) {m : Nat} (h : ss.length ≤ m) : decTo ss q m = List.replicate ss.length 0 := by
  apply List.ext_getElem
  · simp [decTo]
  · intro i h1 h2
    have : i < m := by simp [decTo] at h1; omega
    simp [decTo, this]
theorem decTo_length (ss : List Int) (q : Int) (m : Nat) : (decTo ss q m).length = ss.length := by simp [decTo]
theorem decL_length (ss : List Int) (q : Int) : (decL ss q).length = ss.length := by simp [decL]
theorem decTo_step {ss : List Int} {q : Int} {m : Nat} (h : m < ss.length) : (decTo ss q (m + 1)).set m (q / prodFrom ss (m + 1) % ss.getD m 0) = decTo ss q m := by
  apply List.ext_getElem
  · simp [decTo]
  · intro i h1 h2
    rw [List.getElem_set]
    by_cases hi : m = i
    · subst hi
      simp [decTo]
    · by_cases hl : i < m
      · simp [decTo, hi, hl, Nat.lt_succ_of_lt hl]
      · have hl2 : ¬ i < m + 1 := by omega
        simp [decTo, hi, hl, hl2]
theorem prod_node {ss : List Int} {q : Int} {m : Nat} (h : m < ss.length) (hs : SzOk ss) : q / prodFrom ss (m + 1) / ss.getD m 0 = q / prodFrom ss m := by
  rw [Int.ediv_ediv, if_neg (by have := prodFrom_pos hs (m + 1); omega), Int.sub_zero, prodFrom_step h, Int.mul_comm]
theorem node_bd {ss : List Int} {q : Int} (hs : SzOk ss) (hq : 0 ≤ q ∧ q ≤ 1000) (m : Nat) : 0 ≤ q / prodFrom ss m ∧ q / prodFrom ss m ≤ 1000 := by
  have h1 := prodFrom_pos hs m
  have h2 : 0 ≤ q / prodFrom ss m := Int.ediv_nonneg hq.1 (by omega)
  have h3 := Int.ediv_le_self (a := q) (prodFrom ss m) hq.1
  omega
/-- States below the sizes. -/
def StOk (ss st : List Int) : Prop := ∀ k, k < ss.length → 0 ≤ st.getD k 0 ∧ st.getD k 0 < ss.getD k 0
theorem enc_bd {ss st : List Int} (hs : SzOk ss) (h : StOk ss st) {k : Nat} (hk : k < ss.length) : 0 ≤ encTo ss st k ∧ encTo ss st k ≤ 11 ∧ 0 ≤ encTo ss st k * ss.getD k 0 ∧ encTo ss st k * ss.getD k 0 ≤ 132 := by
  have h2 := hs.2 k hk
  have key : 0 ≤ encTo ss st k ∧ encTo ss st k ≤ 11 := by
    cases k with
    | zero => exact ⟨Int.le_refl _, by show (0 : Int) ≤ 11; decide⟩
    | succ k =>
      have : k = 0 := by have := hs.1; omega
      subst this
      have h3 := h 0 (by omega)
      have h4 := hs.2 0 (by omega)
      show 0 ≤ 0 * _ + st.getD 0 0 ∧ 0 * _ + st.getD 0 0 ≤ 11
      rw [Int.zero_mul, Int.zero_add]
      omega
  have h3 : 0 ≤ encTo ss st k * ss.getD k 0 := Int.mul_nonneg key.1 (by omega)
  have h4 : encTo ss st k * ss.getD k 0 ≤ 11 * 12 := Int.mul_le_mul key.2 h2.2 (by omega) (by omega)
  exact ⟨key.1, key.2, h3, by omega⟩
theorem decL_at {ss : List Int} {q : Int} {k : Nat} (h : k < ss.length) : (decL ss q).getD k 0 = q / prodFrom ss (k + 1) % ss.getD k 0 := by
  simp [decL, List.getD_eq_getElem?_getD, h]
theorem decL_ok {ss : List Int} (hs : SzOk ss) (q : Int) : StOk ss (decL ss q) := fun k hk => by
  have h2 := hs.2 k hk
  rw [decL_at hk]
  exact ⟨Int.emod_nonneg _ (by omega), Int.emod_lt_of_pos _ (by omega)⟩
theorem goL_at {as : List A} {st : List Int} {x : Int} {k : Nat} (h : k < as.length) : (goL as st x).getD k 0 = goA (as.getD k zeroA) (st.getD k 0) x := by
  simp [goL, List.getD_eq_getElem?_getD, h]
theorem st_at {as : List A} {st : List Int} (h : StOk (szs as) st) {k : Nat} (hk : k < as.length) : 0 ≤ st.getD k 0 ∧ st.getD k 0 < ((as.getD k zeroA).next.length : Int) := by
  have := h k (by rw [szs_length]; exact hk)
  rw [szs_at hk] at this
  exact this
theorem goL_ok {as : List A} (h : NetOk as) {st : List Int} (hst : StOk (szs as) st) {x : Int} (hx : 0 ≤ x ∧ x < 6) : StOk (szs as) (goL as st x) := fun k hk => by
  rw [szs_length] at hk
  rw [goL_at hk, szs_at hk]
  exact goA_in (net_at h hk).2.1 (st_at hst hk) hx
theorem enc_lt {ss st : List Int} (hs : SzOk ss) (h : StOk ss st) (h1 : 1 ≤ ss.length) : 0 ≤ encTo ss st ss.length ∧ encTo ss st ss.length < prodFrom ss 0 := by
  rcases Nat.lt_or_ge 1 ss.length with h2 | h2
  · have hl : ss.length = 2 := by have := hs.1; omega
    have a0 := h 0 (by omega)
    have a1 := h 1 (by omega)
    have b0 := hs.2 0 (by omega)
    have b1 := hs.2 1 (by omega)
    rw [hl, prodFrom_step (by omega), prodFrom_step (by omega), prodFrom_end (by omega), Int.mul_one]
    show 0 ≤ (0 * ss.getD 0 0 + st.getD 0 0) * ss.getD 1 0 + st.getD 1 0 ∧ (0 * ss.getD 0 0 + st.getD 0 0) * ss.getD 1 0 + st.getD 1 0 < ss.getD 0 0 * ss.getD (0 + 1) 0
    rw [Int.zero_mul, Int.zero_add]
    have c1 : 0 ≤ st.getD 0 0 * ss.getD 1 0 := Int.mul_nonneg a0.1 (by omega)
    have c2 : (st.getD 0 0 + 1) * ss.getD 1 0 ≤ ss.getD 0 0 * ss.getD 1 0 := Int.mul_le_mul_of_nonneg_right (by omega) (by omega)
    rw [Int.add_mul, Int.one_mul] at c2
    show 0 ≤ st.getD 0 0 * ss.getD 1 0 + st.getD 1 0 ∧ st.getD 0 0 * ss.getD 1 0 + st.getD 1 0 < ss.getD 0 0 * ss.getD 1 0
    omega
  · have hl : ss.length = 1 := by omega
    have a0 := h 0 (by omega)
    rw [hl, prodFrom_step (by omega), prodFrom_end (by omega), Int.mul_one]
    show 0 ≤ 0 * ss.getD 0 0 + st.getD 0 0 ∧ 0 * ss.getD 0 0 + st.getD 0 0 < ss.getD 0 0
    rw [Int.zero_mul, Int.zero_add]
    omega
def total (as : List A) : Nat := (prodFrom (szs as) 0).toNat
theorem total_bd {as : List A} (h : NetOk as) : 1 ≤ total as ∧ total as ≤ 144 ∧ ((total as : Nat) : Int) = prodFrom (szs as) 0 := by
  have := prodFrom_pos (szs_ok h) 0
  unfold total
  omega
theorem fN_in {as : List A} (h : NetOk as) (q : Int) {x : Int} (hx : 0 ≤ x ∧ x < 6) : 0 ≤ fN as q x ∧ fN as q x < (total as : Int) := by
  have h1 := enc_lt (szs_ok h) (goL_ok h (decL_ok (szs_ok h) q) hx) (by rw [szs_length]; exact h.1.1)
  rw [szs_length] at h1
  rw [(total_bd h).2.2]
  exact h1
def prodTo (ss : List Int) (k : Nat) : Int := (ss.take k).foldl (· * ·) 1
theorem prodTo_succ {ss : List Int} {k : Nat} (h : k < ss.length) : prodTo ss (k + 1) = prodTo ss k * ss.getD k 0 := by
  unfold prodTo
  rw [take_snoc 0 h, List.foldl_append]
  rfl
theorem prodTo_bd {ss : List Int} (hs : SzOk ss) {k : Nat} (hk : k < ss.length) : 1 ≤ prodTo ss k ∧ prodTo ss k ≤ 12 ∧ 0 ≤ prodTo ss k * ss.getD k 0 ∧ prodTo ss k * ss.getD k 0 ≤ 144 := by
  have h2 := hs.2 k hk
  have key : 1 ≤ prodTo ss k ∧ prodTo ss k ≤ 12 := by
    cases k with
    | zero => show (1 : Int) ≤ 1 ∧ (1 : Int) ≤ 12; decide
    | succ k =>
      have : k = 0 := by have := hs.1; omega
      subst this
      rw [prodTo_succ (by omega)]
      have h4 := hs.2 0 (by omega)
      show 1 ≤ 1 * _ ∧ 1 * _ ≤ 12
      rw [Int.one_mul]
      exact h4
  have h3 : 0 ≤ prodTo ss k * ss.getD k 0 := Int.mul_nonneg (by omega) (by omega)
  have h4 : prodTo ss k * ss.getD k 0 ≤ 12 * 12 := Int.mul_le_mul key.2 h2.2 (by omega) (by omega)
  exact ⟨key.1, key.2, h3, by omega⟩
theorem foldl_mul (l : List Int) : ∀ (c : Int), l.foldl (· * ·) c = c * l.foldr (· * ·) 1 := by
  induction l with
  | nil => intro c; simp
  | cons x l ih => intro c; rw [List.foldl_cons, ih, List.foldr_cons, Int.mul_assoc]
theorem prodTo_all {ss : List Int} {k : Nat} (h : ss.length ≤ k) : prodTo ss k = prodFrom ss 0 := by
  unfold prodTo prodFrom
  rw [List.take_of_length_le h, foldl_mul, Int.one_mul, List.drop_zero]
/-! distances in rounds -/
def movesN (as : List A) (L : List Int) : List (List (List Int)) := (List.range (total as)).map fun (q : Nat) => L.map fun x => [fN as (q : Int) x]
theorem moves_at {as : List A} {L : List Int} {q : Int} (hq : 0 ≤ q ∧ q < (total as : Int)) : (movesN as L).getD q.toNat [] = L.map fun x => [fN as q x] := by
  have h : q.toNat < total as := by omega
  have e : ((q.toNat : Nat) : Int) = q := Int.toNat_of_nonneg hq.1
  simp [movesN, List.getD_eq_getElem?_getD, h, e]
section
variable {f : Int → Int → Int} {L : List Int} {G : Int → Bool} {n : Nat}
/-- In round d + 1: below i what was found, from i on what was. -/
def dsAt (f : Int → Int → Int) (L : List Int) (G : Int → Bool) (n d i : Nat) : List Int := (List.range n).map fun (q : Nat) => if q < i then disTo f L G (d + 1) (q : Int) else disTo f L G d (q : Int)
def dsOf (f : Int → Int → Int) (L : List Int) (G : Int → Bool) (n d : Nat) : List Int := (List.range n).map fun (q : Nat) => disTo f L G d (q : Int)
theorem dsAt_zero (d : Nat) : dsAt f L G n d 0 = dsOf f L G n d := by simp [dsAt, dsOf]
theorem dsAt_all {d i : Nat} (h : n ≤ i) : dsAt f L G n d i = dsOf f L G n (d + 1) := by
  unfold dsAt dsOf
  refine List.map_congr_left fun q hq => ?_
  have := List.mem_range.1 hq
  rw [if_pos (by omega)]
theorem dsAt_length (d i : Nat) : (dsAt f L G n d i).length = n := by simp [dsAt]
theorem dsOf_length (d : Nat) : (dsOf f L G n d).length = n := by simp [dsOf]
theorem dsAt_get {d i : Nat} {q : Int} (hq : 0 ≤ q ∧ q < n) : (dsAt f L G n d i).getD q.toNat 0 = if q.toNat < i then disTo f L G (d + 1) q else disTo f L G d q := by
  have h : q.toNat < n := by omega
  have e : ((q.toNat : Nat) : Int) = q := Int.toNat_of_nonneg hq.1
  simp [dsAt, List.getD_eq_getElem?_getD, h, e]
theorem dsOf_get {d : Nat} {q : Int} (hq : 0 ≤ q ∧ q < n) : (dsOf f L G n d).getD q.toNat 0 = disTo f L G d q := by
  have h : q.toNat < n := by omega
  have e : ((q.toNat : Nat) : Int) = q := Int.toNat_of_nonneg hq.1
  simp [dsOf, List.getD_eq_getElem?_getD, h, e]
theorem dsAt_keep {d i : Nat} (h : disTo f L G (d + 1) (i : Int) = disTo f L G d (i : Int)) : dsAt f L G n d (i + 1) = dsAt f L G n d i := by
  unfold dsAt
  refine List.map_congr_left fun q hq => ?_
  by_cases hi : q = i
  · subst hi
    rw [if_pos (by omega), if_neg (by omega), h]
  · by_cases hl : q < i
    · rw [if_pos (by omega), if_pos hl]
    · rw [if_neg (by omega), if_neg hl]
theorem dsAt_set {d i : Nat} (hi : i < n) : (dsAt f L G n d i).set i (disTo f L G (d + 1) (i : Int)) = dsAt f L G n d (i + 1) := by
  apply List.ext_getElem
  · simp [dsAt]
  · intro j h1 h2
    rw [List.getElem_set]
    by_cases hj : i = j
    · subst hj
      simp [dsAt]
    · by_cases hl : j < i
      · simp [dsAt, hj, hl, Nat.lt_succ_of_lt hl]
      · have hl2 : ¬ j < i + 1 := by omega
        simp [dsAt, hj, hl, hl2]
/-- Whether a node is seen as at the distance d does not hang on how far the round is. -/
theorem dis_same {d : Nat} (t : Int) : disTo f L G (d + 1) t = (d : Int) ↔ disTo f L G d t = (d : Int) := by
  rw [disTo_eq, disTo_eq]
  constructor
  · rintro ⟨_, h⟩; exact ⟨Nat.le_refl _, h⟩
  · rintro ⟨_, h⟩; exact ⟨Nat.le_succ _, h⟩
theorem any_same {α : Type} {p q : α → Bool} : ∀ {l : List α}, (∀ x ∈ l, p x = q x) → l.any p = l.any q
  | [], _ => rfl
  | x :: l, h => by rw [List.any_cons, List.any_cons, h x (by simp), any_same fun y hy => h y (by simp [hy])]
def nearX (ds : List Int) (xss : List (List Int)) (d : Int) : Bool := xss.any fun r => r.any fun x => decide (ds.getD x.toNat 0 = d)
theorem near_yes {ds : List Int} {xss : List (List Int)} {d : Int} {k i : Nat} (hk : k < xss.length) (hi : i < (xss.getD k []).length) (h : ds.getD ((xss.getD k []).getD i 0).toNat 0 = d) : nearX ds xss d = true :=
  List.any_eq_true.2 ⟨_, getD_mem hk, List.any_eq_true.2 ⟨_, getD_mem hi, decide_eq_true h⟩⟩
theorem nearX_eq {d i : Nat} (hf : ∀ q l, l ∈ L → 0 ≤ f q l ∧ f q l < n) (q : Int) : nearX (dsAt f L G n d i) (L.map fun x => [f q x]) (d : Int) = near f L G d q := by
  unfold nearX near
  rw [List.any_map]
  have h : ∀ l ∈ L, ((fun r => List.any r fun x => decide ((dsAt f L G n d i).getD x.toNat 0 = (d : Int))) ∘ fun x => [f q x]) l = decide (disTo f L G d (f q l) = (d : Int)) := fun l hl => by
    have hl2 := hf q l hl
    simp only [Function.comp, List.any_cons, List.any_nil, Bool.or_false]
    rw [dsAt_get hl2]
    by_cases hi : (f q l).toNat < i
    · rw [if_pos hi]
      by_cases hd : disTo f L G d (f q l) = (d : Int)
      · rw [decide_eq_true hd, decide_eq_true (dis_same _ |>.2 hd)]
      · rw [decide_eq_false hd, decide_eq_false (fun hc => hd (dis_same _ |>.1 hc))]
    · rw [if_neg hi]
  exact any_same h
theorem dsOf_init : dsOf f L G n 0 = (List.range n).map fun (q : Nat) => if G (q : Int) then (0 : Int) else -1 := by
  unfold dsOf
  exact List.map_congr_left fun q _ => disTo_zero
theorem moves_f {q : Int} (hq : 0 ≤ q ∧ q < n) : ((List.range n).map fun (q : Nat) => L.map fun x => [f (q : Int) x]).getD q.toNat [] = L.map fun x => [f q x] := by
  have h : q.toNat < n := by omega
  have e : ((q.toNat : Nat) : Int) = q := Int.toNat_of_nonneg hq.1
  simp [List.getD_eq_getElem?_getD, h, e]
theorem mv_ok (hf : ∀ q l, l ∈ L → 0 ≤ f q l ∧ f q l < n) (hLl : L.length ≤ 100) {d i : Nat} {q : Int} (hq : 0 ≤ q ∧ q < n) : ∀ r ∈ ((List.range n).map fun (q : Nat) => L.map fun x => [f (q : Int) x]).getD q.toNat [], r.length ≤ 1000 ∧ ∀ x ∈ r, 0 ≤ x ∧ x < ((dsAt f L G n d i).length : Int) := by
  rw [moves_f hq, dsAt_length]
  intro r hr
  obtain ⟨x, hx, rfl⟩ := List.mem_map.1 hr
  refine ⟨by simp, fun y hy => ?_⟩
  rw [List.mem_singleton.1 hy]
  exact hf q x hx
theorem dsOf_same {d : Nat} (h : ∀ j : Nat, j < n → disTo f L G (d + 1) (j : Int) = disTo f L G d (j : Int)) : dsOf f L G n (d + 1) = dsOf f L G n d := List.map_congr_left fun q hq => h q (List.mem_range.1 hq)
theorem dis_all {d : Nat} (h : ∀ j : Nat, j < n → disTo f L G (d + 1) (j : Int) = disTo f L G d (j : Int)) : ∀ q, 0 ≤ q ∧ q < (n : Int) → disTo f L G (d + 1) q = disTo f L G d q := fun q hq => by
  have := h q.toNat (by omega)
  rwa [Int.toNat_of_nonneg hq.1] at this
theorem dis_more {d k k' : Nat} {i : Int} (ei : ((k : Nat) : Int) = i) (h : ∀ j : Nat, j < k → disTo f L G (d + 1) (j : Int) = disTo f L G d (j : Int)) (h2 : disTo f L G (d + 1) (k : Int) = disTo f L G d (k : Int)) (e : k' = k + 1) : ∀ j : Nat, j < k' → disTo f L G (d + 1) (j : Int) = disTo f L G d (j : Int) := fun j hj => by
  rcases Nat.lt_or_ge j k with h3 | h3
  · exact h j h3
  · obtain rfl : j = k := by omega
    exact h2
/-- Those not yet found. -/
def todo (f : Int → Int → Int) (L : List Int) (G : Int → Bool) (n d i : Nat) : Nat := (dsAt f L G n d i).countP fun x => decide (x < 0)
theorem dsAt_split {d i : Nat} (hi : i < n) : dsAt f L G n d i = (dsAt f L G n d i).take i ++ disTo f L G d (i : Int) :: (dsAt f L G n d i).drop (i + 1) := by
  have h1 : i < (dsAt f L G n d i).length := by rw [dsAt_length]; exact hi
  have e1 : dsAt f L G n d i = (dsAt f L G n d i).take i ++ (dsAt f L G n d i).drop i := (List.take_append_drop i _).symm
  have e2 : (dsAt f L G n d i).drop i = disTo f L G d (i : Int) :: (dsAt f L G n d i).drop (i + 1) := by
    rw [List.drop_eq_getElem_cons h1]
    congr 1
    simp [dsAt]
  rw [← e2]
  exact e1
theorem todo_keep {d i : Nat} (h : disTo f L G (d + 1) (i : Int) = disTo f L G d (i : Int)) : todo f L G n d (i + 1) = todo f L G n d i := by unfold todo; rw [dsAt_keep h]
theorem todo_less {d i : Nat} (hi : i < n) (h : disTo f L G d (i : Int) < 0) (h2 : 0 ≤ disTo f L G (d + 1) (i : Int)) : todo f L G n d (i + 1) + 1 = todo f L G n d i := by
  unfold todo
  have e1 := dsAt_split (f := f) (L := L) (G := G) (d := d) hi
  rw [← dsAt_set hi, e1, List.set_append_right _ _ (by rw [List.length_take, dsAt_length]; omega)]
  rw [List.length_take, dsAt_length, Nat.min_eq_left (by omega), Nat.sub_self, List.set_cons_zero]
  simp only [List.countP_append, List.countP_cons]
  rw [if_neg (by simp; omega), if_pos (by simpa using h)]
  omega
theorem todo_round (d : Nat) (i : Nat) (h : n ≤ i) : todo f L G n d i = todo f L G n (d + 1) 0 := by unfold todo; rw [dsAt_all h, dsAt_zero]
theorem todo_le (d i : Nat) : todo f L G n d i ≤ n := by
  unfold todo
  refine Nat.le_trans List.countP_le_length ?_
  rw [dsAt_length]
  exact Nat.le_refl _
/-- The distances while they are laid. -/
def dsInit (G : Int → Bool) (n i : Nat) : List Int := (List.range n).map fun (q : Nat) => if q < i then (if G (q : Int) then 0 else -1) else 0
theorem dsInit_zero : dsInit G n 0 = List.replicate n 0 := by
  apply List.ext_getElem <;> simp [dsInit]
theorem dsInit_length (i : Nat) : (dsInit G n i).length = n := by simp [dsInit]
theorem dsInit_all {i : Nat} (h : n ≤ i) : dsInit G n i = dsOf f L G n 0 := by
  rw [dsOf_init]
  unfold dsInit
  refine List.map_congr_left fun q hq => ?_
  have := List.mem_range.1 hq
  rw [if_pos (by omega)]
theorem dsInit_set {i : Nat} (hi : i < n) {x : Int} (hx : x = if G (i : Int) then 0 else -1) : (dsInit G n i).set i x = dsInit G n (i + 1) := by
  apply List.ext_getElem
  · simp [dsInit]
  · intro j h1 h2
    rw [List.getElem_set]
    by_cases hj : i = j
    · subst hj
      simp [dsInit, hx]
    · by_cases hl : j < i
      · simp [dsInit, hj, hl, Nat.lt_succ_of_lt hl]
      · have hl2 : ¬ j < i + 1 := by omega
        simp [dsInit, hj, hl, hl2]
theorem dsInit_F {v : Int} {i : Nat} (hi : i < n) (hv : ((i : Nat) : Int) = v) (h : G v = false) : ((dsInit G n i).map (Value.int .i64)).set i (.int .i64 (-1)) = (dsInit G n (i + 1)).map (Value.int .i64) := by
  rw [← List.map_set, dsInit_set hi (by rw [hv, h]; rfl)]
theorem dsInit_T {v : Int} {i : Nat} (hi : i < n) (hv : ((i : Nat) : Int) = v) (h : G v = true) : (((dsInit G n i).map (Value.int .i64)).set i (.int .i64 (-1))).set i (.int .i64 0) = (dsInit G n (i + 1)).map (Value.int .i64) := by
  rw [List.set_set, ← List.map_set, dsInit_set hi (by rw [hv, h]; rfl)]
theorem disTo_next {d n : Nat} {q : Int} (h : disTo f L G d q = ((n + 1 : Nat) : Int)) : ∃ l ∈ L, disTo f L G d (f q l) = (n : Int) := by
  have h1 := disTo_eq.1 h
  obtain ⟨l, hl, hl2⟩ := List.any_eq_true.1 h1.2.1
  refine ⟨l, hl, disTo_eq.2 ⟨by omega, hl2, fun m hm => ?_⟩⟩
  cases hm2 : lev f L G m (f q l) with
  | false => rfl
  | true =>
    have h5 : lev f L G (m + 1) q = true := List.any_eq_true.2 ⟨l, hl, hm2⟩
    rw [h1.2.2 (m + 1) (by omega)] at h5
    cases h5
theorem find_first {α : Type} {p : α → Bool} {d : α} : ∀ {L : List α} {k : Nat}, k < L.length → (∀ j, j < k → p (L.getD j d) = false) → p (L.getD k d) = true → L.find? p = some (L.getD k d)
  | x :: L, 0, _, _, h => by
    have h' : p x = true := h
    rw [List.find?_cons_of_pos h']; rfl
  | x :: L, k + 1, hk, hno, h => by
    have h0 : p x = false := hno 0 (by omega)
    rw [List.find?_cons_of_neg (by rw [h0]; decide)]
    exact find_first (by simpa using hk) (fun j hj => hno (j + 1) (by omega)) h
theorem gre_next {dis : Int → Int} {m k : Nat} {q : Int} (hk : k < L.length) (hno : ∀ j, j < k → ¬ dis (f q (L.getD j 0)) = (m : Int)) (h : dis (f q (L.getD k 0)) = (m : Int)) : gre f L dis (m + 1) q = L.getD k 0 :: gre f L dis m (f q (L.getD k 0)) := by
  rw [gre, find_first (p := fun l => decide (dis (f q l) = (m : Int))) hk (fun j hj => decide_eq_false (hno j hj)) (decide_eq_true h)]
/-- Some letter comes nearer, and it is not among those tried. -/
theorem next_lt {d k : Nat} {q e : Int} (hq : disTo f L G d q = e) (he : 0 < e) (hno : ∀ j, j < k → ¬ disTo f L G d (f q (L.getD j 0)) = e - 1) : k < L.length := by
  obtain ⟨m, rfl⟩ : ∃ m : Nat, e = ((m + 1 : Nat) : Int) := ⟨(e - 1).toNat, by omega⟩
  obtain ⟨l, hl, h⟩ := disTo_next hq
  rcases Nat.lt_or_ge k L.length with h1 | h1
  · exact h1
  · obtain ⟨j, hj, rfl⟩ := List.getElem_of_mem hl
    refine absurd ?_ (hno j (by omega))
    rw [List.getD_eq_getElem?_getD, List.getElem?_eq_getElem hj]
    show disTo f L G d (f q L[j]) = _
    rw [h]
    omega
theorem disTo_le {d : Nat} {q : Int} : disTo f L G d q ≤ d := by
  rcases disTo_cases (f := f) (L := L) (G := G) d q with h | ⟨n, h, h2⟩ <;> omega
theorem ord_range {s : Int} (hf : ∀ q l, l ∈ L → 0 ≤ f q l ∧ f q l < (n : Int)) (hs : 0 ≤ s ∧ s < (n : Int)) : (ord f s L).length ≤ n := by
  have h := bfsw_range (f := f) (s := s) (L := L) (n := n) (D := fun q => 0 ≤ q ∧ q < (n : Int)) hs (fun q _ x hx => hf q x hx) (fun q hq => hq) (many 0)
  rw [bfsw_length] at h
  exact h
theorem row_get {q : Int} {k : Nat} (hk : k < L.length) : (L.map fun x => [f q x]).getD k [] = [f q (L.getD k 0)] := by
  simp [List.getD_eq_getElem?_getD, hk]
end
theorem Ret.resW {P : Program} {k : FuncId} {args : Array Value} {w0 : World} {X Y : Option (List Int)} (h : Ret P k args w0 (fun v w => v = Go.Proofs.Ytdkdpmmfebdeaaa.resW X ∧ Ext w0 w)) (e : X = Y) : Ret P k args w0 (fun v w => v = Go.Proofs.Ytdkdpmmfebdeaaa.resW Y ∧ Ext w0 w) := by rw [← e]; exact h
/-! nets of one and of two -/
section
variable {w : World} {B : Nat} {AU SI I Bo : TypeId} {v nx ac nx' ac' : Value} {a b : A}
theorem NetA.of1 (hW : Wid w B AU 3 v [[.int .i64 a.al, nx, ac]]) (h1 : Rows w SI I nx a.next) (h2 : Bools w Bo ac a.acc) : NetA w AU SI I Bo v [a] :=
  ⟨B, _, hW, rfl, fun j x hx => by
    match j, hx with
    | 0, hx => obtain rfl : a = x := by simpa using hx
               exact ⟨nx, ac, rfl, h1, h2⟩
    | j + 1, hx => simp at hx⟩
theorem NetA.of2 (hW : Wid w B AU 3 v [[.int .i64 a.al, nx, ac], [.int .i64 b.al, nx', ac']]) (h1 : Rows w SI I nx a.next) (h2 : Bools w Bo ac a.acc) (h1' : Rows w SI I nx' b.next) (h2' : Bools w Bo ac' b.acc) : NetA w AU SI I Bo v [a, b] :=
  ⟨B, _, hW, rfl, fun j x hx => by
    match j, hx with
    | 0, hx => obtain rfl : a = x := by simpa using hx
               exact ⟨nx, ac, rfl, h1, h2⟩
    | 1, hx => obtain rfl : b = x := by simpa using hx
               exact ⟨nx', ac', rfl, h1', h2'⟩
    | j + 2, hx => simp at hx⟩
theorem netOk1 (h : validA a = true) : NetOk [a] := ⟨⟨Nat.le_refl _, by show 1 ≤ 2; decide⟩, fun x hx => by rw [List.mem_singleton.1 hx]; exact h⟩
theorem netOk2 (h : validA a = true) (h' : validA b = true) : NetOk [a, b] := ⟨⟨by show 1 ≤ 2; decide, Nat.le_refl _⟩, fun x hx => by
  rcases List.mem_cons.1 hx with rfl | hx
  · exact h
  · rw [List.mem_singleton.1 hx]; exact h'⟩
theorem stOk1 {i : Int} (h : 0 ≤ i ∧ i < a.next.length) : StOk (szs [a]) [i] := fun k hk => by
  have : k = 0 := by simp [szs] at hk; omega
  subst this
  exact h
theorem stOk2 {i j : Int} (h : 0 ≤ i ∧ i < a.next.length) (h' : 0 ≤ j ∧ j < b.next.length) : StOk (szs [a, b]) [i, j] := fun k hk => by
  have : k = 0 ∨ k = 1 := by simp [szs] at hk; omega
  rcases this with rfl | rfl
  · exact h
  · exact h'
theorem dec1 {q : Int} (h : 0 ≤ q ∧ q < a.next.length) : decL (szs [a]) q = [q] := by
  show [q / 1 % (a.next.length : Int)] = [q]
  rw [Int.ediv_one, Int.emod_eq_of_lt h.1 h.2]
theorem dec2 {p : Int × Int} (h : In2 a b p) : decL (szs [a, b]) (enc2 b p) = [p.1, p.2] := by
  show [enc2 b p / ((b.next.length : Int) * 1) % (a.next.length : Int), enc2 b p / 1 % (b.next.length : Int)] = [p.1, p.2]
  rw [Int.mul_one, Int.ediv_one, (enc_div h).1, (enc_div h).2, Int.emod_eq_of_lt h.1.1 h.1.2]
theorem fN1 {q l : Int} (h : 0 ≤ q ∧ q < a.next.length) : fN [a] q l = goA a q l := by
  unfold fN
  rw [dec1 h]
  show (0 : Int) * _ + goA a q l = goA a q l
  rw [Int.zero_mul, Int.zero_add]
theorem fN2 {p : Int × Int} {l : Int} (h : In2 a b p) : fN [a, b] (enc2 b p) l = enc2 b (step2 a b p l) := by
  unfold fN
  rw [dec2 h]
  show ((0 : Int) * _ + goA a p.1 l) * (b.next.length : Int) + goA b p.2 l = _
  rw [Int.zero_mul, Int.zero_add]
  rfl
theorem net1 {s : Int} {G : Int → Bool} {kd gl : Int} (hv : validA a = true) (hs : 0 ≤ s ∧ s < a.next.length) (hG : ∀ q, foundN kd gl [a] [q] = G q) : firstOf (fN [a]) (encTo (szs [a]) [s] (szs [a]).length) (letters a.al) (fun q => foundN kd gl [a] (decL (szs [a]) q)) = firstA a s G := by
  have e : encTo (szs [a]) [s] (szs [a]).length = id s := by show (0 : Int) * _ + s = s; rw [Int.zero_mul, Int.zero_add]
  rw [e]
  exact firstOf_map (P := fun q : Int => 0 ≤ q ∧ q < a.next.length) (g := id) (fun x y _ _ h => h) hs (fun q hq l hl => goA_in hv hq ⟨(mem_letters hl).1, (mem_letters hl).2.1⟩) (fun q hq l _ => fN1 hq) (fun q hq => by show foundN kd gl [a] (decL (szs [a]) q) = G q; rw [dec1 hq, hG])
theorem net2 {i j : Int} {g : Bool → Bool → Bool} {kd gl : Int} (hv : validA a = true) (hv' : validA b = true) (hp : In2 a b (i, j)) (hG : ∀ p q, foundN kd gl [a, b] [p, q] = g (accA a p) (accA b q)) : firstOf (fN [a, b]) (encTo (szs [a, b]) [i, j] (szs [a, b]).length) (letters a.al) (fun q => foundN kd gl [a, b] (decL (szs [a, b]) q)) = firstAB a b (i, j) g := by
  have e : encTo (szs [a, b]) [i, j] (szs [a, b]).length = enc2 b (i, j) := by
    show ((0 : Int) * _ + i) * (b.next.length : Int) + j = _
    rw [Int.zero_mul, Int.zero_add]; rfl
  rw [e]
  exact firstOf_map (P := In2 a b) (g := enc2 b) enc_inj hp (fun q hq l hl => in2 hv hv' hq ⟨(mem_letters hl).1, (mem_letters hl).2.1⟩) (fun q hq l _ => fN2 hq) (fun q hq => by show foundN kd gl [a, b] (decL (szs [a, b]) (enc2 b q)) = _; rw [dec2 hq, hG])
end
end Go.Proofs.Ytdkdpmmfebdeaaa
