/-
  Slices of the call's own that are written: stores through an index, rows of rows, 'make', tables of small arrays, clones. Nothing of any one program stands here.
-/
import Derived.Test.YtdkdpmmfebdeaaaDraw
import Derived.Lib.SliceRun
set_option linter.unusedSimpArgs false
set_option linter.unusedVariables false
namespace Go.Proofs.Ytdkdpmmfebdeaaa
open Go.RowKit

/-- Rows of numbers of the call's own, from block B on; the inner rows lie below U, no two in one block. -/
def OwnRows (w : World) (B U : Nat) (e e' : TypeId) (v : Value) (xss : List (List Int)) : Prop :=
  ∃ rs, Own w B e v rs ∧ rs.length = xss.length ∧ (∀ i r, rs[i]? = some r → Own w B e' r ((xss.getD i []).map (Value.int .i64)) ∧ ∀ k, r.ownBlock = some k → k < U) ∧
    ∀ (i j : Nat) (r r' : Value), rs[i]? = some r → rs[j]? = some r' → i ≠ j → ∀ k, r.ownBlock = some k → r'.ownBlock ≠ some k

section
variable {w w' : World} {B U : Nat} {e e' : TypeId} {v : Value} {xss : List (List Int)}

theorem OwnRows.nil (w : World) (B U : Nat) (e e' : TypeId) : OwnRows w B U e e' (.slice none 0 0) [] := ⟨[], Own.nil _ _ _, rfl, by simp, by simp⟩
theorem OwnRows.rows (h : OwnRows w B U e e' v xss) : Rows w e e' v xss := by
  obtain ⟨rs, h1, h2, h3, _⟩ := h
  exact ⟨rs, h1.row, h2, fun i r hr => (h3 i r hr).1.row⟩
theorem OwnRows.ext (h : OwnRows w B U e e' v xss) (x : Ext w w') : OwnRows w' B U e e' v xss := by
  obtain ⟨rs, h1, h2, h3, h4⟩ := h
  exact ⟨rs, h1.ext x, h2, fun i r hr => ⟨(h3 i r hr).1.ext x, (h3 i r hr).2⟩, h4⟩
theorem OwnRows.up {U' : Nat} (h : OwnRows w B U e e' v xss) (hU : U ≤ U') : OwnRows w B U' e e' v xss := by
  obtain ⟨rs, h1, h2, h3, h4⟩ := h
  exact ⟨rs, h1, h2, fun i r hr => ⟨(h3 i r hr).1, fun k hk => Nat.lt_of_lt_of_le ((h3 i r hr).2 k hk) hU⟩, h4⟩
theorem OwnRows.mono {B' : Nat} (h : OwnRows w B U e e' v xss) (hB : B' ≤ B) : OwnRows w B' U e e' v xss := by
  obtain ⟨rs, h1, h2, h3, h4⟩ := h
  exact ⟨rs, h1.mono hB, h2, fun i r hr => ⟨(h3 i r hr).1.mono hB, (h3 i r hr).2⟩, h4⟩
theorem OwnRows.now (h : OwnRows w B U e e' v xss) : OwnRows w B w.heap.size e e' v xss := by
  obtain ⟨rs, h1, h2, h3, h4⟩ := h
  exact ⟨rs, h1, h2, fun i r hr => ⟨(h3 i r hr).1, fun k hk => ((h3 i r hr).1.lt k hk).2⟩, h4⟩
theorem OwnRows.owned {B' : Nat} {t : TypeId} {u : Value} {us : List Value} (h : OwnRows w B U e e' v xss) (ho : Own w B' t u us) (hg : w.grownBy w' u.ownBlock) (hne : t ≠ e) (hne' : t ≠ e') : OwnRows w' B U e e' v xss := by
  obtain ⟨rs, h1, h2, h3, h4⟩ := h
  exact ⟨rs, h1.owned ho hg hne, h2, fun i r hr => ⟨(h3 i r hr).1.owned ho hg hne', (h3 i r hr).2⟩, h4⟩
theorem OwnRows.stored {g : Nat} {t : TypeId} {cs : List Value} (h : OwnRows w B U e e' v xss) (hg : w.grownBy w' (some g)) (hb : Blk w g t cs) (hne : t ≠ e) (hne' : t ≠ e') : OwnRows w' B U e e' v xss := by
  obtain ⟨rs, h1, h2, h3, h4⟩ := h
  exact ⟨rs, h1.stored hg hb hne, h2, fun i r hr => ⟨(h3 i r hr).1.stored hg hb hne', (h3 i r hr).2⟩, h4⟩
/-- A row that is written lies from U on: these rows do not. (Their element type may be the same.) -/
theorem OwnRows.apart {B' : Nat} {u : Value} {us : List Value} (h : OwnRows w B U e e' v xss) (ho : Own w B' e' u us) (hg : w.grownBy w' u.ownBlock) (hB : U ≤ B') (hne : e' ≠ e) : OwnRows w' B U e e' v xss := by
  obtain ⟨rs, h1, h2, h3, h4⟩ := h
  refine ⟨rs, h1.owned ho hg hne, h2, fun i r hr => ⟨(h3 i r hr).1.grown hg (fun k hk hc => ?_), (h3 i r hr).2⟩, h4⟩
  have := (h3 i r hr).2 k hk
  have := (ho.lt k hc).1
  omega

/-- One row more. -/
theorem OwnRows.open (h : OwnRows w B U e e' v xss) (hne : e ≠ e') : ∃ rs, Own w B e v rs ∧ rs.length = xss.length ∧
    ∀ r xs w1 v' w', Ext w w1 → Own w1 U e' r (xs.map (Value.int .i64)) → B ≤ U → Own w' B e v' (rs ++ [r]) → w1.grownBy w' v.ownBlock → OwnRows w' B w'.heap.size e e' v' (xss ++ [xs]) := by
  obtain ⟨rs, h1, h2, h3, h4⟩ := h
  refine ⟨rs, h1, h2, fun r xs w1 v' w' x hr hBU hv hg => ?_⟩
  have hv1 := h1.ext x
  have hr' := hr.owned hv1 hg hne
  have hrow : ∀ i q, (rs ++ [r])[i]? = some q → (rs[i]? = some q ∧ i < rs.length) ∨ (i = rs.length ∧ q = r) := by
    intro i q hq
    rw [List.getElem?_append] at hq
    split at hq
    · exact .inl ⟨hq, by assumption⟩
    · right
      have : i - rs.length = 0 := by
        rcases Nat.eq_zero_or_pos (i - rs.length) with h | h
        · exact h
        · rw [List.getElem?_eq_none (by simp; omega)] at hq; cases hq
      rw [this] at hq
      simp at hq
      exact ⟨by omega, hq.symm⟩
  refine ⟨rs ++ [r], hv, by simp [h2], fun i q hq => ?_, fun i j q q' hq hq' hij k hk hk' => ?_⟩
  · rcases hrow i q hq with ⟨hq, hlt⟩ | ⟨rfl, rfl⟩
    · have e1 : (xss ++ [xs]).getD i [] = xss.getD i [] := by
        simp [List.getElem?_append, show i < xss.length by omega]
      rw [e1]
      have ho := ((h3 i q hq).1.ext x).owned hv1 hg hne
      exact ⟨ho, fun k hk => (ho.lt k hk).2⟩
    · have e1 : (xss ++ [xs]).getD rs.length [] = xs := by
        simp [List.getElem?_append, h2]
      rw [e1]
      exact ⟨hr'.mono hBU, fun k hk => (hr'.lt k hk).2⟩
  · rcases hrow i q hq with ⟨hq1, _⟩ | ⟨hi1, hq1⟩ <;> rcases hrow j q' hq' with ⟨hq2, _⟩ | ⟨hj1, hq2⟩
    · exact h4 i j q q' hq1 hq2 hij k hk hk'
    · have a1 := (h3 i q hq1).2 k hk
      have a2 := (hr.lt k (hq2 ▸ hk')).1
      omega
    · have a1 := (h3 j q' hq2).2 k hk'
      have a2 := (hr.lt k (hq1 ▸ hk)).1
      omega
    · exact hij (by omega)

/-- The row that element i is. -/
theorem OwnRows.rowAt (h : OwnRows w B U e e' v xss) {i : Int} {p : Addr} {r : Value} (ha : At w e v i p r) : Own w B e' r ((xss.getD i.toNat []).map (Value.int .i64)) ∧ i.toNat < xss.length := by
  obtain ⟨rs, h1, h2, h3, h4⟩ := h
  obtain ⟨hc, ⟨b, o, c, n, rfl, rfl, h0, hn⟩, hty⟩ := ha
  rcases h1.cases with ⟨hv, _⟩ | ⟨g, cap, cs, hv, hB, hb, h5, h6, h7, h8⟩
  · simp at hv
  · simp only [Value.slice.injEq, Option.some.injEq, Addr.mk.injEq] at hv
    obtain ⟨⟨rfl, rfl, _⟩, rfl, rfl⟩ := hv
    rw [hb.cell] at hc
    have hlt : i.toNat < rs.length := by omega
    have : rs[i.toNat]? = some r := by
      rw [← h8, List.getElem?_take, if_pos hlt]
      simpa using hc
    exact ⟨(h3 _ _ this).1, by omega⟩

/-- One of the rows has been written. -/
theorem OwnRows.set (h : OwnRows w B U e e' v xss) (hne : e' ≠ e) {i : Int} {p : Addr} {r : Value} (ha : At w e v i p r) {ys : List Int} (hr : Own w' B e' r (ys.map (Value.int .i64))) (hg : w.grownBy w' r.ownBlock) :
    OwnRows w' B U e e' v (xss.set i.toNat ys) ∧ At w' e v i p r := by
  have hold := (h.rowAt ha).1
  obtain ⟨rs, h1, h2, h3, h4⟩ := h
  have h1' := h1.owned hold hg hne
  have hcell : w'.cell? p = w.cell? p := by
    obtain ⟨hc, ⟨b, o, c, n, rfl, rfl, h0, hn⟩, hty⟩ := ha
    rcases h1.cases with ⟨hv, _⟩ | ⟨g, cap, cs, hv, hB, hb, h5, h6, h7, h8⟩
    · simp at hv
    · simp only [Value.slice.injEq, Option.some.injEq, Addr.mk.injEq] at hv
      obtain ⟨⟨rfl, rfl, _⟩, rfl, rfl⟩ := hv
      rw [hb.cell, (hb.owned hold hg hne).cell]
  have hrs : rs[i.toNat]? = some r := by
    obtain ⟨hc, ⟨b, o, c, n, rfl, rfl, h0, hn⟩, hty⟩ := ha
    rcases h1.cases with ⟨hv, _⟩ | ⟨g, cap, cs, hv, hB, hb, h5, h6, h7, h8⟩
    · simp at hv
    · simp only [Value.slice.injEq, Option.some.injEq, Addr.mk.injEq] at hv
      obtain ⟨⟨rfl, rfl, _⟩, rfl, rfl⟩ := hv
      rw [hb.cell] at hc
      have hlt : i.toNat < rs.length := by omega
      rw [← h8, List.getElem?_take, if_pos hlt]
      simpa using hc
  refine ⟨⟨rs, h1', by simp [h2], fun j q hq => ?_, h4⟩, At.owned ha hold hg hne⟩
  by_cases hj : i.toNat = j
  · subst hj
    rw [hrs] at hq
    obtain rfl := Option.some.inj hq
    have hlt : i.toNat < xss.length := by
      have := (List.getElem?_eq_some_iff.1 hrs).1
      omega
    have e1 : (xss.set i.toNat ys).getD i.toNat [] = ys := by simp [hlt]
    rw [e1]
    exact ⟨hr, (h3 _ _ hrs).2⟩
  · have e1 : (xss.set i.toNat ys).getD j [] = xss.getD j [] := by simp [List.getElem?_set_ne hj]
    rw [e1]
    exact ⟨(h3 j q hq).1.grown hg (fun k hk hc => h4 i.toNat j r q hrs hq hj k hc hk), (h3 j q hq).2⟩
end

/-- A write into a block that is younger than w1. -/
theorem grown_new {w1 w w' : World} {r : Option Nat} {B : Nat} {e : TypeId} {v : Value} {vs : List Value} (x : w1.grownBy w r) (ho : Own w B e v vs) (g : w.grownBy w' v.ownBlock) (hB : w1.heap.size ≤ B) : w1.grownBy w' r :=
  ⟨g.os.trans x.os, g.tape.trans x.tape, g.output.trans x.output, Nat.le_trans x.size g.size, fun k hk hne =>
    (g.block k (Nat.lt_of_lt_of_le hk x.size) (fun hc => by have := (ho.lt k hc.symm).1; omega)).trans (x.block k hk hne)⟩

/-! ### Values of one cell -/
theorem one_nil : ∀ v ∈ ([] : List Value), v.oneCell' = true := fun _ h => by cases h
theorem one_cons {v : Value} {l : List Value} (h : v.oneCell' = true) (hs : ∀ u ∈ l, u.oneCell' = true) : ∀ u ∈ v :: l, u.oneCell' = true := fun u hu => by
  rcases List.mem_cons.1 hu with rfl | hu
  · exact h
  · exact hs u hu
theorem one_ints (xs : List Int) : ∀ v ∈ xs.map (Value.int .i64), v.oneCell' = true := fun v h => by obtain ⟨x, _, rfl⟩ := List.mem_map.1 h; rfl
theorem one_bools (xs : List Bool) : ∀ v ∈ xs.map Value.bool, v.oneCell' = true := fun v h => by obtain ⟨x, _, rfl⟩ := List.mem_map.1 h; rfl
theorem one_strs (xs : List ByteArray) : ∀ v ∈ xs.map Value.string, v.oneCell' = true := fun v h => by obtain ⟨x, _, rfl⟩ := List.mem_map.1 h; rfl
theorem one_bytes (xs : List UInt8) : ∀ v ∈ xs.map (fun b => Value.int .u8 b.toNat), v.oneCell' = true := fun v h => by obtain ⟨x, _, rfl⟩ := List.mem_map.1 h; rfl
theorem Row.one {w : World} {e : TypeId} {v : Value} {vs : List Value} (h : Row w e v vs) : v.oneCell' = true := by
  obtain ⟨p, c, rfl⟩ := h.shape
  rfl
theorem Rows.one {w : World} {e e' : TypeId} {v : Value} {xss : List (List Int)} (h : Rows w e e' v xss) : v.oneCell' = true := by
  obtain ⟨rs, h1, _⟩ := h
  exact h1.one

/-! ### Stores through an index -/
/-- The place of an element of a slice of the call's own. -/
def AtO (v : Value) (i : Int) (p : Addr) : Prop := ∃ g n c, v = .slice (some ⟨g, 0, none⟩) n c ∧ p = ⟨g, i.toNat, none⟩ ∧ 0 ≤ i ∧ i < (n : Nat)
theorem Own.at {w : World} {B : Nat} {e : TypeId} {v : Value} {vs : List Value} (h : Own w B e v vs) {i : Int} (hi : 0 ≤ i) (hlt : i.toNat < vs.length) : ∃ p, AtO v i p := by
  rcases h.cases with ⟨rfl, rfl⟩ | ⟨g, cap, cs, rfl, _⟩
  · cases hlt
  · exact ⟨⟨g, i.toNat, none⟩, g, vs.length, cap, rfl, rfl, hi, by omega⟩

theorem AtO.of {w : World} {B : Nat} {e : TypeId} {v u : Value} {vs : List Value} {i : Int} {p : Addr} (h : Own w B e v vs) (ha : At w e v i p u) : AtO v i p := by
  obtain ⟨hc, ⟨b, o, c, n, rfl, rfl, h0, hn⟩, hty⟩ := ha
  rcases h.cases with ⟨hv, _⟩ | ⟨g, cap, cs, hv, _⟩
  · simp at hv
  · simp only [Value.slice.injEq, Option.some.injEq, Addr.mk.injEq] at hv
    obtain ⟨⟨rfl, rfl, _⟩, rfl, rfl⟩ := hv
    exact ⟨_, _, _, rfl, by simp, h0, hn⟩

section
variable {P : Program} {N : Nat} {ops : Array Oper} {Q : Exit → Act → World → Prop} {rest : List Oper} {l : Slots} {w : World}
variable {d : Nat} {ty : TypeId} {pos : String} {after : Array Edge} {g : Option (Nat × Bool)}

theorem Still.nilCheck {x : Operand} {p : Addr} (hx : ev l x = some (.pointer (some p))) : Still P N l ⟨some d, .nilCheck x, ty, pos, after, g⟩ (.pointer (some p)) w := fun a ha => by simp [execOp, ha.ev hx]
theorem Sq.nilCheck {x : Operand} {p : Addr} (hg : On ops l g) (hN : Nat.blt d N = true) (hx : ev l x = some (.pointer (some p))) (h : Sq P N ops Q rest ((d, .pointer (some p)) :: l) w) : Sq P N ops Q (⟨some d, .nilCheck x, ty, pos, after, g⟩ :: rest) l w := .val hg rfl hN (Still.nilCheck hx) h

/-- A slice type whose elements have k cells. -/
def SlK (P : Program) (t e k : Nat) : Prop := P.underlying t = some (.slice e) ∧ ∀ w, (sizeOf e).run P w = .ok k w
/-- An array type of n elements of one cell. -/
def ArT (P : Program) (t e n : Nat) : Prop := P.underlying t = some (.array n e) ∧ ∀ w, (sizeOf e).run P w = .ok 1 w
theorem Still.ixS {t e k : Nat} {x ix : Operand} {b o n c : Nat} {i : Int} {kk : IntKind} (hs : SlK P t e k) (hx : ev l x = some (.slice (some ⟨b, o, none⟩) n c)) (hix : ev l ix = some (.int kk i)) (h0 : 0 ≤ i) (h1 : i < n) :
    Still P N l ⟨some d, .indexAddr t x ix, ty, pos, after, g⟩ (.pointer (some ⟨b, o + i.toNat * k, none⟩)) w := fun a ha => by
  have he : P.elem t = e := by simp [Program.elem, hs.1]
  have := run_indexAt_slice (P := P) (w := w) t ⟨b, o, none⟩ n c kk i (by rw [he]; exact hs.1)
  rw [he, hs.2] at this
  simp [execOp, ha.ev hx, ha.ev hix, this, h0, h1, addr_add]
theorem Still.ixA {t e n : Nat} {x ix : Operand} {b o : Nat} {i : Int} {kk : IntKind} (hs : ArT P t e n) (hx : ev l x = some (.pointer (some ⟨b, o, none⟩))) (hix : ev l ix = some (.int kk i)) (h0 : 0 ≤ i) (h1 : i < n) :
    Still P N l ⟨some d, .indexAddr t x ix, ty, pos, after, g⟩ (.pointer (some ⟨b, o + i.toNat, none⟩)) w := fun a ha => by
  have he : P.elem t = e := by simp [Program.elem, hs.1]
  have hn : P.arrayLen t = n := by simp [Program.arrayLen, hs.1]
  have := run_indexAt_array (P := P) (w := w) t ⟨b, o, none⟩ kk i (by rw [he, hn]; exact hs.1)
  rw [he, hn, hs.2] at this
  simp [execOp, ha.ev hx, ha.ev hix, this, h0, h1, addr_add]
/-- 'make([][n]T, m)' -/
theorem Sq.makeK {t e k : Nat} {z : Value} {x y : Operand} {n : Int} (hs : SlK P t e k) (hi : ∃ i, P.info? e = some i ∧ i.zero = some z ∧ i.size = k ∧ i.bytes ≤ 512) (hk : k ≤ 64) (hz : z.cells.toList = List.replicate k (.int .i64 0)) (hg : On ops l g) (hg2 : g = none) (hN : Nat.blt d N = true) (hx : ev l x = some (.int .i64 n)) (hy : ev l y = some (.int .i64 n)) (hn : 0 ≤ n ∧ n ≤ 100000000)
    (h : ∀ b w', Ext w w' → w.heap.size ≤ b → Blk w' b e ((List.replicate (n.toNat * k) (0 : Int)).map (Value.int .i64)) → Sq P N ops Q rest ((d, .slice (some ⟨b, 0, none⟩) n.toNat n.toNat) :: l) w') :
    Sq P N ops Q (⟨some d, .makeSlice t x y, ty, pos, after, g⟩ :: rest) l w := by
  subst hg2
  intro a ha
  obtain ⟨i, hi, hz0, hsz, hby⟩ := hi
  have hb : i.bytes * n.toNat ≤ 512 * 100000000 := Nat.mul_le_mul hby (by omega)
  refine wpList_make_full w (P := P) rfl x y t rfl w.heap.size e i z k hs.1 hi hz0 hsz .i64 .i64 n n n.toNat (ha.ev hx) (ha.ev hy) (by omega) (by omega) (by omega) (by unfold maxLen; omega) (Nat.le_refl _) fun w' r1 r2 => ?_
  have hc : (madeCells z.cells (n.toNat * k)).toList = (List.replicate (n.toNat * k) (0 : Int)).map (Value.int .i64) := by
    have hz2 : z.cells = (List.replicate k (Value.int .i64 0)).toArray := by
      apply Array.toList_inj.1
      simpa using hz
    apply List.ext_getElem
    · simp [size_madeCells]
    · intro j h1 h2
      have hj : j < n.toNat * k := by simpa using h2
      have hk0 : 0 < k := by
        rcases Nat.eq_zero_or_pos k with rfl | h
        · simp at hj
        · exact h
      have hm : j % k < k := Nat.mod_lt _ hk0
      simp [madeCells, hz2, hm]
  rw [hc] at r1
  refine h _ w' (Ext.of_grown r2) (Nat.le_refl _) ?_ _ (ha.put hN)
  rcases r1.2 with ⟨h1, _⟩ | ⟨g', cap, cur, hv, hg', hb', h3, h4, h5, h6⟩
  · simp at h1
  · simp only [Value.slice.injEq, Option.some.injEq, Addr.mk.injEq] at hv
    obtain ⟨⟨rfl, _⟩, _, rfl⟩ := hv
    have : cur.toList = (List.replicate (n.toNat * k) (0 : Int)).map (Value.int .i64) := by
      rw [← h6, List.take_of_length_le (by simp [h5])]
    simp only [Blk]
    rw [← this]
    simpa using hb'

theorem Still.atO {t e : TypeId} {z : Value} {x ix : Operand} {v : Value} {i : Int} {k : IntKind} {p : Addr} (hs : SlT P t e z) (h : AtO v i p) (hx : ev l x = some v) (hix : ev l ix = some (.int k i)) :
    Still P N l ⟨some d, .indexAddr t x ix, ty, pos, after, g⟩ (.pointer (some p)) w := fun a ha => by
  obtain ⟨b, n, c, rfl, rfl, h0, h1⟩ := h
  have := run_indexAt_slice (P := P) (w := w) t ⟨b, 0, none⟩ n c k i (by rw [hs.elem]; exact hs.und)
  rw [hs.elem, hs.sizeOf] at this
  simp [execOp, ha.ev hx, ha.ev hix, this, h0, h1, addr_add]
theorem Sq.atO {t e : TypeId} {z : Value} {x ix : Operand} {v : Value} {i : Int} {k : IntKind} {p : Addr} (hs : SlT P t e z) (h : AtO v i p) (hg : On ops l g) (hN : Nat.blt d N = true) (hx : ev l x = some v) (hix : ev l ix = some (.int k i))
    (hK : Sq P N ops Q rest ((d, .pointer (some p)) :: l) w) : Sq P N ops Q (⟨some d, .indexAddr t x ix, ty, pos, after, g⟩ :: rest) l w := .val hg rfl hN (Still.atO hs h hx hix) hK

theorem Own.set {B : Nat} {e : TypeId} {v : Value} {vs : List Value} (h : Own w B e v vs) {i : Int} {p : Addr} (hp : AtO v i p) (u : Value) : Own (w.setCell p u) B e v (vs.set i.toNat u) ∧ w.grownBy (w.setCell p u) v.ownBlock ∧ (∃ b, p = ⟨b, i.toNat, none⟩) ∧ (∃ v0, w.cell? p = some v0) ∧ w.frozen? p = false := by
  obtain ⟨b, n, c, rfl, rfl, h0, h1⟩ := hp
  rcases h.cases with ⟨h, _⟩ | ⟨g', cap, cs, hv, hB, hb, h3, h4, h5, h6⟩
  · simp at h
  · simp only [Value.slice.injEq, Option.some.injEq, Addr.mk.injEq] at hv
    obtain ⟨⟨rfl, _, _⟩, rfl, rfl⟩ := hv
    have hlt : i.toNat < cs.length := by omega
    refine ⟨?_, grown_setCell _ _ _ _, ⟨_, rfl⟩, ⟨cs[i.toNat], by rw [hb.cell, List.getElem?_eq_getElem hlt]⟩, hb.free _⟩
    have := Own.mk (vs := vs.set i.toNat u) hB (hb.set i.toNat u) (by simpa using h3) h4 (by simpa using h5) (by
      rw [List.take_set, List.length_set, h6])
    simpa using this

/-- 'xs[i] = u' -/
theorem Sq.storeO {t e : TypeId} {x y : Operand} {v u : Value} {vs : List Value} {B : Nat} {i : Int} {p : Addr} (h1 : One P t) (ho : Own w B e v vs) (hp : AtO v i p) (hg : On ops l g) (hx : ev l x = some (.pointer (some p))) (hy : ev l y = some u) (hu : u.oneCell' = true)
    (h : ∀ w', w.grownBy w' v.ownBlock → Own w' B e v (vs.set i.toNat u) → Sq P N ops Q rest l w') : Sq P N ops Q (⟨none, .store t x y, ty, pos, after, g⟩ :: rest) l w := by
  obtain ⟨k1, k2, ⟨b, rfl⟩, ⟨v0, k4⟩, k5⟩ := ho.set hp u
  refine .unit (w' := w.setCell _ u) hg rfl (fun a ha => ?_) (h _ k2 k1)
  have hc : u.cells = #[u] := by cases u <;> simp_all [Value.cells, Value.oneCell']
  simp [execOp, ha.ev hx, ha.ev hy, Instr.storeAt, Instr.sureAddr, storeVar, hc, h1.size, storeCells, addr_add, run_store _ _ _ _ _ hu, k4, k5]

/-- 'make([]T, n)', T of one cell. -/
theorem Sq.make {t e : TypeId} {z : Value} {x y : Operand} {n : Int} (hs : SlT P t e z) (hg : On ops l g) (hg2 : g = none) (hN : Nat.blt d N = true) (hx : ev l x = some (.int .i64 n)) (hy : ev l y = some (.int .i64 n)) (hn : 0 ≤ n ∧ n ≤ 1000000000)
    (h : ∀ b w', Ext w w' → w.heap.size ≤ b → (∀ B, B ≤ w.heap.size → Own w' B e (.slice (some ⟨b, 0, none⟩) n.toNat n.toNat) (List.replicate n.toNat z)) → Sq P N ops Q rest ((d, .slice (some ⟨b, 0, none⟩) n.toNat n.toNat) :: l) w') :
    Sq P N ops Q (⟨some d, .makeSlice t x y, ty, pos, after, g⟩ :: rest) l w := by
  subst hg2
  intro a ha
  obtain ⟨i, hi, hz, hsz, hby⟩ := hs.info
  have hzc : z.cells = #[z] := by
    have := hs.one
    cases z <;> simp_all [Value.cells, Value.oneCell']
  have hb : i.bytes * n.toNat ≤ 64 * 1000000000 := Nat.mul_le_mul hby (by omega)
  refine wpList_make_full w (P := P) rfl x y t rfl w.heap.size e i z 1 hs.und hi hz hsz .i64 .i64 n n n.toNat (ha.ev hx) (ha.ev hy) (by omega) (by omega) (by omega) (by unfold maxLen; omega) (Nat.le_refl _) fun w' r1 r2 => ?_
  rw [hzc, Nat.mul_one, toList_madeCells_one] at r1
  have hown : Own w' w.heap.size e (.slice (some ⟨w.heap.size, 0, none⟩) n.toNat n.toNat) (List.replicate n.toNat z) := by simpa [Own] using r1
  exact h _ w' (Ext.of_grown r2) (Nat.le_refl _) (fun B hB => hown.mono hB) _ (ha.put hN)

/-- A slice against nil. -/
theorem Sq.eqNil {t e : TypeId} {x : Operand} {v : Value} {vs : List Value} {xt yt : TypeId} (hs : P.underlying xt = some (.slice t)) (hr : Row w e v vs) (hg : On ops l g) (hN : Nat.blt d N = true) (hx : ev l x = some v)
    (h : ∀ b, (b = true → vs = []) → Sq P N ops Q rest ((d, .bool b) :: l) w) : Sq P N ops Q (⟨some d, .binOp .eql xt x (.const (.slice none 0 0)) yt, ty, pos, after, g⟩ :: rest) l w := by
  have hp : ∃ p c, v = .slice p vs.length c ∧ (p.isNone = true → vs = []) := by
    rcases hr with ⟨rfl, p, c, rfl, _⟩ | ⟨b, o, c, cur, fr, rfl, _⟩
    · exact ⟨p, c, rfl, fun _ => rfl⟩
    · exact ⟨_, c, rfl, fun h => by cases h⟩
  obtain ⟨p, c, rfl, hn⟩ := hp
  refine .val hg rfl hN (fun a ha => ?_) (h p.isNone hn)
  have := Lib.run_eql_slice_nil (P := P) w xt t p vs.length c 0 0 hs
  have hx' := ha.ev hx
  have hc : a.eval (.const (.slice none 0 0)) = .slice none 0 0 := rfl
  simp only [execOp, hx', hc, eqGuard]
  simp [this]
end
end Go.Proofs.Ytdkdpmmfebdeaaa
