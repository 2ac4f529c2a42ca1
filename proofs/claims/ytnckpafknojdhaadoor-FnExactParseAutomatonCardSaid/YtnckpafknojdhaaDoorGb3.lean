/-
  The texts of this proof, joined (wip/merge.py): the calculus of slots, plain mathematics, walks.
-/
import Derived.Test.YtnckpafknojdhaaDoorGb2
set_option linter.unusedSimpArgs false
set_option linter.unusedVariables false
namespace Go.Proofs.YtnckpafknojdhaaDoor
open Go.RowKit
def LenOk (n : Nat) : Prop := n ≤ 9223372036854775807
def IntsX (w : World) (v : Value) (xs : List Int) : Prop := LenOk xs.length ∧ ∃ e, Ints w e v xs
def BoolsX (w : World) (v : Value) (xs : List Bool) : Prop := LenOk xs.length ∧ ∃ e, Bools w e v xs
def RowsX (w : World) (v : Value) (xss : List (List Int)) : Prop := LenOk xss.length ∧ ∃ e rs, Row w e v rs ∧ rs.length = xss.length ∧ ∀ (i : Nat) (r : Value), rs[i]? = some r → IntsX w r (xss.getD i [])
section
variable {w w' : World} {v : Value} {xs : List Int} {ys : List Bool} {xss : List (List Int)}
theorem IntsX.ext (h : IntsX w v xs) (x : Ext w w') : IntsX w' v xs := ⟨h.1, h.2.elim fun e h => ⟨e, h.ext x⟩⟩
theorem BoolsX.ext (h : BoolsX w v ys) (x : Ext w w') : BoolsX w' v ys := ⟨h.1, h.2.elim fun e h => ⟨e, h.ext x⟩⟩
theorem RowsX.ext (h : RowsX w v xss) (x : Ext w w') : RowsX w' v xss := by
  obtain ⟨hl, e, rs, h1, h2, h3⟩ := h
  exact ⟨hl, e, rs, h1.ext x, h2, fun i r hr => (h3 i r hr).ext x⟩
theorem RowsX.at (h : RowsX w v xss) {i : Int} (hi : 0 ≤ i) (hlt : i.toNat < xss.length) : ∃ e p r, At w e v i p r ∧ IntsX w r (xss.getD i.toNat []) := by
  obtain ⟨hl, e, rs, h1, h2, h3⟩ := h
  have hl : i.toNat < rs.length := by omega
  obtain ⟨p, hp⟩ := h1.at hi hl
  exact ⟨e, p, rs[i.toNat], hp, h3 _ _ (List.getElem?_eq_getElem hl)⟩
theorem RowsX.len (h : RowsX w v xss) : ∃ e rs, Row w e v rs ∧ rs.length = xss.length := by
  obtain ⟨hl, e, rs, h1, h2, _⟩ := h
  exact ⟨e, rs, h1, h2⟩
end
def SmX (a : A) : Prop := a.next.length ≤ 1048576 ∧ (∀ r ∈ a.next, r.length ≤ 1048576) ∧ a.acc.length ≤ 1048576
section
variable {w w' : World} {B U : Nat} {e e' : TypeId} {v : Value} {xss : List (List Int)}
theorem OwnRows.put (h : OwnRows w B U e e' v xss) (hne : e ≠ e') : ∃ rs, Own w B e v rs ∧ rs.length = xss.length ∧
    ∀ i r ys w', i < xss.length → Own w U e' r (ys.map (Value.int .i64)) → B ≤ U → Own w' B e v (rs.set i r) → w.grownBy w' v.ownBlock → OwnRows w' B w'.heap.size e e' v (xss.set i ys) := by
  obtain ⟨rs, h1, h2, h3, h4⟩ := h
  refine ⟨rs, h1, h2, fun i r ys w' hi hr hBU hv hg => ?_⟩
  have hr' := hr.owned h1 hg hne
  have hrow : ∀ j q, (rs.set i r)[j]? = some q → (j = i ∧ q = r) ∨ (j ≠ i ∧ rs[j]? = some q) := by
    intro j q hq
    rw [List.getElem?_set] at hq
    split at hq
    · rename_i hij
      rw [if_pos (by omega)] at hq
      exact .inl ⟨hij.symm, (Option.some.inj hq).symm⟩
    · rename_i hij
      exact .inr ⟨fun h => hij h.symm, hq⟩
  refine ⟨rs.set i r, hv, by simp [h2], fun j q hq => ?_, fun j k q q' hq hq' hjk b hb hb' => ?_⟩
  · rcases hrow j q hq with ⟨rfl, rfl⟩ | ⟨hji, hq2⟩
    · have e1 : (xss.set j ys).getD j [] = ys := by simp [hi]
      rw [e1]
      exact ⟨hr'.mono hBU, fun b hb => (hr'.lt b hb).2⟩
    · have e1 : (xss.set i ys).getD j [] = xss.getD j [] := by simp [List.getElem?_set_ne (fun h => hji h.symm)]
      rw [e1]
      have ho := (h3 j q hq2).1.owned h1 hg hne
      exact ⟨ho, fun b hb => (ho.lt b hb).2⟩
  · rcases hrow j q hq with ⟨rfl, rfl⟩ | ⟨hji, hq2⟩ <;> rcases hrow k q' hq' with ⟨rfl, rfl⟩ | ⟨hki, hq2'⟩
    · exact hjk rfl
    · have a1 := ((h3 k q' hq2').2 b hb')
      have a2 := (hr.lt b hb).1
      omega
    · have a1 := ((h3 j q hq2).2 b hb)
      have a2 := (hr.lt b hb').1
      omega
    · exact h4 j k q q' hq2 hq2' hjk b hb hb'
end
section
variable {H : Type} {enc : TypeId × Value → H} {P : Program} {w : World} {base : Nat} {sp : Nat → Bool} {held : Bool}
theorem row_of {x : Addr} {cap : Nat} {vs : List Value} (h : ∀ (i : Nat) (u : Value), vs[i]? = some u → w.cell? (x.add i) = some u) : ∃ e, Row w e (.slice (some x) vs.length cap) vs := by
  cases vs with
  | nil => exact ⟨0, .inl ⟨rfl, some x, cap, rfl, fun h => by cases h⟩⟩
  | cons v0 vs =>
    obtain ⟨b, o, s⟩ := x
    have hc := h 0 v0 rfl
    have hs : s = none := by simpa [Addr.add] using World.cell?_spot hc
    subst hs
    have hb : ∃ cur e fr, w.heap[b]? = some (.cells cur e fr) := by
      rw [addr_add] at hc
      unfold World.cell? at hc
      simp only at hc
      cases hw : w.heap[b]? with
      | none => rw [hw] at hc; simp at hc
      | some ob =>
        rw [hw] at hc
        cases ob <;> simp at hc
        rename_i cur e fr
        exact ⟨cur, e, fr, rfl⟩
    obtain ⟨cur, e, fr, hb⟩ := hb
    refine ⟨e, .inr ⟨b, o, cap, cur, fr, rfl, hb, fun i y hy => ?_⟩⟩
    have h1 := h i y hy
    rw [addr_add] at h1
    simpa [World.cell?, hb] using h1
theorem elems_of {t e : TypeId} {fuel : Nat} {v : Value} {x : DataW H × List MemPlace} (ht : P.underlying t = some (.slice e)) (hc : P.cellsOf e = 1) (h : DataW.trod enc P w base sp held fuel t [v] = some x) :
    ∃ vs : List Value, LenOk vs.length ∧ (∃ e', Row w e' v vs) ∧ ∀ (i : Nat) (u : Value), vs[i]? = some u → ∃ n y, DataW.trod enc P w base sp held n e [u] = some y := by
  rcases DataW.trod_slice ht h with ⟨h0, _⟩ | ⟨a, len, cap, elems, rest, n, _, hcs, _, _, hl, hm, hlen, hel, _, _⟩
  · obtain rfl : v = .slice none 0 0 := by simpa using h0
    exact ⟨[], by unfold LenOk; decide, ⟨0, Row.nil _ _⟩, by simp⟩
  · obtain rfl : v = .slice (some a) len cap := by simpa using hcs
    have each : ∀ i, i < len → ∃ u, w.cell? (a.add i) = some u ∧ ∃ y, DataW.trod enc P w base sp held n e [u] = some y := fun i hi => by
      have h1 := hel i hi
      rw [List.getElem?_eq_getElem (by omega), hc, Nat.mul_one, Option.bind_eq_some_iff] at h1
      obtain ⟨cs', h2, h3⟩ := h1
      have hsz := (World.cells?_some h2).2.1
      match cs', hsz with
      | [u], _ => exact ⟨u, ChangeShapes.cell_of_cells?_one h2, _, h3⟩
    let vs := (List.range len).map fun i => (w.cell? (a.add i)).getD (.bool false)
    have hvs : vs.length = len := by simp [vs]
    have hat : ∀ (i : Nat) (u : Value), vs[i]? = some u → i < len ∧ w.cell? (a.add i) = some u := fun i u hu => by
      have hi : i < len := by have := (List.getElem?_eq_some_iff.1 hu).1; omega
      obtain ⟨u', h1, _⟩ := each i hi
      simp [vs, hi, h1] at hu
      exact ⟨hi, by rw [h1, hu]⟩
    refine ⟨vs, ?_, ?_, fun i u hu => ?_⟩
    · unfold LenOk
      simp only [maxLen] at hm
      omega
    · have := row_of (w := w) (x := a) (cap := cap) (vs := vs) fun i u hu => (hat i u hu).2
      rw [hvs] at this
      exact this
    · obtain ⟨h1, h2⟩ := hat i u hu
      obtain ⟨u', h3, y, h4⟩ := each i h1
      rw [h2] at h3
      obtain rfl := Option.some.inj h3
      exact ⟨n, y, h4⟩
theorem choose_list {α : Type} {p : Value → α → Prop} : ∀ {vs : List Value}, (∀ u ∈ vs, ∃ a, p u a) → ∃ aas : List α, aas.length = vs.length ∧ ∀ (i : Nat) (u : Value), vs[i]? = some u → ∃ a, aas[i]? = some a ∧ p u a
  | [], _ => ⟨[], rfl, by simp⟩
  | v :: vs, h => by
    obtain ⟨a, ha⟩ := h v (by simp)
    obtain ⟨aas, h1, h2⟩ := choose_list (vs := vs) fun u hu => h u (by simp [hu])
    refine ⟨a :: aas, by simp [h1], fun i u hu => ?_⟩
    cases i with
    | zero => obtain rfl : v = u := by simpa using hu
              exact ⟨a, rfl, ha⟩
    | succ i => exact h2 i u (by simpa using hu)
theorem map_of {α : Type} {g : α → Value} {vs : List Value} (h : ∀ u ∈ vs, ∃ a, u = g a) : ∃ aas : List α, vs = aas.map g := by
  obtain ⟨aas, h1, h2⟩ := choose_list h
  refine ⟨aas, ?_⟩
  apply List.ext_getElem?
  intro i
  rcases Nat.lt_or_ge i vs.length with hi | hi
  · obtain ⟨a, ha, hu⟩ := h2 i _ (List.getElem?_eq_getElem hi)
    rw [List.getElem?_eq_getElem hi, List.getElem?_map, ha, hu]
    rfl
  · rw [List.getElem?_eq_none hi, List.getElem?_eq_none (by simp; omega)]
theorem ints_came {t e : TypeId} {fuel : Nat} {v : Value} {x : DataW H × List MemPlace} (ht : P.underlying t = some (.slice e)) (he : P.underlying e = some (.int .i64)) (hc : P.cellsOf e = 1) (h : DataW.trod enc P w base sp held fuel t [v] = some x) : ∃ xs, IntsX w v xs := by
  obtain ⟨vs, hl, ⟨e', hr⟩, hat⟩ := elems_of ht hc h
  obtain ⟨xs, rfl⟩ := map_of (g := Value.int .i64) (vs := vs) fun u hu => by
    obtain ⟨i, hi⟩ := List.getElem?_of_mem hu
    obtain ⟨n, y, hy⟩ := hat i u hi
    obtain ⟨m, hm, _⟩ := DataW.trod_int he hy
    exact ⟨m, by simpa using hm⟩
  exact ⟨xs, by simpa using hl, e', hr⟩
theorem bools_came {t e : TypeId} {fuel : Nat} {v : Value} {x : DataW H × List MemPlace} (ht : P.underlying t = some (.slice e)) (he : P.underlying e = some .bool) (hc : P.cellsOf e = 1) (h : DataW.trod enc P w base sp held fuel t [v] = some x) : ∃ xs, BoolsX w v xs := by
  obtain ⟨vs, hl, ⟨e', hr⟩, hat⟩ := elems_of ht hc h
  obtain ⟨xs, rfl⟩ := map_of (g := Value.bool) (vs := vs) fun u hu => by
    obtain ⟨i, hi⟩ := List.getElem?_of_mem hu
    obtain ⟨n, y, hy⟩ := hat i u hi
    obtain ⟨m, hm, _⟩ := DataW.trod_bool he hy
    exact ⟨m, by simpa using hm⟩
  exact ⟨xs, by simpa using hl, e', hr⟩
theorem rows_came {t s e : TypeId} {fuel : Nat} {v : Value} {x : DataW H × List MemPlace} (ht : P.underlying t = some (.slice s)) (hs : P.underlying s = some (.slice e)) (he : P.underlying e = some (.int .i64)) (hcs : P.cellsOf s = 1) (hc : P.cellsOf e = 1) (h : DataW.trod enc P w base sp held fuel t [v] = some x) : ∃ xss, RowsX w v xss := by
  obtain ⟨vs, hl, ⟨e', hr⟩, hat⟩ := elems_of ht hcs h
  obtain ⟨xss, h1, h2⟩ := choose_list (p := fun u xs => IntsX w u xs) (vs := vs) fun u hu => by
    obtain ⟨i, hi⟩ := List.getElem?_of_mem hu
    obtain ⟨n, y, hy⟩ := hat i u hi
    exact ints_came hs he hc hy
  refine ⟨xss, by rw [h1]; exact hl, e', vs, hr, h1.symm, fun i r hi => ?_⟩
  obtain ⟨a, ha, hp⟩ := h2 i r hi
  rw [List.getD_eq_getElem?_getD, ha]
  exact hp
end
end Go.Proofs.YtnckpafknojdhaaDoor
set_option linter.unusedSimpArgs false
set_option linter.unusedVariables false
namespace Go.Proofs.YtnckpafknojdhaaDoor
open Go.RowKit
structure Wrote (w w' : World) (B U : Nat) : Prop where
  os : w'.os = w.os
  tape : w'.tape = w.tape
  output : w'.output = w.output
  size : w.heap.size ≤ w'.heap.size
  block : ∀ k, k < w.heap.size → ¬ (B ≤ k ∧ k < U) → w'.heap[k]? = w.heap[k]?
section
variable {w w' w'' w0 : World} {B U B' U' b : Nat} {e e' t : TypeId} {v : Value} {vs cs : List Value} {xss : List (List Int)}
theorem Wrote.refl (w : World) (B U : Nat) : Wrote w w B U := ⟨rfl, rfl, rfl, Nat.le_refl _, fun _ _ _ => rfl⟩
theorem Wrote.trans (h : Wrote w w' B U) (k : Wrote w' w'' B U) : Wrote w w'' B U :=
  ⟨k.os.trans h.os, k.tape.trans h.tape, k.output.trans h.output, Nat.le_trans h.size k.size, fun i hi hn => (k.block i (Nat.lt_of_lt_of_le hi h.size) hn).trans (h.block i hi hn)⟩
theorem Wrote.of {r : Option Nat} (h : w.grownBy w' r) (hr : ∀ k, r = some k → B ≤ k ∧ k < U) : Wrote w w' B U :=
  ⟨h.os, h.tape, h.output, h.size, fun k hk hn => h.block k hk fun hc => hn (hr k hc.symm)⟩
theorem Wrote.ofExt (h : Ext w w') (B U : Nat) : Wrote w w' B U := ⟨h.os, h.tape, h.output, h.size, fun k hk _ => h.block k hk⟩
theorem Ext.wrote (h : Ext w0 w) (k : Wrote w w' B U) (hB : w0.heap.size ≤ B) : Ext w0 w' :=
  ⟨k.os.trans h.os, k.tape.trans h.tape, k.output.trans h.output, Nat.le_trans h.size k.size, fun i hi => (k.block i (Nat.lt_of_lt_of_le hi h.size) (by omega)).trans (h.block i hi)⟩
theorem Blk.wrote (h : Blk w b t cs) (k : Wrote w w' B U) (hb : ¬ (B ≤ b ∧ b < U)) : Blk w' b t cs := by
  simp only [Blk] at *
  rw [k.block b (lt_of_block h) hb]; exact h
theorem Own.wrote (h : Own w B' e v vs) (k : Wrote w w' B U) (hU : U ≤ B') : Own w' B' e v vs := by
  rcases h.cases with ⟨rfl, rfl⟩ | ⟨g, cap, cs, rfl, hg', hb, h3, h4, h5, h6⟩
  · exact Own.nil _ _ _
  · exact Own.mk hg' (hb.wrote k (by omega)) h3 h4 h5 h6
theorem OwnRows.wrote (h : OwnRows w B' U' e e' v xss) (k : Wrote w w' B U) (hU : U ≤ B') : OwnRows w' B' U' e e' v xss := by
  obtain ⟨rs, h1, h2, h3, h4⟩ := h
  exact ⟨rs, h1.wrote k hU, h2, fun i r hr => ⟨(h3 i r hr).1.wrote k hU, (h3 i r hr).2⟩, h4⟩
theorem OwnRows.rowLt (h : OwnRows w B U e e' v xss) {i : Int} {p : Addr} {r : Value} (ha : At w e v i p r) : ∀ k, r.ownBlock = some k → B ≤ k ∧ k < U := by
  have h0 := (h.rowAt ha).1
  obtain ⟨rs, h1, h2, h3, h4⟩ := h
  intro k hk
  refine ⟨(h0.lt k hk).1, ?_⟩
  obtain ⟨hc, ⟨b, o, c, n, rfl, rfl, h0, hn⟩, hty⟩ := ha
  rcases h1.cases with ⟨hv, _⟩ | ⟨g, cap, cs, hv, hB, hb, h5, h6, h7, h8⟩
  · simp at hv
  · simp only [Value.slice.injEq, Option.some.injEq, Addr.mk.injEq] at hv
    obtain ⟨⟨rfl, rfl, _⟩, rfl, rfl⟩ := hv
    rw [hb.cell] at hc
    have hlt : i.toNat < rs.length := by omega
    have : rs[i.toNat]? = some r := by
      rw [← h8, List.getElem?_take, if_pos hlt]
      simpa using hc
    exact (h3 _ _ this).2 k hk
end
def KeepT (w w' : World) (e : TypeId) : Prop := ∀ b t cs, Blk w b t cs → t ≠ e → Blk w' b t cs
theorem KeepT.refl (w : World) (e : TypeId) : KeepT w w e := fun _ _ _ h _ => h
theorem KeepT.next {w w' w'' : World} {e : TypeId} {B : Nat} {u : Value} {us : List Value} (h : KeepT w w' e) (ho : Own w' B e u us) (hg : w'.grownBy w'' u.ownBlock) : KeepT w w'' e := fun b t cs hb hne => (h b t cs hb hne).owned ho hg (fun hc => hne hc.symm)
theorem Own.kept {w w' : World} {e t : TypeId} {B : Nat} {v : Value} {vs : List Value} (h : Own w B t v vs) (k : KeepT w w' e) (hne : t ≠ e) : Own w' B t v vs := by
  rcases h.cases with ⟨rfl, rfl⟩ | ⟨g, cap, cs, rfl, hg', hb, h3, h4, h5, h6⟩
  · exact Own.nil _ _ _
  · exact Own.mk hg' (k _ _ _ hb hne) h3 h4 h5 h6
def upI (k : Int) (n : Nat) : List Int := (List.range n).map fun (i : Nat) => k + i
def upTo (k : Int) (xs : List Int) (m : Nat) : List Int := (List.range xs.length).map fun (i : Nat) => if i < m then k + i else xs.getD i 0
theorem upTo_zero (k : Int) (xs : List Int) : upTo k xs 0 = xs := by
  unfold upTo
  apply List.ext_getElem?
  intro i
  rw [List.getElem?_map]
  rcases Nat.lt_or_ge i xs.length with h | h
  · rw [List.getElem?_range h, List.getElem?_eq_getElem h]
    simp [h]
  · rw [List.getElem?_eq_none (by simpa using h), List.getElem?_eq_none h]; rfl
theorem upTo_length (k : Int) (xs : List Int) (m : Nat) : (upTo k xs m).length = xs.length := by simp [upTo]
theorem upTo_step {k : Int} {xs : List Int} {m : Nat} (h : m < xs.length) : (upTo k xs m).set m (k + m) = upTo k xs (m + 1) := by
  apply List.ext_getElem?
  intro i
  unfold upTo
  rw [List.getElem?_set]
  rcases Nat.lt_or_ge i xs.length with hi | hi
  · by_cases e : m = i
    · subst e
      rw [if_pos rfl, if_pos (by simpa using h), List.getElem?_map, List.getElem?_range hi]
      simp
    · rw [if_neg e, List.getElem?_map, List.getElem?_map, List.getElem?_range hi]
      simp only [Option.map_some]
      by_cases h1 : i < m
      · rw [if_pos h1, if_pos (by omega)]
      · rw [if_neg h1, if_neg (by omega)]
  · rw [if_neg (by omega), List.getElem?_eq_none (by simpa using hi), List.getElem?_eq_none (by simpa using hi)]
theorem upTo_all {k : Int} {xs : List Int} {m : Nat} (h : xs.length ≤ m) : upTo k xs m = upI k xs.length := by
  unfold upTo upI
  refine List.map_congr_left fun i hi => ?_
  rw [if_pos (by have := List.mem_range.1 hi; omega)]
theorem upI_at {k : Int} {n i : Nat} (h : i < n) : (upI k n).getD i 0 = k + i := by
  unfold upI
  rw [List.getD_eq_getElem?_getD, List.getElem?_map, List.getElem?_range h]; rfl
theorem upI_length (k : Int) (n : Nat) : (upI k n).length = n := by simp [upI]
def upB (k : Int) (n : Nat) : List Bool := (List.range n).map fun (i : Nat) => decide ((k + i) % 3 = 0)
def upBTo (k : Int) (xs : List Bool) (m : Nat) : List Bool := (List.range xs.length).map fun (i : Nat) => if i < m then decide ((k + i) % 3 = 0) else xs.getD i false
theorem upBTo_zero (k : Int) (xs : List Bool) : upBTo k xs 0 = xs := by
  unfold upBTo
  apply List.ext_getElem?
  intro i
  rw [List.getElem?_map]
  rcases Nat.lt_or_ge i xs.length with h | h
  · rw [List.getElem?_range h, List.getElem?_eq_getElem h]
    simp [h]
  · rw [List.getElem?_eq_none (by simpa using h), List.getElem?_eq_none h]; rfl
theorem upBTo_length (k : Int) (xs : List Bool) (m : Nat) : (upBTo k xs m).length = xs.length := by simp [upBTo]
theorem upBTo_step {k : Int} {xs : List Bool} {m : Nat} (h : m < xs.length) : (upBTo k xs m).set m (decide ((k + m) % 3 = 0)) = upBTo k xs (m + 1) := by
  apply List.ext_getElem?
  intro i
  unfold upBTo
  rw [List.getElem?_set]
  rcases Nat.lt_or_ge i xs.length with hi | hi
  · by_cases e : m = i
    · subst e
      rw [if_pos rfl, if_pos (by simpa using h), List.getElem?_map, List.getElem?_range hi]
      simp
    · rw [if_neg e, List.getElem?_map, List.getElem?_map, List.getElem?_range hi]
      simp only [Option.map_some]
      by_cases h1 : i < m
      · rw [if_pos h1, if_pos (by omega)]
      · rw [if_neg h1, if_neg (by omega)]
  · rw [if_neg (by omega), List.getElem?_eq_none (by simpa using hi), List.getElem?_eq_none (by simpa using hi)]
theorem upBTo_all {k : Int} {xs : List Bool} {m : Nat} (h : xs.length ≤ m) : upBTo k xs m = upB k xs.length := by
  unfold upBTo upB
  refine List.map_congr_left fun i hi => ?_
  rw [if_pos (by have := List.mem_range.1 hi; omega)]
theorem upB_at {k : Int} {n i : Nat} (h : i < n) : (upB k n).getD i false = decide ((k + i) % 3 = 0) := by
  unfold upB
  rw [List.getD_eq_getElem?_getD, List.getElem?_map, List.getElem?_range h]; rfl
theorem upB_length (k : Int) (n : Nat) : (upB k n).length = n := by simp [upB]
def offR (xss : List (List Int)) : Nat → Int
  | 0 => 0
  | i + 1 => offR xss i + ((xss.getD i []).length : Int)
theorem offR_nonneg (xss : List (List Int)) : ∀ i, 0 ≤ offR xss i
  | 0 => Int.le_refl _
  | i + 1 => by have := offR_nonneg xss i; rw [offR]; omega
theorem offR_le {xss : List (List Int)} (h : ∀ r ∈ xss, r.length ≤ 1048576) : ∀ i, offR xss i ≤ (i : Int) * 1048576
  | 0 => by simp [offR]
  | i + 1 => by
    have h1 := offR_le h i
    have h2 : (xss.getD i []).length ≤ 1048576 := by
      rcases Nat.lt_or_ge i xss.length with hi | hi
      · exact h _ (getD_mem hi)
      · rw [List.getD_eq_getElem?_getD, List.getElem?_eq_none hi]; exact Nat.zero_le _
    rw [offR]
    have : ((i + 1 : Nat) : Int) * 1048576 = (i : Int) * 1048576 + 1048576 := by rw [Int.natCast_add, Int.add_mul]; omega
    omega
def rowsTo (xss : List (List Int)) (k : Int) (m : Nat) : List (List Int) := (List.range xss.length).map fun (i : Nat) => if i < m then upI (k + offR xss i) (xss.getD i []).length else xss.getD i []
def markR (xss : List (List Int)) (k : Int) : List (List Int) := (List.range xss.length).map fun (i : Nat) => upI (k + offR xss i) (xss.getD i []).length
theorem rowsTo_zero (xss : List (List Int)) (k : Int) : rowsTo xss k 0 = xss := by
  unfold rowsTo
  apply List.ext_getElem?
  intro i
  rw [List.getElem?_map]
  rcases Nat.lt_or_ge i xss.length with h | h
  · rw [List.getElem?_range h, List.getElem?_eq_getElem h]
    simp [h]
  · rw [List.getElem?_eq_none (by simpa using h), List.getElem?_eq_none h]; rfl
theorem rowsTo_length (xss : List (List Int)) (k : Int) (m : Nat) : (rowsTo xss k m).length = xss.length := by simp [rowsTo]
theorem markR_length (xss : List (List Int)) (k : Int) : (markR xss k).length = xss.length := by simp [markR]
theorem rowsTo_at {xss : List (List Int)} {k : Int} {m : Nat} (h : m < xss.length) : (rowsTo xss k m).getD m [] = xss.getD m [] := by
  unfold rowsTo
  rw [List.getD_eq_getElem?_getD, List.getElem?_map, List.getElem?_range h]
  simp
theorem markR_at {xss : List (List Int)} {k : Int} {m : Nat} (h : m < xss.length) : (markR xss k).getD m [] = upI (k + offR xss m) (xss.getD m []).length := by
  unfold markR
  rw [List.getD_eq_getElem?_getD, List.getElem?_map, List.getElem?_range h]; rfl
theorem rowsTo_step {xss : List (List Int)} {k : Int} {m : Nat} (h : m < xss.length) : (rowsTo xss k m).set m (upI (k + offR xss m) (xss.getD m []).length) = rowsTo xss k (m + 1) := by
  apply List.ext_getElem?
  intro i
  unfold rowsTo
  rw [List.getElem?_set]
  rcases Nat.lt_or_ge i xss.length with hi | hi
  · by_cases e : m = i
    · subst e
      rw [if_pos rfl, if_pos (by simpa using h), List.getElem?_map, List.getElem?_range hi]
      simp
    · rw [if_neg e, List.getElem?_map, List.getElem?_map, List.getElem?_range hi]
      simp only [Option.map_some]
      by_cases h1 : i < m
      · rw [if_pos h1, if_pos (by omega)]
      · rw [if_neg h1, if_neg (by omega)]
  · rw [if_neg (by omega), List.getElem?_eq_none (by simpa using hi), List.getElem?_eq_none (by simpa using hi)]
theorem rowsTo_all {xss : List (List Int)} {k : Int} {m : Nat} (h : xss.length ≤ m) : rowsTo xss k m = markR xss k := by
  unfold rowsTo markR
  refine List.map_congr_left fun i hi => ?_
  rw [if_pos (by have := List.mem_range.1 hi; omega)]
def sumR (xss : List (List Int)) : Int := offR xss xss.length
def cntA (a : A) : Int := sumR a.next + (a.acc.length : Int)
theorem cntA_nonneg (a : A) : 0 ≤ cntA a := by have := offR_nonneg a.next a.next.length; unfold cntA sumR; omega
theorem cntA_le {a : A} (h : SmX a) : 0 ≤ sumR a.next ∧ sumR a.next ≤ 1099511627776 ∧ cntA a ≤ 1099512676352 := by
  have h1 := offR_le h.2.1 a.next.length
  have h0 := offR_nonneg a.next a.next.length
  have h2 : (a.next.length : Int) * 1048576 ≤ 1048576 * 1048576 := Int.mul_le_mul_of_nonneg_right (by have := h.1; omega) (by decide)
  have h3 := h.2.2
  unfold cntA sumR
  omega
theorem smx_valid {a : A} (h : validA a = true) : SmX a := by
  have hs := validA_spec.1 h
  refine ⟨by omega, fun r hr => ?_, by omega⟩
  have := (hs.2.2.2 r hr).1
  have := letters_len6 a.al
  omega
theorem smx_zero : SmX zeroA := ⟨by decide, by simp [zeroA], by decide⟩
end Go.Proofs.YtnckpafknojdhaaDoor
set_option linter.unusedSimpArgs false
set_option linter.unusedVariables false
namespace Go.Proofs.YtnckpafknojdhaaDoor
open Go.RowKit
set_option maxRecDepth 100000 in
theorem markI_c (w0 : World) (B : Nat) (r : Value) (xs : List Int) (k : Int) (ho : Own w0 B 3 r (xs.map (Value.int .i64))) (hl : xs.length ≤ 1048576) (hk : 0 ≤ k ∧ k ≤ 4611686018427387904) : Ret Tryd.prog 48 #[r, Value.int .i64 k] w0 (fun v w => v = .int .i64 (k + xs.length) ∧ Own w B 3 r ((upI k xs.length).map (Value.int .i64)) ∧ w0.grownBy w r.ownBlock) := by
  have hgo := World.grownBy.refl w0 r.ownBlock
  refine Ret.of (args := [r, Value.int .i64 k]) Tryd.func48 rfl rfl rfl ?_
  rintro _ rfl
  show Cq _ _ _ _ [(0, r), (1, Value.int .i64 k)] _
  refine Cq.seq ?_
  refine Cq.region ?_
  refine Sq.assign .plain rfl rfl ?_
  refine Sq.nil ?_
  refine Eq.next ?_
  refine Cq.seq ?_
  refine Cq.seq ?_
  refine Cq.region ?_
  refine Sq.assign .plain rfl rfl ?_
  refine Sq.nil ?_
  refine Eq.next ?_
  refine Cq.block ?_
  refine Cq.loop (fun nn w ls => ∃ (i : Int), ∃ (p : Int), ls = [(0, r), (1, Value.int .i64 p), (5, Value.int .i64 i)] ∧ (0 ≤ i ∧ i ≤ xs.length) ∧ p = k + i ∧ Own w B 3 r ((upTo k xs i.toNat).map (Value.int .i64)) ∧ World.grownBy w0 w r.ownBlock ∧ nn = ((xs.length : Int) - i).toNat) _ _ ⟨0, _, rfl, by omega, by omega, by rw [show (0 : Int).toNat = 0 from rfl, upTo_zero]; exact ho, hgo, rfl⟩ (.cons rfl (.cons rfl (.cons rfl (.nil)))) ?_
  rintro nn wl1 ls ⟨i, p, rfl, hi, hp, ho, hgo, rfl⟩
  have hul := upTo_length k xs i.toNat
  refine Cq.seq ?_
  refine Cq.seq ?_
  refine Cq.region ?_
  refine Sq.move .plain rfl rfl ?_
  refine Sq.move .plain rfl rfl ?_
  refine Sq.lenInts (Own.row ho) .plain rfl und41 rfl ?_
  refine Sq.lss .plain rfl rfl rfl ?_
  refine Sq.part (fun c1 => ?_) (fun c1 => ?_)
  · refine Sq.nil ?_
    refine Eq.next ?_
    refine Cq.thn rfl ?_
    refine Cq.skip ?_
    refine Eq.next ?_
    refine Cq.seq ?_
    refine Cq.block ?_
    refine Cq.seq ?_
    refine Cq.region ?_
    refine Sq.move .plain rfl rfl ?_
    refine Sq.move .plain rfl rfl ?_
    refine Sq.move .plain rfl rfl ?_
    obtain ⟨p2, hp3o⟩ := Own.at ho (i := i) (by omega) (by first | (simp only [List.length_map]; omega) | (simp; omega))
    refine Sq.atO sl41 hp3o .plain rfl rfl rfl ?_
    refine Sq.storeO one3 ho hp3o .plain rfl rfl rfl (fun w4 g5 ho6 => ?_)
    have hs7 := World.grownBy.size g5
    replace hgo := grown_trans hgo g5
    replace ho := ho6
    refine Sq.nil ?_
    refine Eq.next ?_
    refine Cq.region ?_
    refine Sq.move .plain rfl rfl ?_
    refine Sq.add .plain rfl rfl rfl (by omega) ?_
    refine Sq.assign .plain rfl rfl ?_
    refine Sq.nil ?_
    refine Eq.end ?_
    refine Eq.next ?_
    refine Cq.region ?_
    refine Sq.move .plain rfl rfl ?_
    refine Sq.add .plain rfl rfl rfl (by omega) ?_
    refine Sq.assign .plain rfl rfl ?_
    refine Sq.nil ?_
    have e1 := toNat_succ hi.1
    have e3 : ((i.toNat : Nat) : Int) = i := Int.toNat_of_nonneg hi.1
    refine Eq.round _ _ ⟨i + 1, _, rfl, by omega, by omega, by rw [e1, ← upTo_step (by omega), List.map_set, e3, ← hp]; exact ho, hgo, rfl⟩ (by omega) (.cons rfl (.cons rfl (.cons rfl (.nil))))
  refine Sq.nil ?_
  refine Eq.next ?_
  refine Cq.els rfl ?_
  refine Cq.exit ?_
  refine Eq.past ?_
  refine Eq.past ?_
  refine Eq.hit ?_
  refine Eq.next ?_
  refine Cq.seq ?_
  refine Cq.region ?_
  refine Sq.move .plain rfl rfl ?_
  refine Sq.assign .plain rfl rfl ?_
  refine Sq.nil ?_
  refine Eq.next ?_
  refine Cq.ret ?_
  refine Eq.ret1 rfl rfl ?_
  rw [upTo_all (by omega)] at ho
  exact ⟨by rw [hp, show i = xs.length by omega], ho, hgo⟩
set_option maxRecDepth 100000 in
theorem markB_c (w0 : World) (B : Nat) (r : Value) (xs : List Bool) (k : Int) (ho : Own w0 B 4 r (xs.map (Value.bool))) (hl : xs.length ≤ 1048576) (hk : 0 ≤ k ∧ k ≤ 4611686018427387904) : Ret Tryd.prog 26 #[r, Value.int .i64 k] w0 (fun v w => v = .int .i64 (k + xs.length) ∧ Own w B 4 r ((upB k xs.length).map (Value.bool)) ∧ w0.grownBy w r.ownBlock) := by
  have hgo := World.grownBy.refl w0 r.ownBlock
  refine Ret.of (args := [r, Value.int .i64 k]) Tryd.func26 rfl rfl rfl ?_
  rintro _ rfl
  show Cq _ _ _ _ [(0, r), (1, Value.int .i64 k)] _
  refine Cq.seq ?_
  refine Cq.region ?_
  refine Sq.assign .plain rfl rfl ?_
  refine Sq.nil ?_
  refine Eq.next ?_
  refine Cq.seq ?_
  refine Cq.seq ?_
  refine Cq.region ?_
  refine Sq.assign .plain rfl rfl ?_
  refine Sq.nil ?_
  refine Eq.next ?_
  refine Cq.block ?_
  refine Cq.loop (fun nn w ls => ∃ (i : Int), ∃ (p : Int), ls = [(0, r), (1, Value.int .i64 p), (5, Value.int .i64 i)] ∧ (0 ≤ i ∧ i ≤ xs.length) ∧ p = k + i ∧ Own w B 4 r ((upBTo k xs i.toNat).map (Value.bool)) ∧ World.grownBy w0 w r.ownBlock ∧ nn = ((xs.length : Int) - i).toNat) _ _ ⟨0, _, rfl, by omega, by omega, by rw [show (0 : Int).toNat = 0 from rfl, upBTo_zero]; exact ho, hgo, rfl⟩ (.cons rfl (.cons rfl (.cons rfl (.nil)))) ?_
  rintro nn wl1 ls ⟨i, p, rfl, hi, hp, ho, hgo, rfl⟩
  have hul := upBTo_length k xs i.toNat
  refine Cq.seq ?_
  refine Cq.seq ?_
  refine Cq.region ?_
  refine Sq.move .plain rfl rfl ?_
  refine Sq.move .plain rfl rfl ?_
  refine Sq.lenBools (Own.row ho) .plain rfl und23 rfl ?_
  refine Sq.lss .plain rfl rfl rfl ?_
  refine Sq.part (fun c1 => ?_) (fun c1 => ?_)
  · refine Sq.nil ?_
    refine Eq.next ?_
    refine Cq.thn rfl ?_
    refine Cq.skip ?_
    refine Eq.next ?_
    refine Cq.seq ?_
    refine Cq.block ?_
    refine Cq.seq ?_
    refine Cq.region ?_
    refine Sq.move .plain rfl rfl ?_
    refine Sq.move .plain rfl rfl ?_
    refine Sq.move .plain rfl rfl ?_
    refine Sq.rem .plain rfl rfl rfl (by omega) ?_
    refine Sq.eql .plain rfl rfl rfl ?_
    obtain ⟨p2, hp3o⟩ := Own.at ho (i := i) (by omega) (by first | (simp only [List.length_map]; omega) | (simp; omega))
    refine Sq.atO sl23 hp3o .plain rfl rfl rfl ?_
    refine Sq.storeO one4 ho hp3o .plain rfl rfl rfl (fun w4 g5 ho6 => ?_)
    have hs7 := World.grownBy.size g5
    replace hgo := grown_trans hgo g5
    replace ho := ho6
    refine Sq.nil ?_
    refine Eq.next ?_
    refine Cq.region ?_
    refine Sq.move .plain rfl rfl ?_
    refine Sq.add .plain rfl rfl rfl (by omega) ?_
    refine Sq.assign .plain rfl rfl ?_
    refine Sq.nil ?_
    refine Eq.end ?_
    refine Eq.next ?_
    refine Cq.region ?_
    refine Sq.move .plain rfl rfl ?_
    refine Sq.add .plain rfl rfl rfl (by omega) ?_
    refine Sq.assign .plain rfl rfl ?_
    refine Sq.nil ?_
    have e1 := toNat_succ hi.1
    have e3 : ((i.toNat : Nat) : Int) = i := Int.toNat_of_nonneg hi.1
    refine Eq.round _ _ ⟨i + 1, _, rfl, by omega, by omega, by rw [e1, ← upBTo_step (by omega), List.map_set, e3, ← hp]; exact ho, hgo, rfl⟩ (by omega) (.cons rfl (.cons rfl (.cons rfl (.nil))))
  refine Sq.nil ?_
  refine Eq.next ?_
  refine Cq.els rfl ?_
  refine Cq.exit ?_
  refine Eq.past ?_
  refine Eq.past ?_
  refine Eq.hit ?_
  refine Eq.next ?_
  refine Cq.seq ?_
  refine Cq.region ?_
  refine Sq.move .plain rfl rfl ?_
  refine Sq.assign .plain rfl rfl ?_
  refine Sq.nil ?_
  refine Eq.next ?_
  refine Cq.ret ?_
  refine Eq.ret1 rfl rfl ?_
  rw [upBTo_all (by omega)] at ho
  exact ⟨by rw [hp, show i = xs.length by omega], ho, hgo⟩
set_option maxRecDepth 100000 in
theorem heldI_c (w0 : World) (r : Value) (k : Int) (n : Nat) (hr : Ints w0 3 r (upI k n)) (hl : n ≤ 1048576) (hk : 0 ≤ k ∧ k ≤ 4611686018427387904) : Ret Tryd.prog 49 #[r, Value.int .i64 k] w0 (fun v w => v = .int .i64 (k + n) ∧ Ext w0 w) := by
  have E := Ext.refl w0
  refine Ret.of (args := [r, Value.int .i64 k]) Tryd.func49 rfl rfl rfl ?_
  rintro _ rfl
  show Cq _ _ _ _ [(0, r), (1, Value.int .i64 k)] _
  refine Cq.seq ?_
  refine Cq.region ?_
  refine Sq.assign .plain rfl rfl ?_
  refine Sq.nil ?_
  refine Eq.next ?_
  refine Cq.seq ?_
  refine Cq.seq ?_
  refine Cq.region ?_
  refine Sq.assign .plain rfl rfl ?_
  refine Sq.nil ?_
  refine Eq.next ?_
  refine Cq.block ?_
  refine Cq.loop (fun nn w ls => ∃ (i : Int), ∃ (p : Int), ls = [(0, r), (1, Value.int .i64 p), (5, Value.int .i64 i)] ∧ (0 ≤ i ∧ i ≤ n) ∧ p = k + i ∧ Ext w0 w ∧ nn = ((n : Int) - i).toNat) _ _ ⟨0, _, rfl, by omega, by omega, E, rfl⟩ (.cons rfl (.cons rfl (.cons rfl (.nil)))) ?_
  rintro nn wl1 ls ⟨i, p, rfl, hi, hp, E, rfl⟩
  have hs1 := Below.size E
  have hul := upI_length k n
  have hat := upI_at (k := k) (n := n) (i := i.toNat)
  have e3 : ((i.toNat : Nat) : Int) = i := Int.toNat_of_nonneg hi.1
  refine Cq.seq ?_
  refine Cq.seq ?_
  refine Cq.region ?_
  refine Sq.move .plain rfl rfl ?_
  refine Sq.move .plain rfl rfl ?_
  refine Sq.lenInts (hr.ext E) .plain rfl und41 rfl ?_
  refine Sq.lss .plain rfl rfl rfl ?_
  refine Sq.part (fun c2 => ?_) (fun c2 => ?_)
  · refine Sq.nil ?_
    refine Eq.next ?_
    refine Cq.thn rfl ?_
    refine Cq.skip ?_
    refine Eq.next ?_
    refine Cq.seq ?_
    refine Cq.block ?_
    refine Cq.seq ?_
    refine Cq.seq ?_
    refine Cq.region ?_
    refine Sq.move .plain rfl rfl ?_
    refine Sq.move .plain rfl rfl ?_
    refine Sq.idxInts sl41 one3 (hr.ext E) .plain rfl rfl rfl .plain rfl rfl (by omega) (by omega) ?_
    refine Sq.move .plain rfl rfl ?_
    refine Sq.neq .plain rfl rfl rfl ?_
    refine Sq.isF (by rw [hat (by omega), e3, hp]; exact fun h => h rfl) ?_
    refine Sq.nil ?_
    refine Eq.next ?_
    refine Cq.els rfl ?_
    refine Cq.skip ?_
    refine Eq.next ?_
    refine Cq.region ?_
    refine Sq.move .plain rfl rfl ?_
    refine Sq.add .plain rfl rfl rfl (by omega) ?_
    refine Sq.assign .plain rfl rfl ?_
    refine Sq.nil ?_
    refine Eq.end ?_
    refine Eq.next ?_
    refine Cq.region ?_
    refine Sq.move .plain rfl rfl ?_
    refine Sq.add .plain rfl rfl rfl (by omega) ?_
    refine Sq.assign .plain rfl rfl ?_
    refine Sq.nil ?_
    refine Eq.round _ _ ⟨i + 1, _, rfl, by omega, by omega, E, rfl⟩ (by omega) (.cons rfl (.cons rfl (.cons rfl (.nil))))
  refine Sq.nil ?_
  refine Eq.next ?_
  refine Cq.els rfl ?_
  refine Cq.exit ?_
  refine Eq.past ?_
  refine Eq.past ?_
  refine Eq.hit ?_
  refine Eq.next ?_
  refine Cq.seq ?_
  refine Cq.region ?_
  refine Sq.move .plain rfl rfl ?_
  refine Sq.assign .plain rfl rfl ?_
  refine Sq.nil ?_
  refine Eq.next ?_
  refine Cq.ret ?_
  refine Eq.ret1 rfl rfl ?_
  exact ⟨by rw [hp, show i = n by omega], E⟩
set_option maxRecDepth 100000 in
theorem heldB_c (w0 : World) (r : Value) (k : Int) (n : Nat) (hr : Bools w0 4 r (upB k n)) (hl : n ≤ 1048576) (hk : 0 ≤ k ∧ k ≤ 4611686018427387904) : Ret Tryd.prog 28 #[r, Value.int .i64 k] w0 (fun v w => v = .int .i64 (k + n) ∧ Ext w0 w) := by
  have E := Ext.refl w0
  refine Ret.of (args := [r, Value.int .i64 k]) Tryd.func28 rfl rfl rfl ?_
  rintro _ rfl
  show Cq _ _ _ _ [(0, r), (1, Value.int .i64 k)] _
  refine Cq.seq ?_
  refine Cq.region ?_
  refine Sq.assign .plain rfl rfl ?_
  refine Sq.nil ?_
  refine Eq.next ?_
  refine Cq.seq ?_
  refine Cq.seq ?_
  refine Cq.region ?_
  refine Sq.assign .plain rfl rfl ?_
  refine Sq.nil ?_
  refine Eq.next ?_
  refine Cq.block ?_
  refine Cq.loop (fun nn w ls => ∃ (i : Int), ∃ (p : Int), ls = [(0, r), (1, Value.int .i64 p), (5, Value.int .i64 i)] ∧ (0 ≤ i ∧ i ≤ n) ∧ p = k + i ∧ Ext w0 w ∧ nn = ((n : Int) - i).toNat) _ _ ⟨0, _, rfl, by omega, by omega, E, rfl⟩ (.cons rfl (.cons rfl (.cons rfl (.nil)))) ?_
  rintro nn wl1 ls ⟨i, p, rfl, hi, hp, E, rfl⟩
  have hs1 := Below.size E
  have hul := upB_length k n
  have hat := upB_at (k := k) (n := n) (i := i.toNat)
  have e3 : ((i.toNat : Nat) : Int) = i := Int.toNat_of_nonneg hi.1
  refine Cq.seq ?_
  refine Cq.seq ?_
  refine Cq.region ?_
  refine Sq.move .plain rfl rfl ?_
  refine Sq.move .plain rfl rfl ?_
  refine Sq.lenBools (hr.ext E) .plain rfl und23 rfl ?_
  refine Sq.lss .plain rfl rfl rfl ?_
  refine Sq.part (fun c2 => ?_) (fun c2 => ?_)
  · refine Sq.nil ?_
    refine Eq.next ?_
    refine Cq.thn rfl ?_
    refine Cq.skip ?_
    refine Eq.next ?_
    refine Cq.seq ?_
    refine Cq.block ?_
    refine Cq.seq ?_
    refine Cq.seq ?_
    refine Cq.region ?_
    refine Sq.move .plain rfl rfl ?_
    refine Sq.move .plain rfl rfl ?_
    refine Sq.idxBools sl23 one4 (hr.ext E) .plain rfl rfl rfl .plain rfl rfl (by omega) (by omega) ?_
    refine Sq.move .plain rfl rfl ?_
    refine Sq.rem .plain rfl rfl rfl (by omega) ?_
    refine Sq.eql .plain rfl rfl rfl ?_
    refine Sq.neqB und4 .plain rfl rfl rfl ?_
    refine Sq.beF (by rw [hat (by omega), e3, hp]; simp) ?_
    refine Sq.nil ?_
    refine Eq.next ?_
    refine Cq.els rfl ?_
    refine Cq.skip ?_
    refine Eq.next ?_
    refine Cq.region ?_
    refine Sq.move .plain rfl rfl ?_
    refine Sq.add .plain rfl rfl rfl (by omega) ?_
    refine Sq.assign .plain rfl rfl ?_
    refine Sq.nil ?_
    refine Eq.end ?_
    refine Eq.next ?_
    refine Cq.region ?_
    refine Sq.move .plain rfl rfl ?_
    refine Sq.add .plain rfl rfl rfl (by omega) ?_
    refine Sq.assign .plain rfl rfl ?_
    refine Sq.nil ?_
    refine Eq.round _ _ ⟨i + 1, _, rfl, by omega, by omega, E, rfl⟩ (by omega) (.cons rfl (.cons rfl (.cons rfl (.nil))))
  refine Sq.nil ?_
  refine Eq.next ?_
  refine Cq.els rfl ?_
  refine Cq.exit ?_
  refine Eq.past ?_
  refine Eq.past ?_
  refine Eq.hit ?_
  refine Eq.next ?_
  refine Cq.seq ?_
  refine Cq.region ?_
  refine Sq.move .plain rfl rfl ?_
  refine Sq.assign .plain rfl rfl ?_
  refine Sq.nil ?_
  refine Eq.next ?_
  refine Cq.ret ?_
  refine Eq.ret1 rfl rfl ?_
  exact ⟨by rw [hp, show i = n by omega], E⟩
set_option maxRecDepth 100000 in
theorem markSS_c (w0 : World) (B U : Nat) (r : Value) (xss : List (List Int)) (k : Int) (hor : OwnRows w0 B U 41 3 r xss) (hx : xss.length ≤ 1048576) (hxx : ∀ r ∈ xss, r.length ≤ 1048576) (hk : 0 ≤ k ∧ k ≤ 2305843009213693952) : Ret Tryd.prog 25 #[r, Value.int .i64 k] w0 (fun v w => v = .int .i64 (k + sumR xss) ∧ OwnRows w B U 41 3 r (markR xss k) ∧ Wrote w0 w B U ∧ KeepT w0 w 3) := by
  have hwr := Wrote.refl w0 B U
  have hkp := KeepT.refl w0 3
  refine Ret.of (args := [r, Value.int .i64 k]) Tryd.func25 rfl rfl rfl ?_
  rintro _ rfl
  show Cq _ _ _ _ [(0, r), (1, Value.int .i64 k)] _
  refine Cq.seq ?_
  refine Cq.region ?_
  refine Sq.assign .plain rfl rfl ?_
  refine Sq.nil ?_
  refine Eq.next ?_
  refine Cq.seq ?_
  refine Cq.seq ?_
  refine Cq.region ?_
  refine Sq.assign .plain rfl rfl ?_
  refine Sq.nil ?_
  refine Eq.next ?_
  refine Cq.block ?_
  refine Cq.loop (fun nn w ls => ∃ (i : Int), ∃ (p : Int), ls = [(0, r), (1, Value.int .i64 p), (5, Value.int .i64 i)] ∧ (0 ≤ i ∧ i ≤ xss.length) ∧ p = k + offR xss i.toNat ∧ OwnRows w B U 41 3 r (rowsTo xss k i.toNat) ∧ Wrote w0 w B U ∧ KeepT w0 w 3 ∧ nn = ((xss.length : Int) - i).toNat) _ _ ⟨0, _, rfl, by omega, by simp [offR], by rw [show (0 : Int).toNat = 0 from rfl, rowsTo_zero]; exact hor, hwr, hkp, rfl⟩ (.cons rfl (.cons rfl (.cons rfl (.nil)))) ?_
  rintro nn wl1 ls ⟨i, p, rfl, hi, hp, hor, hwr, hkp, rfl⟩
  have hul := rowsTo_length xss k i.toNat
  refine Cq.seq ?_
  refine Cq.seq ?_
  refine Cq.region ?_
  refine Sq.move .plain rfl rfl ?_
  refine Sq.move .plain rfl rfl ?_
  refine Sq.lenRows (OwnRows.rows hor) .plain rfl und22 rfl ?_
  refine Sq.lss .plain rfl rfl rfl ?_
  refine Sq.part (fun c1 => ?_) (fun c1 => ?_)
  · refine Sq.nil ?_
    refine Eq.next ?_
    refine Cq.thn rfl ?_
    refine Cq.skip ?_
    refine Eq.next ?_
    refine Cq.seq ?_
    refine Cq.block ?_
    refine Cq.region ?_
    refine Sq.move .plain rfl rfl ?_
    refine Sq.move .plain rfl rfl ?_
    obtain ⟨pA, rA, hpA, _⟩ := Rows.at (OwnRows.rows hor) (i := i) (by omega) (by rw [rowsTo_length]; omega)
    refine Sq.val .plain rfl rfl (Still.at' sl22 hpA rfl rfl) ?_
    refine Sq.val .plain rfl rfl (Still.loadA one41 rfl hpA.1) ?_
    refine Sq.move .plain rfl rfl ?_
    have hrA := (OwnRows.rowAt hor hpA).1
    have hltA := OwnRows.rowLt hor hpA
    rw [rowsTo_at (by omega)] at hrA
    have hof := offR_le hxx i.toNat
    have hof0 := offR_nonneg xss i.toNat
    refine Sq.call fn48 .plain rfl rfl (markI_c _ B rA (xss.getD i.toNat []) p hrA (hxx _ (getD_mem (by omega))) (by omega)) ?_
    rintro _ w2 ⟨rfl, hr3, g4⟩
    have hkp := KeepT.next hkp hrA g4
    replace hor := (OwnRows.set hor (by decide) hpA hr3 g4).1
    replace hwr := hwr.trans (Wrote.of g4 hltA)
    refine Sq.assign .plain rfl rfl ?_
    refine Sq.nil ?_
    refine Eq.end ?_
    refine Eq.next ?_
    refine Cq.region ?_
    refine Sq.move .plain rfl rfl ?_
    refine Sq.add .plain rfl rfl rfl (by omega) ?_
    refine Sq.assign .plain rfl rfl ?_
    refine Sq.nil ?_
    have e1 := toNat_succ hi.1
    refine Eq.round _ _ ⟨i + 1, _, rfl, by omega, by rw [e1, offR, hp]; omega, by rw [e1, ← rowsTo_step (by omega), ← hp]; exact hor, hwr, hkp, rfl⟩ (by omega) (.cons rfl (.cons rfl (.cons rfl (.nil))))
  refine Sq.nil ?_
  refine Eq.next ?_
  refine Cq.els rfl ?_
  refine Cq.exit ?_
  refine Eq.past ?_
  refine Eq.past ?_
  refine Eq.hit ?_
  refine Eq.next ?_
  refine Cq.seq ?_
  refine Cq.region ?_
  refine Sq.move .plain rfl rfl ?_
  refine Sq.assign .plain rfl rfl ?_
  refine Sq.nil ?_
  refine Eq.next ?_
  refine Cq.ret ?_
  refine Eq.ret1 rfl rfl ?_
  rw [rowsTo_all (by omega)] at hor
  exact ⟨by rw [hp, show i.toNat = xss.length by omega]; rfl, hor, hwr, hkp⟩
set_option maxRecDepth 100000 in
theorem heldSS_c (w0 : World) (r : Value) (xss : List (List Int)) (k : Int) (hr : Rows w0 41 3 r (markR xss k)) (hx : xss.length ≤ 1048576) (hxx : ∀ r ∈ xss, r.length ≤ 1048576) (hk : 0 ≤ k ∧ k ≤ 2305843009213693952) : Ret Tryd.prog 27 #[r, Value.int .i64 k] w0 (fun v w => v = .int .i64 (k + sumR xss) ∧ Ext w0 w) := by
  have E := Ext.refl w0
  refine Ret.of (args := [r, Value.int .i64 k]) Tryd.func27 rfl rfl rfl ?_
  rintro _ rfl
  show Cq _ _ _ _ [(0, r), (1, Value.int .i64 k)] _
  refine Cq.seq ?_
  refine Cq.region ?_
  refine Sq.assign .plain rfl rfl ?_
  refine Sq.nil ?_
  refine Eq.next ?_
  refine Cq.seq ?_
  refine Cq.seq ?_
  refine Cq.region ?_
  refine Sq.assign .plain rfl rfl ?_
  refine Sq.nil ?_
  refine Eq.next ?_
  refine Cq.block ?_
  refine Cq.loop (fun nn w ls => ∃ (i : Int), ∃ (p : Int), ls = [(0, r), (1, Value.int .i64 p), (5, Value.int .i64 i)] ∧ (0 ≤ i ∧ i ≤ xss.length) ∧ p = k + offR xss i.toNat ∧ Ext w0 w ∧ nn = ((xss.length : Int) - i).toNat) _ _ ⟨0, _, rfl, by omega, by simp [offR], E, rfl⟩ (.cons rfl (.cons rfl (.cons rfl (.nil)))) ?_
  rintro nn wl1 ls ⟨i, p, rfl, hi, hp, E, rfl⟩
  have hs1 := Below.size E
  have hul := markR_length xss k
  have hof := offR_le hxx i.toNat
  have hof0 := offR_nonneg xss i.toNat
  refine Cq.seq ?_
  refine Cq.seq ?_
  refine Cq.region ?_
  refine Sq.move .plain rfl rfl ?_
  refine Sq.move .plain rfl rfl ?_
  refine Sq.lenRows (hr.ext E) .plain rfl und22 rfl ?_
  refine Sq.lss .plain rfl rfl rfl ?_
  refine Sq.part (fun c2 => ?_) (fun c2 => ?_)
  · refine Sq.nil ?_
    refine Eq.next ?_
    refine Cq.thn rfl ?_
    refine Cq.skip ?_
    refine Eq.next ?_
    refine Cq.seq ?_
    refine Cq.block ?_
    refine Cq.seq ?_
    refine Cq.region ?_
    refine Sq.move .plain rfl rfl ?_
    refine Sq.move .plain rfl rfl ?_
    refine Sq.idxRows sl22 one41 (hr.ext E) .plain rfl rfl rfl .plain rfl rfl (by omega) (by omega) (fun r3 hr4 => ?_)
    refine Sq.move .plain rfl rfl ?_
    refine Sq.call fn49 .plain rfl rfl (heldI_c _ _ p _ (by rw [hp, ← markR_at (by omega)]; exact hr4) (hxx _ (getD_mem (by omega))) (by omega)) ?_
    rintro _ w6 ⟨rfl, e7⟩
    have hs8 := Below.size E
    have hs9 := Below.size e7
    replace E := E.trans e7
    refine Sq.assign .plain rfl rfl ?_
    refine Sq.nil ?_
    refine Eq.next ?_
    refine Cq.seq ?_
    refine Cq.region ?_
    refine Sq.move .plain rfl rfl ?_
    refine Sq.lss .plain rfl rfl rfl ?_
    refine Sq.isF (by omega) ?_
    refine Sq.nil ?_
    refine Eq.next ?_
    refine Cq.els rfl ?_
    refine Cq.skip ?_
    refine Eq.end ?_
    refine Eq.next ?_
    refine Cq.region ?_
    refine Sq.move .plain rfl rfl ?_
    refine Sq.add .plain rfl rfl rfl (by omega) ?_
    refine Sq.assign .plain rfl rfl ?_
    refine Sq.nil ?_
    have e1 := toNat_succ hi.1
    refine Eq.round _ _ ⟨i + 1, _, rfl, by omega, by rw [e1, offR, hp]; omega, E, rfl⟩ (by omega) (.cons rfl (.cons rfl (.cons rfl (.nil))))
  refine Sq.nil ?_
  refine Eq.next ?_
  refine Cq.els rfl ?_
  refine Cq.exit ?_
  refine Eq.past ?_
  refine Eq.past ?_
  refine Eq.hit ?_
  refine Eq.next ?_
  refine Cq.seq ?_
  refine Cq.region ?_
  refine Sq.move .plain rfl rfl ?_
  refine Sq.assign .plain rfl rfl ?_
  refine Sq.nil ?_
  refine Eq.next ?_
  refine Cq.ret ?_
  refine Eq.ret1 rfl rfl ?_
  exact ⟨by rw [hp, show i.toNat = xss.length by omega]; rfl, E⟩
set_option maxRecDepth 100000 in
theorem markA_c (w0 : World) (B U : Nat) (a : A) (nx ac : Value) (k : Int) (hor : OwnRows w0 B U 41 3 nx a.next) (hoc : Own w0 B 4 ac (a.acc.map Value.bool)) (hlw : ∀ k, ac.ownBlock = some k → k < U) (hsm : SmX a) (hk : 0 ≤ k ∧ k ≤ 1152921504606846976) : Ret Tryd.prog 9 #[Value.agg #[Value.int .i64 a.al, nx, ac], Value.int .i64 k] w0 (fun v w => v = .int .i64 (k + cntA a) ∧ OwnRows w B U 41 3 nx (markR a.next k) ∧ Own w B 4 ac ((upB (k + sumR a.next) a.acc.length).map Value.bool) ∧ Wrote w0 w B U) := by
  have hwr := Wrote.refl w0 B U
  refine Ret.of (args := [Value.agg #[Value.int .i64 a.al, nx, ac], Value.int .i64 k]) Tryd.func9 rfl rfl rfl ?_
  rintro _ rfl
  show Cq _ _ _ _ [(0, Value.agg #[Value.int .i64 a.al, nx, ac]), (1, Value.int .i64 k)] _
  refine Cq.seq ?_
  refine Cq.region ?_
  refine Sq.box .plain rfl rfl (fun b1 w2 e3 hB0 hlo4 => ?_)
  have hs0 := Below.size e3
  replace hor := hor.ext e3
  replace hoc := hoc.ext e3
  replace hwr := hwr.trans (Wrote.ofExt e3 _ _)
  refine Sq.assign .plain rfl rfl ?_
  refine Sq.nil ?_
  refine Eq.next ?_
  refine Cq.seq ?_
  refine Cq.region ?_
  refine Sq.fieldAddr fld25_1 .plain rfl rfl ?_
  refine Sq.loadB one22 .plain rfl rfl hB0 rfl ?_
  refine Sq.move .plain rfl rfl ?_
  refine Sq.call fn25 .plain rfl rfl (markSS_c _ B U nx a.next k hor hsm.1 hsm.2.1 (by omega)) ?_
  rintro _ w5 ⟨rfl, hor', hw1, hk1⟩
  replace hor := hor'
  clear hor'
  replace hoc := hoc.kept hk1 (by decide)
  replace hB0 := hk1 _ _ _ hB0 (by decide)
  replace hwr := hwr.trans hw1
  refine Sq.assign .plain rfl rfl ?_
  refine Sq.nil ?_
  refine Eq.next ?_
  refine Cq.seq ?_
  refine Cq.region ?_
  refine Sq.fieldAddr fld25_2 .plain rfl rfl ?_
  refine Sq.loadB one23 .plain rfl rfl hB0 rfl ?_
  refine Sq.move .plain rfl rfl ?_
  have hcl := cntA_le hsm
  refine Sq.call fn26 .plain rfl rfl (markB_c _ B ac a.acc (k + sumR a.next) hoc hsm.2.2 (by omega)) ?_
  rintro _ w6 ⟨rfl, hoc', hg⟩
  replace hor := hor.owned hoc hg (by decide) (by decide)
  replace hwr := hwr.trans (Wrote.of hg fun k hk => ⟨(hoc.lt k hk).1, hlw k hk⟩)
  replace hoc := hoc'
  refine Sq.assign .plain rfl rfl ?_
  refine Sq.nil ?_
  refine Eq.next ?_
  refine Cq.seq ?_
  refine Cq.region ?_
  refine Sq.move .plain rfl rfl ?_
  refine Sq.assign .plain rfl rfl ?_
  refine Sq.nil ?_
  refine Eq.next ?_
  refine Cq.ret ?_
  refine Eq.ret1 rfl rfl ?_
  exact ⟨by rw [Int.add_assoc]; rfl, hor, hoc, hwr⟩
set_option maxRecDepth 100000 in
theorem heldA_c (w0 : World) (a : A) (nx ac : Value) (k : Int) (hnx : Rows w0 41 3 nx (markR a.next k)) (hac : Bools w0 4 ac (upB (k + sumR a.next) a.acc.length)) (hsm : SmX a) (hk : 0 ≤ k ∧ k ≤ 1152921504606846976) : Ret Tryd.prog 10 #[Value.agg #[Value.int .i64 a.al, nx, ac], Value.int .i64 k] w0 (fun v w => v = .int .i64 (k + cntA a) ∧ Ext w0 w) := by
  have E := Ext.refl w0
  have hcl := cntA_le hsm
  refine Ret.of (args := [Value.agg #[Value.int .i64 a.al, nx, ac], Value.int .i64 k]) Tryd.func10 rfl rfl rfl ?_
  rintro _ rfl
  show Cq _ _ _ _ [(0, Value.agg #[Value.int .i64 a.al, nx, ac]), (1, Value.int .i64 k)] _
  refine Cq.seq ?_
  refine Cq.region ?_
  refine Sq.box .plain rfl rfl (fun b1 w2 e3 hB4 hlo5 => ?_)
  have hd6 := Nat.le_trans (Below.size E) hlo5
  have hs7 := Below.size e3
  replace E := E.trans e3
  refine Sq.assign .plain rfl rfl ?_
  refine Sq.nil ?_
  refine Eq.next ?_
  refine Cq.seq ?_
  refine Cq.region ?_
  refine Sq.fieldAddr fld25_1 .plain rfl rfl ?_
  refine Sq.loadB one22 .plain rfl rfl hB4 rfl ?_
  refine Sq.move .plain rfl rfl ?_
  have hd11 := hB4.lt
  refine Sq.call fn27 .plain rfl rfl (heldSS_c _ _ a.next k (hnx.ext E) hsm.1 hsm.2.1 (by omega)) ?_
  rintro _ w9 ⟨rfl, e10⟩
  have hs12 := Below.size E
  have hs13 := Below.size e10
  replace E := E.trans e10
  replace hB4 := hB4.ext e10
  refine Sq.assign .plain rfl rfl ?_
  refine Sq.nil ?_
  refine Eq.next ?_
  refine Cq.seq ?_
  refine Cq.seq ?_
  refine Cq.region ?_
  refine Sq.move .plain rfl rfl ?_
  refine Sq.lss .plain rfl rfl rfl ?_
  refine Sq.isF (by omega) ?_
  refine Sq.nil ?_
  refine Eq.next ?_
  refine Cq.els rfl ?_
  refine Cq.skip ?_
  refine Eq.next ?_
  refine Cq.seq ?_
  refine Cq.region ?_
  refine Sq.fieldAddr fld25_2 .plain rfl rfl ?_
  refine Sq.loadB one23 .plain rfl rfl hB4 rfl ?_
  refine Sq.move .plain rfl rfl ?_
  have hd17 := hB4.lt
  refine Sq.call fn28 .plain rfl rfl (heldB_c _ _ (k + sumR a.next) _ (hac.ext E) hsm.2.2 (by omega)) ?_
  rintro _ w15 ⟨rfl, e16⟩
  have hs18 := Below.size E
  have hs19 := Below.size e16
  replace E := E.trans e16
  refine Sq.assign .plain rfl rfl ?_
  refine Sq.nil ?_
  refine Eq.next ?_
  refine Cq.seq ?_
  refine Cq.seq ?_
  refine Cq.region ?_
  refine Sq.move .plain rfl rfl ?_
  refine Sq.lss .plain rfl rfl rfl ?_
  refine Sq.isF (by omega) ?_
  refine Sq.nil ?_
  refine Eq.next ?_
  refine Cq.els rfl ?_
  refine Cq.skip ?_
  refine Eq.next ?_
  refine Cq.seq ?_
  refine Cq.region ?_
  refine Sq.move .plain rfl rfl ?_
  refine Sq.assign .plain rfl rfl ?_
  refine Sq.nil ?_
  refine Eq.next ?_
  refine Cq.ret ?_
  refine Eq.ret1 rfl rfl ?_
  exact ⟨by rw [Int.add_assoc]; rfl, E⟩
end Go.Proofs.YtnckpafknojdhaaDoor
set_option linter.unusedSimpArgs false
set_option linter.unusedVariables false
namespace Go.Proofs.YtnckpafknojdhaaDoor
open Go.RowKit
set_option maxRecDepth 100000 in
theorem eqIntS_c (w0 : World) (xs ys : List Int) (r q : Value) (hr : Ints w0 3 r xs) (hq : Ints w0 3 q ys) (hx : xs.length ≤ 1000000000) : Ret Tryd.prog 47 #[r, q] w0 (fun v w => v = .bool (xs == ys) ∧ Ext w0 w) := by
  have E := Ext.refl w0
  refine Ret.of (args := [r, q]) Tryd.func47 rfl rfl rfl ?_
  rintro _ rfl
  show Cq _ _ _ _ [(0, r), (1, q)] _
  refine Cq.seq ?_
  refine Cq.region ?_
  refine Sq.assign .plain rfl rfl ?_
  refine Sq.nil ?_
  refine Eq.next ?_
  refine Cq.seq ?_
  refine Cq.seq ?_
  refine Cq.region ?_
  refine Sq.move .plain rfl rfl ?_
  refine Sq.lenInts (hr.ext E) .plain rfl und41 rfl ?_
  refine Sq.move .plain rfl rfl ?_
  refine Sq.lenInts (hq.ext E) .plain rfl und41 rfl ?_
  refine Sq.neq .plain rfl rfl rfl ?_
  refine Sq.part (fun c1 => ?_) (fun c1 => ?_)
  · refine Sq.nil ?_
    refine Eq.next ?_
    refine Cq.thn rfl ?_
    refine Cq.seq ?_
    refine Cq.region ?_
    refine Sq.assign .plain rfl rfl ?_
    refine Sq.nil ?_
    refine Eq.next ?_
    refine Cq.ret ?_
    refine Eq.pastRet ?_
    refine Eq.ret1 rfl rfl ?_
    exact ⟨by first | rw [beq_len (by omega)] | rw [beq_at (k := k.toNat) 0 (by simpa using hne)] | rw [beq_done (k := k.toNat) hp (by omega) (by omega)], E⟩
  refine Sq.nil ?_
  refine Eq.next ?_
  refine Cq.els rfl ?_
  refine Cq.skip ?_
  refine Eq.next ?_
  refine Cq.seq ?_
  refine Cq.seq ?_
  refine Cq.region ?_
  refine Sq.assign .plain rfl rfl ?_
  refine Sq.nil ?_
  refine Eq.next ?_
  refine Cq.block ?_
  refine Cq.loop (fun nn w ls => ∃ (k : Int), ls = [(0, r), (1, q), (5, Value.int .i64 k)] ∧ xs.length = ys.length ∧ (0 ≤ k ∧ k ≤ xs.length) ∧ xs.take k.toNat = ys.take k.toNat ∧ Ext w0 w ∧ nn = ((xs.length : Int) - k).toNat) _ _ ⟨0, rfl, by omega, by omega, rfl, E, rfl⟩ (.cons rfl (.cons rfl (.cons rfl (.nil)))) ?_
  rintro nn wl1 ls ⟨k, rfl, hl, hk, hp, E, rfl⟩
  have hs2 := Below.size E
  refine Cq.seq ?_
  refine Cq.seq ?_
  refine Cq.region ?_
  refine Sq.move .plain rfl rfl ?_
  refine Sq.move .plain rfl rfl ?_
  refine Sq.lenInts (hr.ext E) .plain rfl und41 rfl ?_
  refine Sq.lss .plain rfl rfl rfl ?_
  refine Sq.part (fun c3 => ?_) (fun c3 => ?_)
  · refine Sq.nil ?_
    refine Eq.next ?_
    refine Cq.thn rfl ?_
    refine Cq.skip ?_
    refine Eq.next ?_
    refine Cq.seq ?_
    refine Cq.block ?_
    refine Cq.seq ?_
    refine Cq.draw 9 none mixed (fun w4 e5 => ?_)
    have hs6 := Below.size e5
    replace E := E.trans e5
    have E_w4 := E
    refine Gq.st 0 rfl (by kernel_rfl) rfl .plain rfl (fun _ _ _ h => h) (World.grownBy.refl w4 _) (fun w' x => Still.move rfl) ?_
    refine Gq.st 1 rfl (by kernel_rfl) rfl .plain rfl (fun _ _ _ h => h) (World.grownBy.refl w4 _) (fun w' x => Still.move rfl) ?_
    obtain ⟨p7, hp8_w4⟩ := Ints.at hr (i := k) (by omega) (by omega)
    refine Gq.st 2 rfl (by kernel_rfl) rfl .plain rfl (fun _ _ _ h => h) (World.grownBy.refl w4 _) (fun w' x => Still.at' sl41 hp8_w4 rfl rfl) ?_
    refine Gq.st 3 rfl (by kernel_rfl) rfl .plain rfl (fun _ _ _ h => h) (World.grownBy.refl w4 _) (fun w' x => Still.loadA one3 rfl (hp8_w4.ext (E_w4.trans (Ext.of_grown x))).1) ?_
    refine Gq.st 4 rfl (by kernel_rfl) rfl .plain rfl (fun _ _ _ h => h) (World.grownBy.refl w4 _) (fun w' x => Still.move rfl) ?_
    refine Gq.st 5 rfl (by kernel_rfl) rfl .plain rfl (fun _ _ _ h => h) (World.grownBy.refl w4 _) (fun w' x => Still.move rfl) ?_
    obtain ⟨p9, hp10_w4⟩ := Ints.at hq (i := k) (by omega) (by omega)
    refine Gq.st 6 rfl (by kernel_rfl) rfl .plain rfl (fun _ _ _ h => h) (World.grownBy.refl w4 _) (fun w' x => Still.at' sl41 hp10_w4 rfl rfl) ?_
    refine Gq.st 7 rfl (by kernel_rfl) rfl .plain rfl (fun _ _ _ h => h) (World.grownBy.refl w4 _) (fun w' x => Still.loadA one3 rfl (hp10_w4.ext (E_w4.trans (Ext.of_grown x))).1) ?_
    refine Gq.st 8 rfl (by kernel_rfl) rfl .plain rfl (fun _ _ _ h => h) (World.grownBy.refl w4 _) (fun w' x => Still.neq rfl rfl) ?_
    refine Gq.part (fun hne => ?_) (fun hne => ?_)
    · refine Gq.done (by kernel_rfl) ?_
      refine Eq.next ?_
      refine Cq.thn rfl ?_
      refine Cq.seq ?_
      refine Cq.region ?_
      refine Sq.assign .plain rfl rfl ?_
      refine Sq.nil ?_
      refine Eq.next ?_
      refine Cq.ret ?_
      refine Eq.outRet ?_
      refine Eq.pastRet ?_
      refine Eq.pastRet ?_
      refine Eq.outRet ?_
      refine Eq.pastRet ?_
      refine Eq.ret1 rfl rfl ?_
      exact ⟨by first | rw [beq_len (by omega)] | rw [beq_at (k := k.toNat) 0 (by simpa using hne)] | rw [beq_done (k := k.toNat) hp (by omega) (by omega)], E⟩
    refine Gq.done (by kernel_rfl) ?_
    refine Eq.next ?_
    refine Cq.els rfl ?_
    refine Cq.skip ?_
    refine Eq.end ?_
    refine Eq.next ?_
    refine Cq.region ?_
    refine Sq.move .plain rfl rfl ?_
    refine Sq.add .plain rfl rfl rfl (by omega) ?_
    refine Sq.assign .plain rfl rfl ?_
    refine Sq.nil ?_
    have e1 := toNat_succ hk.1
    refine Eq.round _ _ ⟨k + 1, rfl, hl, by omega, by rw [e1]; exact take_eq_snoc 0 hl hp (by omega) (by simpa using hne), E, rfl⟩ (by omega) (.cons rfl (.cons rfl (.cons rfl (.nil))))
  refine Sq.nil ?_
  refine Eq.next ?_
  refine Cq.els rfl ?_
  refine Cq.exit ?_
  refine Eq.past ?_
  refine Eq.past ?_
  refine Eq.hit ?_
  refine Eq.next ?_
  refine Cq.seq ?_
  refine Cq.region ?_
  refine Sq.assign .plain rfl rfl ?_
  refine Sq.nil ?_
  refine Eq.next ?_
  refine Cq.ret ?_
  refine Eq.ret1 rfl rfl ?_
  exact ⟨by first | rw [beq_len (by omega)] | rw [beq_at (k := k.toNat) 0 (by simpa using hne)] | rw [beq_done (k := k.toNat) hp (by omega) (by omega)], E⟩
set_option maxRecDepth 100000 in
theorem eqBoolS_c (w0 : World) (xs ys : List Bool) (r q : Value) (hr : Bools w0 4 r xs) (hq : Bools w0 4 q ys) (hx : xs.length ≤ 1000000000) : Ret Tryd.prog 24 #[r, q] w0 (fun v w => v = .bool (xs == ys) ∧ Ext w0 w) := by
  have E := Ext.refl w0
  refine Ret.of (args := [r, q]) Tryd.func24 rfl rfl rfl ?_
  rintro _ rfl
  show Cq _ _ _ _ [(0, r), (1, q)] _
  refine Cq.seq ?_
  refine Cq.region ?_
  refine Sq.assign .plain rfl rfl ?_
  refine Sq.nil ?_
  refine Eq.next ?_
  refine Cq.seq ?_
  refine Cq.seq ?_
  refine Cq.region ?_
  refine Sq.move .plain rfl rfl ?_
  refine Sq.lenBools (hr.ext E) .plain rfl und23 rfl ?_
  refine Sq.move .plain rfl rfl ?_
  refine Sq.lenBools (hq.ext E) .plain rfl und23 rfl ?_
  refine Sq.neq .plain rfl rfl rfl ?_
  refine Sq.part (fun c1 => ?_) (fun c1 => ?_)
  · refine Sq.nil ?_
    refine Eq.next ?_
    refine Cq.thn rfl ?_
    refine Cq.seq ?_
    refine Cq.region ?_
    refine Sq.assign .plain rfl rfl ?_
    refine Sq.nil ?_
    refine Eq.next ?_
    refine Cq.ret ?_
    refine Eq.pastRet ?_
    refine Eq.ret1 rfl rfl ?_
    exact ⟨by first | rw [beq_len (by omega)] | rw [beq_at (k := k.toNat) false (by simpa using hne)] | rw [beq_done (k := k.toNat) hp (by omega) (by omega)], E⟩
  refine Sq.nil ?_
  refine Eq.next ?_
  refine Cq.els rfl ?_
  refine Cq.skip ?_
  refine Eq.next ?_
  refine Cq.seq ?_
  refine Cq.seq ?_
  refine Cq.region ?_
  refine Sq.assign .plain rfl rfl ?_
  refine Sq.nil ?_
  refine Eq.next ?_
  refine Cq.block ?_
  refine Cq.loop (fun nn w ls => ∃ (k : Int), ls = [(0, r), (1, q), (5, Value.int .i64 k)] ∧ xs.length = ys.length ∧ (0 ≤ k ∧ k ≤ xs.length) ∧ xs.take k.toNat = ys.take k.toNat ∧ Ext w0 w ∧ nn = ((xs.length : Int) - k).toNat) _ _ ⟨0, rfl, by omega, by omega, rfl, E, rfl⟩ (.cons rfl (.cons rfl (.cons rfl (.nil)))) ?_
  rintro nn wl1 ls ⟨k, rfl, hl, hk, hp, E, rfl⟩
  have hs2 := Below.size E
  refine Cq.seq ?_
  refine Cq.seq ?_
  refine Cq.region ?_
  refine Sq.move .plain rfl rfl ?_
  refine Sq.move .plain rfl rfl ?_
  refine Sq.lenBools (hr.ext E) .plain rfl und23 rfl ?_
  refine Sq.lss .plain rfl rfl rfl ?_
  refine Sq.part (fun c3 => ?_) (fun c3 => ?_)
  · refine Sq.nil ?_
    refine Eq.next ?_
    refine Cq.thn rfl ?_
    refine Cq.skip ?_
    refine Eq.next ?_
    refine Cq.seq ?_
    refine Cq.block ?_
    refine Cq.seq ?_
    refine Cq.draw 9 none mixed (fun w4 e5 => ?_)
    have hs6 := Below.size e5
    replace E := E.trans e5
    have E_w4 := E
    refine Gq.st 0 rfl (by kernel_rfl) rfl .plain rfl (fun _ _ _ h => h) (World.grownBy.refl w4 _) (fun w' x => Still.move rfl) ?_
    refine Gq.st 1 rfl (by kernel_rfl) rfl .plain rfl (fun _ _ _ h => h) (World.grownBy.refl w4 _) (fun w' x => Still.move rfl) ?_
    obtain ⟨p7, hp8_w4⟩ := Bools.at hr (i := k) (by omega) (by omega)
    refine Gq.st 2 rfl (by kernel_rfl) rfl .plain rfl (fun _ _ _ h => h) (World.grownBy.refl w4 _) (fun w' x => Still.at' sl23 hp8_w4 rfl rfl) ?_
    refine Gq.st 3 rfl (by kernel_rfl) rfl .plain rfl (fun _ _ _ h => h) (World.grownBy.refl w4 _) (fun w' x => Still.loadA one4 rfl (hp8_w4.ext (E_w4.trans (Ext.of_grown x))).1) ?_
    refine Gq.st 4 rfl (by kernel_rfl) rfl .plain rfl (fun _ _ _ h => h) (World.grownBy.refl w4 _) (fun w' x => Still.move rfl) ?_
    refine Gq.st 5 rfl (by kernel_rfl) rfl .plain rfl (fun _ _ _ h => h) (World.grownBy.refl w4 _) (fun w' x => Still.move rfl) ?_
    obtain ⟨p9, hp10_w4⟩ := Bools.at hq (i := k) (by omega) (by omega)
    refine Gq.st 6 rfl (by kernel_rfl) rfl .plain rfl (fun _ _ _ h => h) (World.grownBy.refl w4 _) (fun w' x => Still.at' sl23 hp10_w4 rfl rfl) ?_
    refine Gq.st 7 rfl (by kernel_rfl) rfl .plain rfl (fun _ _ _ h => h) (World.grownBy.refl w4 _) (fun w' x => Still.loadA one4 rfl (hp10_w4.ext (E_w4.trans (Ext.of_grown x))).1) ?_
    refine Gq.st 8 rfl (by kernel_rfl) rfl .plain rfl (fun _ _ _ h => h) (World.grownBy.refl w4 _) (fun w' x => Still.neqB und4 rfl rfl) ?_
    refine Gq.partB (fun hne => ?_) (fun hne => ?_)
    · refine Gq.done (by kernel_rfl) ?_
      refine Eq.next ?_
      refine Cq.thn rfl ?_
      refine Cq.seq ?_
      refine Cq.region ?_
      refine Sq.assign .plain rfl rfl ?_
      refine Sq.nil ?_
      refine Eq.next ?_
      refine Cq.ret ?_
      refine Eq.outRet ?_
      refine Eq.pastRet ?_
      refine Eq.pastRet ?_
      refine Eq.outRet ?_
      refine Eq.pastRet ?_
      refine Eq.ret1 rfl rfl ?_
      exact ⟨by first | rw [beq_len (by omega)] | rw [beq_at (k := k.toNat) false (by simpa using hne)] | rw [beq_done (k := k.toNat) hp (by omega) (by omega)], E⟩
    refine Gq.done (by kernel_rfl) ?_
    refine Eq.next ?_
    refine Cq.els rfl ?_
    refine Cq.skip ?_
    refine Eq.end ?_
    refine Eq.next ?_
    refine Cq.region ?_
    refine Sq.move .plain rfl rfl ?_
    refine Sq.add .plain rfl rfl rfl (by omega) ?_
    refine Sq.assign .plain rfl rfl ?_
    refine Sq.nil ?_
    have e1 := toNat_succ hk.1
    refine Eq.round _ _ ⟨k + 1, rfl, hl, by omega, by rw [e1]; exact take_eq_snoc false hl hp (by omega) (by simpa using hne), E, rfl⟩ (by omega) (.cons rfl (.cons rfl (.cons rfl (.nil))))
  refine Sq.nil ?_
  refine Eq.next ?_
  refine Cq.els rfl ?_
  refine Cq.exit ?_
  refine Eq.past ?_
  refine Eq.past ?_
  refine Eq.hit ?_
  refine Eq.next ?_
  refine Cq.seq ?_
  refine Cq.region ?_
  refine Sq.assign .plain rfl rfl ?_
  refine Sq.nil ?_
  refine Eq.next ?_
  refine Cq.ret ?_
  refine Eq.ret1 rfl rfl ?_
  exact ⟨by first | rw [beq_len (by omega)] | rw [beq_at (k := k.toNat) false (by simpa using hne)] | rw [beq_done (k := k.toNat) hp (by omega) (by omega)], E⟩
set_option maxRecDepth 100000 in
theorem eqIntSS_c (w0 : World) (xss yss : List (List Int)) (r q : Value) (hr : Rows w0 41 3 r xss) (hq : Rows w0 41 3 q yss) (hx : xss.length ≤ 1048576) (hxx : ∀ r ∈ xss, r.length ≤ 1048576) : Ret Tryd.prog 23 #[r, q] w0 (fun v w => v = .bool (xss == yss) ∧ Ext w0 w) := by
  have E := Ext.refl w0
  refine Ret.of (args := [r, q]) Tryd.func23 rfl rfl rfl ?_
  rintro _ rfl
  show Cq _ _ _ _ [(0, r), (1, q)] _
  refine Cq.seq ?_
  refine Cq.region ?_
  refine Sq.assign .plain rfl rfl ?_
  refine Sq.nil ?_
  refine Eq.next ?_
  refine Cq.seq ?_
  refine Cq.seq ?_
  refine Cq.region ?_
  refine Sq.move .plain rfl rfl ?_
  refine Sq.lenRows (hr.ext E) .plain rfl und22 rfl ?_
  refine Sq.move .plain rfl rfl ?_
  refine Sq.lenRows (hq.ext E) .plain rfl und22 rfl ?_
  refine Sq.neq .plain rfl rfl rfl ?_
  refine Sq.part (fun c1 => ?_) (fun c1 => ?_)
  · refine Sq.nil ?_
    refine Eq.next ?_
    refine Cq.thn rfl ?_
    refine Cq.seq ?_
    refine Cq.region ?_
    refine Sq.assign .plain rfl rfl ?_
    refine Sq.nil ?_
    refine Eq.next ?_
    refine Cq.ret ?_
    refine Eq.pastRet ?_
    refine Eq.ret1 rfl rfl ?_
    exact ⟨by first | rw [beq_len (by omega)] | rw [beq_at (k := k.toNat) [] (by simpa using hne)] | rw [beq_done (k := k.toNat) hp (by omega) (by omega)], E⟩
  refine Sq.nil ?_
  refine Eq.next ?_
  refine Cq.els rfl ?_
  refine Cq.skip ?_
  refine Eq.next ?_
  refine Cq.seq ?_
  refine Cq.seq ?_
  refine Cq.region ?_
  refine Sq.assign .plain rfl rfl ?_
  refine Sq.nil ?_
  refine Eq.next ?_
  refine Cq.block ?_
  refine Cq.loop (fun nn w ls => ∃ (k : Int), ls = [(0, r), (1, q), (5, Value.int .i64 k)] ∧ xss.length = yss.length ∧ (0 ≤ k ∧ k ≤ xss.length) ∧ xss.take k.toNat = yss.take k.toNat ∧ Ext w0 w ∧ nn = ((xss.length : Int) - k).toNat) _ _ ⟨0, rfl, by omega, by omega, rfl, E, rfl⟩ (.cons rfl (.cons rfl (.cons rfl (.nil)))) ?_
  rintro nn wl1 ls ⟨k, rfl, hl, hk, hp, E, rfl⟩
  have hs2 := Below.size E
  refine Cq.seq ?_
  refine Cq.seq ?_
  refine Cq.region ?_
  refine Sq.move .plain rfl rfl ?_
  refine Sq.move .plain rfl rfl ?_
  refine Sq.lenRows (hr.ext E) .plain rfl und22 rfl ?_
  refine Sq.lss .plain rfl rfl rfl ?_
  refine Sq.part (fun c3 => ?_) (fun c3 => ?_)
  · refine Sq.nil ?_
    refine Eq.next ?_
    refine Cq.thn rfl ?_
    refine Cq.skip ?_
    refine Eq.next ?_
    refine Cq.seq ?_
    refine Cq.block ?_
    refine Cq.seq ?_
    refine Cq.draw 10 none mixed (fun w4 e5 => ?_)
    have hs6 := Below.size e5
    replace E := E.trans e5
    have E_w4 := E
    refine Gq.st 0 rfl (by kernel_rfl) rfl .plain rfl (fun _ _ _ h => h) (World.grownBy.refl w4 _) (fun w' x => Still.move rfl) ?_
    refine Gq.st 1 rfl (by kernel_rfl) rfl .plain rfl (fun _ _ _ h => h) (World.grownBy.refl w4 _) (fun w' x => Still.move rfl) ?_
    obtain ⟨p7, r9, hp8_w4, hr10⟩ := Rows.at hr (i := k) (by omega) (by omega)
    refine Gq.st 2 rfl (by kernel_rfl) rfl .plain rfl (fun _ _ _ h => h) (World.grownBy.refl w4 _) (fun w' x => Still.at' sl22 hp8_w4 rfl rfl) ?_
    refine Gq.st 3 rfl (by kernel_rfl) rfl .plain rfl (fun _ _ _ h => h) (World.grownBy.refl w4 _) (fun w' x => Still.loadA one41 rfl (hp8_w4.ext (E_w4.trans (Ext.of_grown x))).1) ?_
    refine Gq.st 4 rfl (by kernel_rfl) rfl .plain rfl (fun _ _ _ h => h) (World.grownBy.refl w4 _) (fun w' x => Still.move rfl) ?_
    refine Gq.st 5 rfl (by kernel_rfl) rfl .plain rfl (fun _ _ _ h => h) (World.grownBy.refl w4 _) (fun w' x => Still.move rfl) ?_
    obtain ⟨p11, r13, hp12_w4, hr14⟩ := Rows.at hq (i := k) (by omega) (by omega)
    refine Gq.st 6 rfl (by kernel_rfl) rfl .plain rfl (fun _ _ _ h => h) (World.grownBy.refl w4 _) (fun w' x => Still.at' sl22 hp12_w4 rfl rfl) ?_
    refine Gq.st 7 rfl (by kernel_rfl) rfl .plain rfl (fun _ _ _ h => h) (World.grownBy.refl w4 _) (fun w' x => Still.loadA one41 rfl (hp12_w4.ext (E_w4.trans (Ext.of_grown x))).1) ?_
    refine Gq.one 8 rfl (by kernel_rfl) ?_
    refine Sq.call fn47 .plain rfl rfl (eqIntS_c _ _ _ _ _ (hr10.ext E) (hr14.ext E) (by exact Nat.le_trans (hxx _ (getD_mem (by omega))) (by decide))) ?_
    rintro _ w16 ⟨rfl, e17⟩
    have hs18 := Below.size E
    have hs19 := Below.size e17
    replace E := E.trans e17
    refine Sq.partB (fun hne => ?_) (fun hne => ?_)
    · refine Sq.nil ?_
      refine Eq.goes (fun _ => (grown_trans (World.grownBy.refl w4 _) (Ext.to_grown e17 _))) ?_
      refine Gq.st 9 rfl (by kernel_rfl) rfl .plain rfl (fun _ _ _ h => h) (grown_trans (World.grownBy.refl w4 _) (Ext.to_grown e17 _)) (fun w' x => Still.notT rfl) ?_
      refine Gq.done (by kernel_rfl) ?_
      refine Eq.next ?_
      refine Cq.els rfl ?_
      refine Cq.skip ?_
      refine Eq.end ?_
      refine Eq.next ?_
      refine Cq.region ?_
      refine Sq.move .plain rfl rfl ?_
      refine Sq.add .plain rfl rfl rfl (by omega) ?_
      refine Sq.assign .plain rfl rfl ?_
      refine Sq.nil ?_
      have e1 := toNat_succ hk.1
      refine Eq.round _ _ ⟨k + 1, rfl, hl, by omega, by rw [e1]; exact take_eq_snoc [] hl hp (by omega) (by simpa using hne), E, rfl⟩ (by omega) (.cons rfl (.cons rfl (.cons rfl (.nil))))
    refine Sq.nil ?_
    refine Eq.goes (fun _ => (grown_trans (World.grownBy.refl w4 _) (Ext.to_grown e17 _))) ?_
    refine Gq.st 9 rfl (by kernel_rfl) rfl .plain rfl (fun _ _ _ h => h) (grown_trans (World.grownBy.refl w4 _) (Ext.to_grown e17 _)) (fun w' x => Still.notF rfl) ?_
    refine Gq.done (by kernel_rfl) ?_
    refine Eq.next ?_
    refine Cq.thn rfl ?_
    refine Cq.seq ?_
    refine Cq.region ?_
    refine Sq.assign .plain rfl rfl ?_
    refine Sq.nil ?_
    refine Eq.next ?_
    refine Cq.ret ?_
    refine Eq.outRet ?_
    refine Eq.pastRet ?_
    refine Eq.pastRet ?_
    refine Eq.outRet ?_
    refine Eq.pastRet ?_
    refine Eq.ret1 rfl rfl ?_
    exact ⟨by first | rw [beq_len (by omega)] | rw [beq_at (k := k.toNat) [] (by simpa using hne)] | rw [beq_done (k := k.toNat) hp (by omega) (by omega)], E⟩
  refine Sq.nil ?_
  refine Eq.next ?_
  refine Cq.els rfl ?_
  refine Cq.exit ?_
  refine Eq.past ?_
  refine Eq.past ?_
  refine Eq.hit ?_
  refine Eq.next ?_
  refine Cq.seq ?_
  refine Cq.region ?_
  refine Sq.assign .plain rfl rfl ?_
  refine Sq.nil ?_
  refine Eq.next ?_
  refine Cq.ret ?_
  refine Eq.ret1 rfl rfl ?_
  exact ⟨by first | rw [beq_len (by omega)] | rw [beq_at (k := k.toNat) [] (by simpa using hne)] | rw [beq_done (k := k.toNat) hp (by omega) (by omega)], E⟩
set_option maxRecDepth 100000 in
theorem eqAut_c (w0 : World) (a b : A) (nx ac nx' ac' : Value) (hnx : Rows w0 41 3 nx a.next) (hac : Bools w0 4 ac a.acc) (hnx' : Rows w0 41 3 nx' b.next) (hac' : Bools w0 4 ac' b.acc) (hsm : SmX a) : Ret Tryd.prog 8 #[Value.agg #[Value.int .i64 a.al, nx, ac], Value.agg #[Value.int .i64 b.al, nx', ac']] w0 (fun v w => v = .bool (eqA a b) ∧ Ext w0 w) := by
  have E := Ext.refl w0
  refine Ret.of (args := [Value.agg #[Value.int .i64 a.al, nx, ac], Value.agg #[Value.int .i64 b.al, nx', ac']]) Tryd.func8 rfl rfl rfl ?_
  rintro _ rfl
  show Cq _ _ _ _ [(0, Value.agg #[Value.int .i64 a.al, nx, ac]), (1, Value.agg #[Value.int .i64 b.al, nx', ac'])] _
  refine Cq.seq ?_
  refine Cq.region ?_
  refine Sq.box .plain rfl rfl (fun b1 w2 e3 hB4 hlo5 => ?_)
  have hd6 := Nat.le_trans (Below.size E) hlo5
  have hs7 := Below.size e3
  replace E := E.trans e3
  refine Sq.box .plain rfl rfl (fun b8 w9 e10 hB11 hlo12 => ?_)
  have hd13 := Nat.le_trans (Below.size E) hlo12
  have hd14 := Nat.lt_of_lt_of_le hB4.lt hlo12
  have hs15 := Below.size e10
  replace E := E.trans e10
  replace hB4 := hB4.ext e10
  refine Sq.assign .plain rfl rfl ?_
  refine Sq.nil ?_
  refine Eq.next ?_
  refine Cq.seq ?_
  refine Cq.seq ?_
  refine Cq.region ?_
  refine Sq.fieldAddr fld25_0 .plain rfl rfl ?_
  refine Sq.loadB one3 .plain rfl rfl hB4 rfl ?_
  refine Sq.fieldAddr fld25_0 .plain rfl rfl ?_
  refine Sq.loadB one3 .plain rfl rfl hB11 rfl ?_
  refine Sq.neq .plain rfl rfl rfl ?_
  refine Sq.part (fun h0 => ?_) (fun h0 => ?_)
  · refine Sq.nil ?_
    refine Eq.next ?_
    refine Cq.thn rfl ?_
    refine Cq.seq ?_
    refine Cq.region ?_
    refine Sq.assign .plain rfl rfl ?_
    refine Sq.nil ?_
    refine Eq.next ?_
    refine Cq.ret ?_
    refine Eq.pastRet ?_
    refine Eq.ret1 rfl rfl ?_
    exact ⟨by simp [eqA, h0], E⟩
  refine Sq.nil ?_
  refine Eq.next ?_
  refine Cq.els rfl ?_
  refine Cq.skip ?_
  refine Eq.next ?_
  refine Cq.seq ?_
  refine Cq.seq ?_
  refine Cq.region ?_
  refine Sq.fieldAddr fld25_1 .plain rfl rfl ?_
  refine Sq.loadB one22 .plain rfl rfl hB4 rfl ?_
  refine Sq.fieldAddr fld25_1 .plain rfl rfl ?_
  refine Sq.loadB one22 .plain rfl rfl hB11 rfl ?_
  have hd19 := hB4.lt
  have hd20 := hB11.lt
  refine Sq.call fn23 .plain rfl rfl (eqIntSS_c _ _ _ _ _ (hnx.ext E) (hnx'.ext E) hsm.1 hsm.2.1) ?_
  rintro _ w17 ⟨rfl, e18⟩
  have hs21 := Below.size E
  have hs22 := Below.size e18
  replace E := E.trans e18
  replace hB4 := hB4.ext e18
  replace hB11 := hB11.ext e18
  refine Sq.partB (fun h1 => ?_) (fun h1 => ?_)
  · refine Sq.notT .plain rfl rfl ?_
    refine Sq.nil ?_
    refine Eq.next ?_
    refine Cq.els rfl ?_
    refine Cq.skip ?_
    refine Eq.next ?_
    refine Cq.seq ?_
    refine Cq.seq ?_
    refine Cq.region ?_
    refine Sq.fieldAddr fld25_2 .plain rfl rfl ?_
    refine Sq.loadB one23 .plain rfl rfl hB4 rfl ?_
    refine Sq.fieldAddr fld25_2 .plain rfl rfl ?_
    refine Sq.loadB one23 .plain rfl rfl hB11 rfl ?_
    have hd26 := hB4.lt
    have hd27 := hB11.lt
    refine Sq.call fn24 .plain rfl rfl (eqBoolS_c _ _ _ _ _ (hac.ext E) (hac'.ext E) (by exact Nat.le_trans hsm.2.2 (by decide))) ?_
    rintro _ w24 ⟨rfl, e25⟩
    have hs28 := Below.size E
    have hs29 := Below.size e25
    replace E := E.trans e25
    refine Sq.partB (fun h2 => ?_) (fun h2 => ?_)
    · refine Sq.notT .plain rfl rfl ?_
      refine Sq.nil ?_
      refine Eq.next ?_
      refine Cq.els rfl ?_
      refine Cq.skip ?_
      refine Eq.next ?_
      refine Cq.seq ?_
      refine Cq.region ?_
      refine Sq.assign .plain rfl rfl ?_
      refine Sq.nil ?_
      refine Eq.next ?_
      refine Cq.ret ?_
      refine Eq.ret1 rfl rfl ?_
      have h0' : a.al = b.al := by omega
      exact ⟨by unfold eqA; rw [h1, h2, h0', beq_self_eq_true]; rfl, E⟩
    refine Sq.notF .plain rfl rfl ?_
    refine Sq.nil ?_
    refine Eq.next ?_
    refine Cq.thn rfl ?_
    refine Cq.seq ?_
    refine Cq.region ?_
    refine Sq.assign .plain rfl rfl ?_
    refine Sq.nil ?_
    refine Eq.next ?_
    refine Cq.ret ?_
    refine Eq.pastRet ?_
    refine Eq.ret1 rfl rfl ?_
    have h0' : a.al = b.al := by omega
    exact ⟨by unfold eqA; rw [h1, h2, h0', beq_self_eq_true]; rfl, E⟩
  refine Sq.notF .plain rfl rfl ?_
  refine Sq.nil ?_
  refine Eq.next ?_
  refine Cq.thn rfl ?_
  refine Cq.seq ?_
  refine Cq.region ?_
  refine Sq.assign .plain rfl rfl ?_
  refine Sq.nil ?_
  refine Eq.next ?_
  refine Cq.ret ?_
  refine Eq.pastRet ?_
  refine Eq.ret1 rfl rfl ?_
  have h0' : a.al = b.al := by omega
  exact ⟨by unfold eqA; rw [h1, h0', beq_self_eq_true]; rfl, E⟩
end Go.Proofs.YtnckpafknojdhaaDoor
set_option linter.unusedSimpArgs false
set_option linter.unusedVariables false
namespace Go.Proofs.YtnckpafknojdhaaDoor
open Go.RowKit
theorem Parsed.smx {s : ByteArray} {ok : Bool} {a : A} (h : Parsed s ok a) : SmX a := by
  cases hk : ok with
  | true => exact smx_valid (h.1 hk).1
  | false => rw [h.2.1 hk]; exact smx_zero
theorem parseAI_s (s : ByteArray) (hs : s.size ≤ 2000000) (ok : Bool) (a : A) (hp : Parsed s ok a) (w0 : World) (hE : ErrCell w0 1) (hE' : ErrCell w0 2) : Ret Tryd.prog 7 #[Value.string s] w0 (fun v w => (∃ u, v = .tuple #[u, .bool ok] ∧ OwnA w w0.heap.size u a) ∧ Ext w0 w) :=
  (parseAI_c s hs w0 hE hE').mono fun v w h => by
    obtain ⟨⟨u, ok', a', rfl, ho, hp'⟩, x⟩ := h
    obtain ⟨rfl, rfl⟩ := hp.same hp'
    exact ⟨⟨u, rfl, ho⟩, x⟩
set_option maxRecDepth 100000 in
theorem lExParse (w0 : World) (s : ByteArray) (hE : ErrCell w0 1) (hE' : ErrCell w0 2) : Ret Tryd.prog 3 #[Value.string s] w0 (fun v w => v = .bool true ∧ Ext w0 w) := by
  have E := Ext.refl w0
  refine Ret.of (args := [Value.string s]) Tryd.func3 rfl rfl rfl ?_
  rintro _ rfl
  show Cq _ _ _ _ [(0, Value.string s)] _
  refine Cq.seq ?_
  refine Cq.region ?_
  refine Sq.assign .plain rfl rfl ?_
  refine Sq.nil ?_
  refine Eq.next ?_
  refine Cq.seq ?_
  refine Cq.seq ?_
  refine Cq.region ?_
  refine Sq.move .plain rfl rfl ?_
  refine Sq.lenStr .plain rfl und9 rfl ?_
  refine Sq.gtr .plain rfl rfl rfl ?_
  refine Sq.part (fun c1 => ?_) (fun c1 => ?_)
  · refine Sq.nil ?_
    refine Eq.next ?_
    refine Cq.thn rfl ?_
    refine Cq.seq ?_
    refine Cq.region ?_
    refine Sq.assign .plain rfl rfl ?_
    refine Sq.nil ?_
    refine Eq.next ?_
    refine Cq.ret ?_
    refine Eq.pastRet ?_
    refine Eq.ret1 rfl rfl ?_
    exact ⟨rfl, E⟩
  refine Sq.nil ?_
  refine Eq.next ?_
  refine Cq.els rfl ?_
  refine Cq.skip ?_
  refine Eq.next ?_
  refine Cq.seq ?_
  refine Cq.region ?_
  refine Sq.move .plain rfl rfl ?_
  refine Sq.call fn6 .plain rfl rfl (parseA2_c s (by omega) _) ?_
  rintro _ w3 ⟨⟨u5, ok6, a7, rfl, ⟨nx8, ac9, rfl, hn10, ha11⟩, hpd12⟩, e4⟩
  have hs13 := Below.size E
  have hs14 := Below.size e4
  replace E := E.trans e4
  have hsx := hpd12.smx
  have hl_ha11 := Own.low ha11
  refine Sq.move .plain rfl rfl ?_
  refine Sq.extract .plain rfl rfl rfl ?_
  refine Sq.extract .plain rfl rfl rfl ?_
  refine Sq.alloc zero25 .plain rfl (fun b15 w16 e17 hB18 hlo19 => ?_)
  have hd20 := Nat.le_trans (Below.size E) hlo19
  have hs21 := Below.size e17
  replace E := E.trans e17
  replace hn10 := hn10.ext e17
  replace ha11 := ha11.ext e17
  refine Sq.storeAgg agg25 .plain rfl rfl (one_cons rfl (one_cons (Rows.one (OwnRows.rows hn10)) (one_cons (Row.one (Own.row ha11)) one_nil))) hB18 rfl rfl (fun w22 g23 hB24 => ?_)
  have hs25 := World.grownBy.size g23
  replace E := E.grown g23 (fun k hk => by injection hk with hk; subst hk; omega)
  replace hn10 := hn10.stored g23 hB18 (by decide) (by decide)
  replace ha11 := ha11.stored g23 hB18 (by decide)
  replace hB18 := hB24
  refine Sq.assign .plain rfl rfl ?_
  refine Sq.nil ?_
  refine Eq.next ?_
  refine Cq.seq ?_
  refine Cq.region ?_
  replace hn10 := OwnRows.rows hn10
  replace ha11 := Own.row ha11
  have Ew := Ext.refl w22
  refine Sq.move .plain rfl rfl ?_
  have hd34 := hB18.lt
  refine Sq.call fn7 .plain rfl rfl (parseAI_s s (by omega) ok6 a7 hpd12 _ (hE.ext E) (hE'.ext E)) ?_
  rintro _ w27 ⟨⟨u29, rfl, ⟨nx30, ac31, rfl, hn32, ha33⟩⟩, e28⟩
  have hs35 := Below.size E
  have hs36 := Below.size Ew
  have hs37 := Below.size e28
  replace E := E.trans e28
  replace hB18 := hB18.ext e28
  replace Ew := Ew.trans e28
  have hl_ha33 := Own.low ha33
  refine Sq.move .plain rfl rfl ?_
  refine Sq.extract .plain rfl rfl rfl ?_
  refine Sq.extract .plain rfl rfl rfl ?_
  refine Sq.alloc zero25 .plain rfl (fun b38 w39 e40 hB41 hlo42 => ?_)
  have hd43 := Nat.le_trans (Below.size E) hlo42
  have hd44 := Nat.lt_of_lt_of_le hB18.lt hlo42
  have hd45 := Nat.le_trans (Below.size Ew) hlo42
  have hs46 := Below.size e40
  replace E := E.trans e40
  replace hB18 := hB18.ext e40
  replace Ew := Ew.trans e40
  replace hn32 := hn32.ext e40
  replace ha33 := ha33.ext e40
  refine Sq.storeAgg agg25 .plain rfl rfl (one_cons rfl (one_cons (Rows.one (OwnRows.rows hn32)) (one_cons (Row.one (Own.row ha33)) one_nil))) hB41 rfl rfl (fun w47 g48 hB49 => ?_)
  have hs50 := World.grownBy.size g48
  replace E := E.grown g48 (fun k hk => by injection hk with hk; subst hk; omega)
  replace hB18 := hB18.grown g48 (by intro h; injection h with h; omega)
  replace Ew := Ew.grown g48 (fun k hk => by injection hk with hk; subst hk; omega)
  replace hn32 := hn32.stored g48 hB41 (by decide) (by decide)
  replace ha33 := ha33.stored g48 hB41 (by decide)
  replace hB41 := hB49
  refine Sq.assign .plain rfl rfl ?_
  refine Sq.nil ?_
  refine Eq.next ?_
  refine Cq.seq ?_
  refine Cq.seq ?_
  refine Cq.region ?_
  refine Sq.loadAgg agg25 .plain rfl rfl hB41 rfl ?_
  refine Sq.loadAgg agg25 .plain rfl rfl hB18 rfl ?_
  have hd54 := hB18.lt
  have hd55 := hB41.lt
  refine Sq.call fn8 .plain rfl rfl (eqAut_c _ a7 a7 _ _ _ _ (OwnRows.rows hn32) (Own.row ha33) (hn10.ext Ew) (ha11.ext Ew) (hsx)) ?_
  rintro _ w52 ⟨rfl, e53⟩
  have hs56 := Below.size E
  have hs57 := Below.size Ew
  have hs58 := Below.size e53
  replace E := E.trans e53
  replace hB18 := hB18.ext e53
  replace Ew := Ew.trans e53
  replace hn32 := hn32.ext e53
  replace ha33 := ha33.ext e53
  replace hB41 := hB41.ext e53
  refine Sq.beT (eqA_refl _) ?_
  refine Sq.notT .plain rfl rfl ?_
  refine Sq.move .plain rfl rfl ?_
  refine Sq.move (.met rfl rfl rfl) rfl rfl ?_
  refine Sq.move (.met rfl rfl rfl) rfl rfl ?_
  refine Sq.neqB und4 (.met rfl rfl rfl) rfl rfl rfl ?_
  refine Sq.beF (by simp) ?_
  refine Sq.pickF .plain rfl rfl rfl ?_
  refine Sq.nil ?_
  refine Eq.next ?_
  refine Cq.els rfl ?_
  refine Cq.skip ?_
  refine Eq.next ?_
  refine Cq.seq ?_
  refine Cq.region ?_
  refine Sq.assign .plain rfl rfl ?_
  refine Sq.nil ?_
  refine Eq.next ?_
  refine Cq.seq ?_
  refine Cq.region ?_
  refine Sq.loadAgg agg25 .plain rfl rfl hB41 rfl ?_
  refine Sq.move .plain rfl rfl ?_
  have hcl := cntA_le hsx
  have hcn61 := cntA_nonneg a7
  refine Sq.call fn9 .plain rfl rfl (markA_c _ w22.heap.size w27.heap.size a7 _ _ 1 hn32 ha33 hl_ha33 hsx (by omega)) ?_
  rintro _ w59 ⟨rfl, hn', ha', hwr60⟩
  have hs62 := hwr60.size
  replace E := Ext.wrote E hwr60 (by omega)
  replace hB18 := Blk.wrote hB18 hwr60 (by omega)
  replace Ew := Ext.wrote Ew hwr60 (by omega)
  replace hB41 := Blk.wrote hB41 hwr60 (by omega)
  replace hn32 := hn'
  replace ha33 := ha'
  clear hn' ha'
  refine Sq.assign .plain rfl rfl ?_
  refine Sq.nil ?_
  refine Eq.next ?_
  refine Cq.seq ?_
  refine Cq.region ?_
  refine Sq.assign .plain rfl rfl ?_
  refine Sq.nil ?_
  refine Eq.next ?_
  refine Cq.seq ?_
  refine Cq.region ?_
  refine Sq.loadAgg agg25 .plain rfl rfl hB41 rfl ?_
  refine Sq.move .plain rfl rfl ?_
  have hd66 := hB18.lt
  have hd67 := hB41.lt
  refine Sq.call fn10 .plain rfl rfl (heldA_c _ a7 _ _ 1 (OwnRows.rows hn32) (Own.row ha33) hsx (by omega)) ?_
  rintro _ w64 ⟨rfl, e65⟩
  have hs68 := Below.size E
  have hs69 := Below.size Ew
  have hs70 := Below.size e65
  replace E := E.trans e65
  replace hB18 := hB18.ext e65
  replace Ew := Ew.trans e65
  replace hn32 := hn32.ext e65
  replace ha33 := ha33.ext e65
  replace hB41 := hB41.ext e65
  refine Sq.assign .plain rfl rfl ?_
  refine Sq.nil ?_
  refine Eq.next ?_
  refine Cq.seq ?_
  refine Cq.seq ?_
  refine Cq.region ?_
  refine Sq.move .plain rfl rfl ?_
  refine Sq.lss .plain rfl rfl rfl ?_
  refine Sq.isF (by omega) ?_
  refine Sq.nil ?_
  refine Eq.next ?_
  refine Cq.els rfl ?_
  refine Cq.skip ?_
  refine Eq.next ?_
  refine Cq.seq ?_
  refine Cq.seq ?_
  refine Cq.region ?_
  refine Sq.move .plain rfl rfl ?_
  refine Sq.move .plain rfl rfl ?_
  refine Sq.neq .plain rfl rfl rfl ?_
  refine Sq.isF (by omega) ?_
  refine Sq.nil ?_
  refine Eq.next ?_
  refine Cq.els rfl ?_
  refine Cq.skip ?_
  refine Eq.next ?_
  refine Cq.seq ?_
  refine Cq.region ?_
  refine Sq.move .plain rfl rfl ?_
  have hd79 := hB18.lt
  have hd80 := hB41.lt
  refine Sq.call fn7 .plain rfl rfl (parseAI_s s (by omega) ok6 a7 hpd12 _ (hE.ext E) (hE'.ext E)) ?_
  rintro _ w72 ⟨⟨u74, rfl, ⟨nx75, ac76, rfl, hn77, ha78⟩⟩, e73⟩
  have hs81 := Below.size E
  have hs82 := Below.size Ew
  have hs83 := Below.size e73
  replace E := E.trans e73
  replace hB18 := hB18.ext e73
  replace Ew := Ew.trans e73
  replace hn32 := hn32.ext e73
  replace ha33 := ha33.ext e73
  replace hB41 := hB41.ext e73
  have hl_ha78 := Own.low ha78
  refine Sq.move .plain rfl rfl ?_
  refine Sq.extract .plain rfl rfl rfl ?_
  refine Sq.extract .plain rfl rfl rfl ?_
  refine Sq.alloc zero25 .plain rfl (fun b84 w85 e86 hB87 hlo88 => ?_)
  have hd89 := Nat.le_trans (Below.size E) hlo88
  have hd90 := Nat.lt_of_lt_of_le hB18.lt hlo88
  have hd91 := Nat.le_trans (Below.size Ew) hlo88
  have hd92 := Nat.lt_of_lt_of_le hB41.lt hlo88
  have hs93 := Below.size e86
  replace E := E.trans e86
  replace hB18 := hB18.ext e86
  replace Ew := Ew.trans e86
  replace hn32 := hn32.ext e86
  replace ha33 := ha33.ext e86
  replace hB41 := hB41.ext e86
  replace hn77 := hn77.ext e86
  replace ha78 := ha78.ext e86
  refine Sq.storeAgg agg25 .plain rfl rfl (one_cons rfl (one_cons (Rows.one (OwnRows.rows hn77)) (one_cons (Row.one (Own.row ha78)) one_nil))) hB87 rfl rfl (fun w94 g95 hB96 => ?_)
  have hs97 := World.grownBy.size g95
  replace E := E.grown g95 (fun k hk => by injection hk with hk; subst hk; omega)
  replace hB18 := hB18.grown g95 (by intro h; injection h with h; omega)
  replace Ew := Ew.grown g95 (fun k hk => by injection hk with hk; subst hk; omega)
  replace hn32 := hn32.stored g95 hB87 (by decide) (by decide)
  replace ha33 := ha33.stored g95 hB87 (by decide)
  replace hB41 := hB41.grown g95 (by intro h; injection h with h; omega)
  replace hn77 := hn77.stored g95 hB87 (by decide) (by decide)
  replace ha78 := ha78.stored g95 hB87 (by decide)
  replace hB87 := hB96
  refine Sq.assign .plain rfl rfl ?_
  refine Sq.nil ?_
  refine Eq.next ?_
  refine Cq.seq ?_
  refine Cq.seq ?_
  refine Cq.region ?_
  refine Sq.loadAgg agg25 .plain rfl rfl hB87 rfl ?_
  refine Sq.loadAgg agg25 .plain rfl rfl hB18 rfl ?_
  have hd101 := hB18.lt
  have hd102 := hB41.lt
  have hd103 := hB87.lt
  refine Sq.call fn8 .plain rfl rfl (eqAut_c _ a7 a7 _ _ _ _ (OwnRows.rows hn77) (Own.row ha78) (hn10.ext Ew) (ha11.ext Ew) (hsx)) ?_
  rintro _ w99 ⟨rfl, e100⟩
  have hs104 := Below.size E
  have hs105 := Below.size Ew
  have hs106 := Below.size e100
  replace E := E.trans e100
  replace hB18 := hB18.ext e100
  replace Ew := Ew.trans e100
  replace hn32 := hn32.ext e100
  replace ha33 := ha33.ext e100
  replace hB41 := hB41.ext e100
  replace hB87 := hB87.ext e100
  refine Sq.beT (eqA_refl _) ?_
  refine Sq.notT .plain rfl rfl ?_
  refine Sq.move .plain rfl rfl ?_
  refine Sq.move (.met rfl rfl rfl) rfl rfl ?_
  refine Sq.move (.met rfl rfl rfl) rfl rfl ?_
  refine Sq.neqB und4 (.met rfl rfl rfl) rfl rfl rfl ?_
  refine Sq.beF (by simp) ?_
  refine Sq.pickF .plain rfl rfl rfl ?_
  refine Sq.nil ?_
  refine Eq.next ?_
  refine Cq.els rfl ?_
  refine Cq.skip ?_
  refine Eq.next ?_
  refine Cq.seq ?_
  refine Cq.region ?_
  refine Sq.assign .plain rfl rfl ?_
  refine Sq.nil ?_
  refine Eq.next ?_
  refine Cq.seq ?_
  refine Cq.region ?_
  refine Sq.loadAgg agg25 .plain rfl rfl hB41 rfl ?_
  refine Sq.move .plain rfl rfl ?_
  have hd110 := hB18.lt
  have hd111 := hB41.lt
  have hd112 := hB87.lt
  refine Sq.call fn10 .plain rfl rfl (heldA_c _ a7 _ _ 1 (OwnRows.rows hn32) (Own.row ha33) hsx (by omega)) ?_
  rintro _ w108 ⟨rfl, e109⟩
  have hs113 := Below.size E
  have hs114 := Below.size Ew
  have hs115 := Below.size e109
  replace E := E.trans e109
  refine Sq.assign .plain rfl rfl ?_
  refine Sq.nil ?_
  refine Eq.next ?_
  refine Cq.seq ?_
  refine Cq.seq ?_
  refine Cq.region ?_
  refine Sq.move .plain rfl rfl ?_
  refine Sq.lss .plain rfl rfl rfl ?_
  refine Sq.isF (by omega) ?_
  refine Sq.nil ?_
  refine Eq.next ?_
  refine Cq.els rfl ?_
  refine Cq.skip ?_
  refine Eq.next ?_
  refine Cq.seq ?_
  refine Cq.seq ?_
  refine Cq.region ?_
  refine Sq.move .plain rfl rfl ?_
  refine Sq.move .plain rfl rfl ?_
  refine Sq.neq .plain rfl rfl rfl ?_
  refine Sq.isF (by omega) ?_
  refine Sq.nil ?_
  refine Eq.next ?_
  refine Cq.els rfl ?_
  refine Cq.skip ?_
  refine Eq.next ?_
  refine Cq.seq ?_
  refine Cq.region ?_
  refine Sq.assign .plain rfl rfl ?_
  refine Sq.nil ?_
  refine Eq.next ?_
  refine Cq.ret ?_
  refine Eq.ret1 rfl rfl ?_
  exact ⟨rfl, E⟩
end Go.Proofs.YtnckpafknojdhaaDoor
