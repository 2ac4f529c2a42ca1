/-
  Small laws for the source of the draws: bounds of what it computes, and frames in which the source's own block changes.
-/
import Derived.Test.YtdkdpmmfebdeaaaOwn
import Derived.Test.YtdkdpmmfebdeaaaPure
set_option linter.unusedSimpArgs false
set_option linter.unusedVariables false
namespace Go.Proofs.Ytdkdpmmfebdeaaa
open Go.RowKit

theorem grown_far {w1 w w' : World} {r r' : Option Nat} (x : w1.grownBy w r) (g : w.grownBy w' r') (hB : ∀ k, r' = some k → w1.heap.size ≤ k) : w1.grownBy w' r :=
  ⟨by rw [g.os, x.os], by rw [g.tape, x.tape], by rw [g.output, x.output], Nat.le_trans x.size g.size, fun k hk hr => by
    rw [g.block k (Nat.lt_of_lt_of_le hk x.size) (fun h => by have := hB k h.symm; omega), x.block k hk hr]⟩
/-- The bytes of the source: they do not lie in the source's own block. The kind of their block is not known. -/
def Src (w : World) (e : TypeId) (v : Value) (xs : List UInt8) (rb : Nat) : Prop := Bytes w e v xs ∧ ∀ b o n c, v = .slice (some ⟨b, o, none⟩) n c → xs ≠ [] → b ≠ rb
theorem Src.ext {w0 w : World} {e : TypeId} {v : Value} {xs : List UInt8} {rb : Nat} (h : Src w0 e v xs rb) (g : w0.grownBy w (some rb)) : Bytes w e v xs := by
  obtain ⟨h1, h2⟩ := h
  rcases h1 with ⟨h3, h4⟩ | ⟨b, o, c, cur, fr, rfl, hb, hc⟩
  · exact .inl ⟨h3, h4⟩
  · rcases xs with _ | ⟨x, xs⟩
    · exact .inl ⟨rfl, _, _, rfl, fun h => by cases h⟩
    · refine .inr ⟨b, o, c, cur, fr, rfl, ?_, hc⟩
      rw [g.block b (lt_of_block hb) (fun hk => by injection hk with hk; exact h2 _ _ _ _ rfl (by simp) hk)]
      exact hb
theorem Src.go {w0 w : World} {e : TypeId} {v : Value} {xs : List UInt8} {rb : Nat} (h : Src w0 e v xs rb) (g : w0.grownBy w (some rb)) : Src w e v xs rb := ⟨h.ext g, h.2⟩
theorem Src.of {w w' : World} {e : TypeId} {v : Value} {xs : List UInt8} {rb : Nat} (h : Bytes w e v xs) (x : Ext w w') (hrb : w.heap.size ≤ rb) : Src w' e v xs rb := by
  refine ⟨h.ext x, fun b o n c hv hne => ?_⟩
  rcases h with ⟨h3, _⟩ | ⟨b', o', c', cur, fr, rfl, hb, _⟩
  · exact absurd (List.map_eq_nil_iff.1 h3) hne
  · simp only [Value.slice.injEq, Option.some.injEq, Addr.mk.injEq] at hv
    have := lt_of_block hb
    omega
/-- 'code[:n]' -/
theorem Sq.cutBytes {P : Program} {N : Nat} {ops : Array Oper} {Q : Exit → Act → World → Prop} {rest : List Oper} {l : Slots} {w : World} {d : Nat} {ty : TypeId} {pos : String} {after : Array Edge} {g : Option (Nat × Bool)}
    {t e0 e : TypeId} {z : Value} {x hi : Operand} {a : Option Addr} {c : Nat} {n : Int} {xs : List UInt8} (hs : SlT P t e0 z) (hr : Bytes w e (.slice a xs.length c) xs) (hc : xs.length ≤ c) (hn : 0 ≤ n ∧ n < xs.length)
    (hg : On ops l g) (hN : Nat.blt d N = true) (hx : ev l x = some (.slice a xs.length c)) (hh : ev l hi = some (.int .i64 n)) (h : ∀ v, Bytes w e v (xs.take n.toNat) → Sq P N ops Q rest ((d, v) :: l) w) :
    Sq P N ops Q (⟨some d, .slice t x none (some hi) none, ty, pos, after, g⟩ :: rest) l w := by
  rcases hr with ⟨h3, _⟩ | ⟨b, o, c', cur, fr, hv, hb, hcells⟩
  · have : xs = [] := List.map_eq_nil_iff.1 h3
    subst this
    simp at hn; omega
  · simp only [Value.slice.injEq] at hv
    obtain ⟨rfl, _, rfl⟩ := hv
    have hlen : (xs.take n.toNat).length = n.toNat := by simp; omega
    refine Sq.val (v := .slice (some ⟨b, o, none⟩) n.toNat c) hg rfl hN (fun a ha => ?_) (h _ (.inr ⟨b, o, c, cur, fr, by rw [List.length_map, hlen], hb, fun i u hu => ?_⟩))
    · have h1 := run_sliceAt_slice (P := P) (w := w) t (.slice (some ⟨b, o, none⟩) xs.length c) none (some (.int .i64 n)) none (by rw [hs.elem]; exact hs.und)
      have h2 := run_slice_h (P := P) (w := w) t (some ⟨b, o, none⟩) xs.length c (by rw [hs.elem]; exact hs.und) .i64 n hn.1 (by omega)
      rw [hs.elem, hs.sizeOf] at h2
      have h4 : sliced (some ⟨b, o, none⟩) 0 n.toNat c 1 = .slice (some ⟨b, o, none⟩) n.toNat c := by
        simp [sliced, Addr.add]
      simp [execOp, ha.ev hx, ha.ev hh, h1, h2, h4]
    · refine hcells i u ?_
      rw [List.map_take, List.getElem?_take] at hu
      split at hu
      · exact hu
      · cases hu
theorem u8_le (x : UInt8) : 0 ≤ (x.toNat : Int) ∧ (x.toNat : Int) ≤ 255 := by
  have := x.toNat_lt
  omega
theorem u8_ok (x : UInt8) : -9223372036854775808 ≤ (x.toNat : Int) ∧ (x.toNat : Int) ≤ 9223372036854775807 := by
  have := u8_le x
  omega
theorem u8_mul (x : UInt8) {c : Int} (h : 0 ≤ c ∧ c ≤ 1000000) : -9223372036854775808 ≤ (x.toNat : Int) * c ∧ (x.toNat : Int) * c ≤ 9223372036854775807 := by
  have h1 := u8_le x
  have h2 : 0 ≤ (x.toNat : Int) * c := Int.mul_nonneg h1.1 h.1
  have h3 : (x.toNat : Int) * c ≤ 255 * c := Int.mul_le_mul_of_nonneg_right h1.2 h.1
  omega
theorem u8_sum (x y : UInt8) : -9223372036854775808 ≤ (x.toNat : Int) * 131 + (y.toNat : Int) * 1117 ∧ (x.toNat : Int) * 131 + (y.toNat : Int) * 1117 ≤ 9223372036854775807 := by
  have h1 := u8_le x
  have h2 := u8_le y
  omega
theorem u8_sum3 (x y : UInt8) {k : Int} (h : 0 ≤ k ∧ k ≤ 2000000000) : -9223372036854775808 ≤ (x.toNat : Int) * 131 + (y.toNat : Int) * 1117 + k * 29 ∧ (x.toNat : Int) * 131 + (y.toNat : Int) * 1117 + k * 29 ≤ 9223372036854775807 := by
  have h1 := u8_le x
  have h2 := u8_le y
  omega
theorem div_ok {k : Int} (n : Nat) (h : 0 ≤ k ∧ k ≤ 2000000000) : 0 ≤ k / (n : Int) ∧ k / (n : Int) ≤ 2000000000 :=
  ⟨Int.ediv_nonneg h.1 (by omega), Int.le_trans (Int.ediv_le_self _ h.1) h.2⟩
theorem div_mul {k : Int} {n : Nat} (h : 0 ≤ k ∧ k ≤ 2000000000) : -9223372036854775808 ≤ k / (n : Int) * 53 ∧ k / (n : Int) * 53 ≤ 9223372036854775807 := by
  have := div_ok n h
  omega
theorem u8_sum4 (x y : UInt8) {k : Int} (n : Nat) (h : 0 ≤ k ∧ k ≤ 2000000000) : -9223372036854775808 ≤ (x.toNat : Int) * 131 + (y.toNat : Int) * 1117 + k * 29 + k / (n : Int) * 53 ∧ (x.toNat : Int) * 131 + (y.toNat : Int) * 1117 + k * 29 + k / (n : Int) * 53 ≤ 9223372036854775807 := by
  have h1 := u8_le x
  have h2 := u8_le y
  have := div_ok n h
  omega
theorem u8_xor (x y : UInt8) {k : Int} (n : Nat) (h : 0 ≤ k ∧ k ≤ 2000000000) : 0 ≤ (x.toNat : Int) * 131 + (y.toNat : Int) * 1117 + k * 29 + k / (n : Int) * 53 ∧ (x.toNat : Int) * 131 + (y.toNat : Int) * 1117 + k * 29 + k / (n : Int) * 53 ≤ 9223372036854775807 ∧ 0 ≤ ((x.toNat : Int) * 131 + (y.toNat : Int) * 1117 + k * 29 + k / (n : Int) * 53) / 64 ∧ ((x.toNat : Int) * 131 + (y.toNat : Int) * 1117 + k * 29 + k / (n : Int) * 53) / 64 ≤ 9223372036854775807 := by
  have h1 := u8_le x
  have h2 := u8_le y
  have := div_ok n h
  omega
theorem u8_quo (x y : UInt8) {k : Int} (n : Nat) (h : 0 ≤ k ∧ k ≤ 2000000000) : 0 ≤ (x.toNat : Int) * 131 + (y.toNat : Int) * 1117 + k * 29 + k / (n : Int) * 53 ∧ (x.toNat : Int) * 131 + (y.toNat : Int) * 1117 + k * 29 + k / (n : Int) * 53 ≤ 9223372036854775807 ∧ (1 : Int) ≤ 64 := by
  have h1 := u8_le x
  have h2 := u8_le y
  have := div_ok n h
  omega
theorem rem_in {k : Int} {n : Nat} (_ : 0 ≤ k) (hn : 1 ≤ n) : 0 ≤ k % (n : Int) ∧ k % (n : Int) < n :=
  ⟨Int.emod_nonneg _ (by omega), Int.emod_lt_of_pos _ (by omega)⟩
theorem rem_lt {k : Int} {n : Nat} (h : 0 ≤ k) (hn : 1 ≤ n) : (k % (n : Int)).toNat < n := by
  have := rem_in h hn
  omega
theorem rem_ok (x : Int) {n : Int} (h : 1 ≤ n) : 0 ≤ x % n ∧ (1 ≤ n → x % n < n) ∧ (n < 1 → x % n = 0) :=
  ⟨Int.emod_nonneg _ (by omega), fun _ => Int.emod_lt_of_pos _ (by omega), fun h' => by omega⟩

/-! what a loop has gathered -/
theorem Own.snocB {w : World} {B : Nat} {e : TypeId} {v : Value} {ys : List Bool} {y : Bool} (h : Own w B e v (ys.map Value.bool ++ [Value.bool y])) : Own w B e v ((ys ++ [y]).map Value.bool) := by simpa using h
theorem Own.snocI {w : World} {B : Nat} {e : TypeId} {v : Value} {ys : List Int} {y : Int} (h : Own w B e v (ys.map (Value.int .i64) ++ [Value.int .i64 y])) : Own w B e v ((ys ++ [y]).map (Value.int .i64)) := by simpa using h
theorem Own.snocS {w : World} {B : Nat} {e : TypeId} {v : Value} {ys : List ByteArray} {y : ByteArray} (h : Own w B e v (ys.map Value.string ++ [Value.string y])) : Own w B e v ((ys ++ [y]).map Value.string) := by simpa using h
theorem all_app {α : Type} {p : α → Prop} {xs : List α} {x : α} (h : ∀ q ∈ xs, p q) (hx : p x) : ∀ q ∈ xs ++ [x], p q := by
  intro q hq
  rcases List.mem_append.1 hq with h1 | h1
  · exact h q h1
  · rw [List.mem_singleton.1 h1]; exact hx
theorem rows_snoc {p : List Int → Bool} {xss : List (List Int)} {row : List Int} (h : ∀ r ∈ xss, p r = true) (hr : p row = true) : ∀ r ∈ xss ++ [row], p r = true := all_app h hr
theorem rowOk_mk {m n : Int} {row : List Int} (h : (row.length : Int) = m) (hq : ∀ q ∈ row, 0 ≤ q ∧ q < n) : rowOk m n row = true := by
  simp only [rowOk, h, decide_true, Bool.true_and, List.all_eq_true]
  exact fun q hm => inB_T (hq q hm)
theorem validA_mk {a : A} (h1 : 0 ≤ a.al ∧ a.al ≤ 63) (h2 : 1 ≤ a.next.length ∧ a.next.length ≤ 12) (h3 : a.acc.length = a.next.length) (h4 : ∀ row ∈ a.next, rowOk (letters a.al).length a.next.length row = true) : validA a = true := by
  simp only [validA, Bool.and_eq_true, decide_eq_true_eq, List.all_eq_true]
  exact ⟨h1, by omega, by omega, h4⟩

theorem Own.setB {w : World} {B : Nat} {e : TypeId} {v : Value} {ys : List Bool} {y : Bool} {k : Nat} (h : Own w B e v ((ys.map Value.bool).set k (Value.bool y))) : Own w B e v ((ys.set k y).map Value.bool) := by rwa [List.map_set]
theorem Own.setI {w : World} {B : Nat} {e : TypeId} {v : Value} {ys : List Int} {y : Int} {k : Nat} (h : Own w B e v ((ys.map (Value.int .i64)).set k (Value.int .i64 y))) : Own w B e v ((ys.set k y).map (Value.int .i64)) := by rwa [List.map_set]
theorem all_set {α : Type} {p : α → Prop} {xs : List α} {x : α} {k : Nat} (h : ∀ q ∈ xs, p q) (hx : p x) : ∀ q ∈ xs.set k x, p q := by
  intro q hq
  rcases List.mem_or_eq_of_mem_set hq with h1 | h1
  · exact h q h1
  · rw [h1]; exact hx
theorem rows_set {p : List Int → Bool} {xss : List (List Int)} {row : List Int} {k : Nat} (h : ∀ r ∈ xss, p r = true) (hr : p row = true) : ∀ r ∈ xss.set k row, p r = true := all_set h hr
theorem rowOk_spec {m n : Int} {row : List Int} : rowOk m n row = true ↔ (row.length : Int) = m ∧ ∀ q ∈ row, 0 ≤ q ∧ q < n := by
  simp only [rowOk, Bool.and_eq_true, decide_eq_true_eq, List.all_eq_true, inB]
theorem rowOk_at {m n : Int} {xss : List (List Int)} {k : Nat} (h : ∀ r ∈ xss, rowOk m n r = true) (hk : k < xss.length) : ((xss.getD k []).length : Int) = m ∧ ∀ q ∈ xss.getD k [], 0 ≤ q ∧ q < n := rowOk_spec.1 (h _ (getD_mem hk))
theorem rowOk_set {m n y : Int} {row : List Int} {k : Nat} (h : (row.length : Int) = m ∧ ∀ q ∈ row, 0 ≤ q ∧ q < n) (hy : 0 ≤ y ∧ y < n) : rowOk m n (row.set k y) = true :=
  rowOk_spec.2 ⟨by rw [List.length_set]; exact h.1, all_set h.2 hy⟩
theorem getD_set_self {α : Type} {xs : List α} {k : Nat} {x d : α} (h : k < xs.length) : (xs.set k x).getD k d = x := by simp [h]
/-! slices that lie below a row that is written -/
theorem Own.low {w : World} {B : Nat} {e : TypeId} {v : Value} {vs : List Value} (h : Own w B e v vs) : ∀ k, v.ownBlock = some k → k < w.heap.size := fun k hk => (h.lt k hk).2
theorem Own.apart {w w' : World} {B B' U : Nat} {e t : TypeId} {v u : Value} {vs us : List Value} (h : Own w B e v vs) (hl : ∀ k, v.ownBlock = some k → k < U) (ho : Own w B' t u us) (hg : w.grownBy w' u.ownBlock) (hB : U ≤ B') : Own w' B e v vs :=
  h.grown hg fun k hk hc => by
    have := hl k hk
    have := (ho.lt k hc).1
    omega
theorem At.apart {w w' : World} {B' U : Nat} {e t : TypeId} {v u' : Value} {us : List Value} {i : Int} {p : Addr} {u : Value} (h : At w e v i p u) (hl : ∀ k, v.ownBlock = some k → k < U) (ho : Own w B' t u' us) (hg : w.grownBy w' u'.ownBlock) (hB : U ≤ B') : At w' e v i p u := by
  obtain ⟨h1, ⟨b, o, c, n, rfl, rfl, h0, hn⟩, cur, fr, h3⟩ := h
  have hb' : w'.heap[b]? = w.heap[b]? := by
    refine hg.block _ (lt_of_block h3) fun hc => ?_
    have := hl b rfl
    have := (ho.lt b hc.symm).1
    omega
  exact ⟨by rw [World.cell?_of_block hb']; exact h1, ⟨b, o, c, n, rfl, rfl, h0, hn⟩, cur, fr, by show w'.heap[b]? = _; rw [hb']; exact h3⟩

/-! rows that another row is put into -/
theorem OwnRows.swap {w w' : World} {B U B' : Nat} {e e' : TypeId} {v : Value} {xss : List (List Int)} (h : OwnRows w B U e e' v xss) (hne : e' ≠ e) {i : Int} {p : Addr} {r r' : Value} (ha : At w e v i p r) {ys : List Int} (hr : Own w' B' e' r' (ys.map (Value.int .i64))) (hg : w.grownBy w' r.ownBlock) :
    ∃ rs, Own w' B e v rs ∧ ∀ w'', w'.grownBy w'' v.ownBlock → Own w'' B e v (rs.set i.toNat r') → Rows w'' e e' v (xss.set i.toNat ys) := by
  have hold := (h.rowAt ha).1
  have hat := h.rowAt ha
  obtain ⟨rs, h1, h2, h3, h4⟩ := h
  have h1' := h1.owned hold hg hne
  have hrs : rs[i.toNat]? = some r := by
    obtain ⟨hc, ⟨b, o, c, n, rfl, rfl, h0, hn⟩, hty⟩ := ha
    rcases h1.cases with ⟨hv, _⟩ | ⟨g, cap, cs, hv, hB, hb, h5, h6, h7, h8⟩
    · simp at hv
    · simp only [Value.slice.injEq, Option.some.injEq, Addr.mk.injEq] at hv
      obtain ⟨⟨rfl, rfl, _⟩, rfl, rfl⟩ := hv
      rw [hb.cell] at hc
      have hlt : i.toNat < rs.length := by omega
      rw [← h8, List.getElem?_take, if_pos hlt]
      simpa using hc
  refine ⟨rs, h1', fun w'' hg2 ho2 => ⟨rs.set i.toNat r', ho2.row, by simp [h2], fun j q hq => ?_⟩⟩
  by_cases hj : i.toNat = j
  · subst hj
    have hlt : i.toNat < rs.length := (List.getElem?_eq_some_iff.1 hrs).1
    have e1 : (xss.set i.toNat ys).getD i.toNat [] = ys := by simp [← h2, hlt]
    rw [e1]
    rw [List.getElem?_set_self hlt] at hq
    obtain rfl := Option.some.inj hq
    exact (hr.row).owned h1' hg2 (Ne.symm hne)
  · rw [List.getElem?_set_ne hj] at hq
    have e1 : (xss.set i.toNat ys).getD j [] = xss.getD j [] := by simp [List.getElem?_set_ne hj]
    rw [e1]
    exact (((h3 j q hq).1.grown hg (fun k hk hc => h4 i.toNat j r q hrs hq hj k hc hk)).row).owned h1' hg2 (Ne.symm hne)
theorem OwnRows.none {w : World} {B U : Nat} {e e' : TypeId} {v : Value} (h : Own w B e v []) : OwnRows w B U e e' v [] := ⟨[], h, rfl, by simp, by simp⟩
theorem At.stored {w w' : World} {e t : TypeId} {v u : Value} {i : Int} {p : Addr} {g : Nat} {cs : List Value} (h : At w e v i p u) (hg : w.grownBy w' (some g)) (hb : Blk w g t cs) (hne : t ≠ e) : At w' e v i p u := by
  obtain ⟨h1, h2, cur, fr, h3⟩ := h
  have hb' : w'.heap[p.block]? = w.heap[p.block]? := by
    refine hg.block _ (lt_of_block h3) fun hc => ?_
    injection hc with hc
    subst hc
    simp only [Blk] at hb
    rw [hb] at h3
    simp at h3
    exact hne h3.2.1
  exact ⟨by rw [World.cell?_of_block hb']; exact h1, h2, cur, fr, by rw [hb']; exact h3⟩

/-- Of a size that a draw may have. -/
def Small (n : Nat) (a : A) : Prop := (-1000 ≤ a.al ∧ a.al ≤ 1000) ∧ a.next.length ≤ n ∧ a.acc.length ≤ n ∧ ∀ row ∈ a.next, row.length ≤ n
theorem Small.fit {n : Nat} {a : A} (h : Small n a) (hn : n ≤ 2000) : Fit a := ⟨by have := h.1; omega, by have := h.2.1; omega, by have := h.2.2.1; omega, fun row hr => by have := h.2.2.2 row hr; omega⟩
theorem Small.of {a : A} (h : validA a = true) : Small 20 a := by
  obtain ⟨h1, h2, h3, h4⟩ := validA_spec.1 h
  refine ⟨by omega, by omega, by omega, fun row hr => ?_⟩
  have := (h4 row hr).1
  have := letters_len6 a.al
  omega
theorem Small.mono {n m : Nat} {a : A} (h : Small n a) (hm : n ≤ m) : Small m a := ⟨h.1, Nat.le_trans h.2.1 hm, Nat.le_trans h.2.2.1 hm, fun row hr => Nat.le_trans (h.2.2.2 row hr) hm⟩
theorem Small.same {n m : Nat} {a : A} {al : Int} (h : Small n a) (hal : -1000 ≤ al ∧ al ≤ 1000) (hm : n ≤ m) : Small m ⟨al, a.next, a.acc⟩ := ⟨hal, (h.mono hm).2⟩
theorem Small.push {n m : Nat} {a : A} {b : Bool} (h : Small n a) (hm : n + 1 ≤ m) : Small m ⟨a.al, a.next, a.acc ++ [b]⟩ := by
  have k := h.mono (by omega : n ≤ m)
  refine ⟨k.1, k.2.1, ?_, k.2.2.2⟩
  have := h.2.2.1
  simp; omega
theorem Small.row {n m k : Nat} {a : A} {row : List Int} (h : Small n a) (hm : n ≤ m) (hr : row.length ≤ m) : Small m ⟨a.al, a.next.set k row, a.acc⟩ := by
  have q := h.mono hm
  exact ⟨q.1, by rw [List.length_set]; exact q.2.1, q.2.2.1, all_set q.2.2.2 hr⟩
theorem Small.rowAt {n k : Nat} {a : A} (h : Small n a) : (a.next.getD k []).length ≤ n := by
  rcases Nat.lt_or_ge k a.next.length with hk | hk
  · exact h.2.2.2 _ (getD_mem hk)
  · simp [hk]
theorem all_row {n k : Nat} {xss : List (List Int)} (h : ∀ row ∈ xss, row.length ≤ n) : (xss.getD k []).length ≤ n := by
  rcases Nat.lt_or_ge k xss.length with hk | hk
  · exact h _ (getD_mem hk)
  · simp [hk]
theorem validA_rows {a : A} (h : validA a = true) : ∀ row ∈ a.next, rowOk (letters a.al).length a.next.length row = true := by
  simp only [validA, Bool.and_eq_true, List.all_eq_true] at h
  exact h.2.2.2

theorem str_ne {s : ByteArray} (h : ¬ s.data.toList = (⟨#[]⟩ : ByteArray).data.toList) : 1 ≤ s.size := by
  rcases Nat.eq_zero_or_pos s.size with h0 | h0
  · exfalso; apply h
    have : s.data.toList.length = 0 := h0
    rw [List.eq_nil_of_length_eq_zero this]
  · exact h0
theorem all_size {xs : List ByteArray} {n : Nat} (h : xs.all (fun x => Nat.ble x.size n) = true) : ∀ x ∈ xs, x.size ≤ n := fun x hx => Nat.le_of_ble_eq_true (List.all_eq_true.1 h x hx)
theorem valid_at {a : A} (h : validA a = true) {k j : Nat} (hk : k < a.next.length) (hj : j < (a.next.getD k []).length) : 0 ≤ (a.next.getD k []).getD j 0 ∧ (a.next.getD k []).getD j 0 < a.next.length :=
  (rowOk_at (validA_rows h) hk).2 _ (getD_mem hj)
theorem valid_row {a : A} (h : validA a = true) {k : Nat} (hk : k < a.next.length) : (a.next.getD k []).length = (letters a.al).length := by
  have := (rowOk_at (validA_rows h) hk).1
  omega
theorem valid_row6 {a : A} (h : validA a = true) {k : Nat} : (a.next.getD k []).length ≤ 6 := by
  rcases Nat.lt_or_ge k a.next.length with hk | hk
  · rw [valid_row h hk]; exact letters_len6 _
  · simp [hk]


end Go.Proofs.Ytdkdpmmfebdeaaa
