/-
  The texts of this proof, joined (wip/merge.py): the calculus of slots, plain mathematics, walks.
-/
import Derived.Test.YtdejmfkpohgamaaGe2
set_option linter.unusedSimpArgs false
set_option linter.unusedVariables false
namespace Go.Proofs.Ytdejmfkpohgamaa
def In2 (a b : A) (p : Int × Int) : Prop := (0 ≤ p.1 ∧ p.1 < a.next.length) ∧ 0 ≤ p.2 ∧ p.2 < b.next.length
theorem in_zero {a b : A} (hv : validA a = true) (hv' : validA b = true) : In2 a b (0, 0) := ⟨zero_in hv, zero_in hv'⟩
theorem in_step {a b : A} (hv : validA a = true) (hv' : validA b = true) {L : Int} : ∀ p, In2 a b p → ∀ l ∈ letters L, In2 a b (step2 a b p l) := fun p hp l hl => in2 hv hv' hp ⟨(mem_letters hl).1, (mem_letters hl).2.1⟩
theorem le144 {a b : A} (hv : validA a = true) (hv' : validA b = true) : a.next.length * b.next.length ≤ 144 := Nat.mul_le_mul (validA_spec.1 hv).2.1.2 (validA_spec.1 hv').2.1.2
theorem prod_al {a b : A} (hv : validA a = true) (hv' : validA b = true) : 0 ≤ orI a.al b.al ∧ orI a.al b.al ≤ 63 := orI_le (validA_spec.1 hv).1 (validA_spec.1 hv').1
theorem prod_valid {a b : A} {k : Int} (h : prodOk a b k = true) : validA (prodA a b k) = true := by
  obtain ⟨h1, h2, _, h4⟩ := prodOk_spec.1 h
  exact num_valid (prod_al h1 h2) h4
theorem fold2 (a b : A) : ∀ (w : List Int) (p : Int × Int), w.foldl (step2 a b) p = (run a p.1 w, run b p.2 w)
  | [], p => rfl
  | x :: w, p => by rw [List.foldl_cons, fold2 a b w]; rfl
def enc2 (b : A) (p : Int × Int) : Int := p.1 * (b.next.length : Int) + p.2
def fP (a b : A) (q x : Int) : Int := goA a (q / (b.next.length : Int)) x * (b.next.length : Int) + goA b (q % (b.next.length : Int)) x
def accP (a b : A) (k q : Int) : Bool := kindB k (accA a (q / (b.next.length : Int))) (accA b (q % (b.next.length : Int)))
def InP (a b : A) (q : Int) : Prop := 0 ≤ q ∧ q < ((a.next.length * b.next.length : Nat) : Int)
theorem inP_div {a b : A} {q : Int} (hv' : validA b = true) (h : InP a b q) : In2 a b (q / (b.next.length : Int), q % (b.next.length : Int)) := by
  have hb : 0 < (b.next.length : Int) := (zero_in hv').2
  refine ⟨⟨Int.ediv_nonneg h.1 (Int.le_of_lt hb), ?_⟩, Int.emod_nonneg _ (by omega), Int.emod_lt_of_pos _ hb⟩
  have h2 := h.2
  rw [Int.natCast_mul] at h2
  exact Int.ediv_lt_of_lt_mul hb h2
theorem inP_enc {a b : A} {p : Int × Int} (h : In2 a b p) : InP a b (enc2 b p) := by
  obtain ⟨⟨h1, h2⟩, h3, h4⟩ := h
  have hb : 0 ≤ (b.next.length : Int) := by omega
  have h5 : p.1 * (b.next.length : Int) ≤ ((a.next.length : Int) - 1) * (b.next.length : Int) := Int.mul_le_mul_of_nonneg_right (by omega) hb
  have h6 : 0 ≤ p.1 * (b.next.length : Int) := Int.mul_nonneg h1 hb
  unfold InP enc2
  rw [Int.natCast_mul]
  rw [Int.sub_mul] at h5
  omega
theorem enc_div {a b : A} {p : Int × Int} (h : In2 a b p) : enc2 b p / (b.next.length : Int) = p.1 ∧ enc2 b p % (b.next.length : Int) = p.2 := by
  obtain ⟨⟨h1, h2⟩, h3, h4⟩ := h
  have hb : 0 < (b.next.length : Int) := by omega
  unfold enc2
  constructor
  · rw [Int.add_comm, Int.add_mul_ediv_right _ _ (by omega), Int.ediv_eq_zero_of_lt h3 h4, Int.zero_add]
  · rw [Int.add_comm, Int.add_mul_emod_self_right, Int.emod_eq_of_lt h3 h4]
theorem fP_enc {a b : A} {p : Int × Int} (h : In2 a b p) (x : Int) : fP a b (enc2 b p) x = enc2 b (step2 a b p x) := by
  obtain ⟨h1, h2⟩ := enc_div h
  unfold fP
  rw [h1, h2]
  rfl
theorem fP_in {a b : A} (hv : validA a = true) (hv' : validA b = true) {q : Int} (h : InP a b q) {x : Int} (hx : 0 ≤ x ∧ x < 6) : InP a b (fP a b q x) :=
  inP_enc (p := (goA a (q / (b.next.length : Int)) x, goA b (q % (b.next.length : Int)) x)) (in2 hv hv' (inP_div hv' h) hx)
theorem zero_inP {a b : A} (hv : validA a = true) (hv' : validA b = true) : InP a b 0 := by
  have := inP_enc (in_zero hv hv')
  simpa [enc2] using this
theorem enc_inj {a b : A} (p q : Int × Int) (hp : In2 a b p) (hq : In2 a b q) (e : enc2 b p = enc2 b q) : p = q := by
  have h1 := enc_div hp
  have h2 := enc_div hq
  rw [e] at h1
  ext
  · rw [← h1.1, h2.1]
  · rw [← h1.2, h2.2]
theorem ordP {a b : A} (hv : validA a = true) (hv' : validA b = true) : ord (fP a b) 0 (letters (orI a.al b.al)) = (ord2 a b).map (enc2 b) := by
  have := ord_map (L := letters (orI a.al b.al)) (f := step2 a b) (s := ((0, 0) : Int × Int)) (f' := fP a b) (g := enc2 b) (P := In2 a b) enc_inj (in_zero hv hv') (in_step hv hv') (fun p hp l hl => fP_enc hp l)
  have e : enc2 b (0, 0) = 0 := by simp [enc2]
  rw [e] at this
  exact this
theorem numP {a b : A} {k : Int} (hv : validA a = true) (hv' : validA b = true) : num (orI a.al b.al) (fP a b) 0 (accP a b k) = prodA a b k := by
  have := num_map (al := orI a.al b.al) (f := step2 a b) (s := ((0, 0) : Int × Int)) (acc := acc2 a b k) (f' := fP a b) (acc' := accP a b k) (g := enc2 b) (P := In2 a b) enc_inj (in_zero hv hv') (in_step hv hv') (fun p hp l hl => fP_enc hp l)
    (fun p hp => by
      obtain ⟨h1, h2⟩ := enc_div hp
      unfold accP acc2
      rw [h1, h2])
  have e : enc2 b (0, 0) = 0 := by simp [enc2]
  rw [e] at this
  exact this
theorem fP_bfs_len {a b : A} (hv : validA a = true) (hv' : validA b = true) (L : Int) (i : Nat) : (bfs (fP a b) 0 (letters L) i).length ≤ 144 := by
  have h := bfs_len (f := fP a b) (s := 0) (L := letters L) (U := (List.range (a.next.length * b.next.length)).map (fun i : Nat => (i : Int))) (M := a.next.length * b.next.length) (inU.2 (zero_inP hv hv')) (fun q hq l hl => inU.2 (fP_in hv hv' (inU.1 hq) ⟨(mem_letters hl).1, (mem_letters hl).2.1⟩)) (by simp) i
  exact Nat.le_trans h (le144 hv hv')
theorem fP_mul {a b : A} (hv : validA a = true) (hv' : validA b = true) {q : Int} (h : InP a b q) {x : Int} (hx : 0 ≤ x ∧ x < 6) : 0 ≤ goA a (q / (b.next.length : Int)) x * (b.next.length : Int) ∧ goA a (q / (b.next.length : Int)) x * (b.next.length : Int) ≤ 144 := by
  have h1 : 0 ≤ goA a (q / (b.next.length : Int)) x ∧ goA a (q / (b.next.length : Int)) x < a.next.length := goA_in hv (inP_div hv' h).1 hx
  have h2 := (validA_spec.1 hv).2.1
  have h3 := (validA_spec.1 hv').2.1
  refine ⟨Int.mul_nonneg h1.1 (by omega), ?_⟩
  have : goA a (q / (b.next.length : Int)) x * (b.next.length : Int) ≤ 12 * (b.next.length : Int) := Int.mul_le_mul_of_nonneg_right (by omega) (by omega)
  have h4 : (b.next.length : Int) ≤ 12 := by omega
  omega
theorem prodOk_len {a b : A} {k : Int} (hv : validA a = true) (hv' : validA b = true) (hk : 0 ≤ k ∧ k ≤ 2) (h : (((ord (fP a b) 0 (letters (orI a.al b.al))).length : Nat) : Int) ≤ 12) : prodOk a b k = true := by
  rw [ordP hv hv', List.length_map] at h
  exact prodOk_spec.2 ⟨hv, hv', hk, by omega⟩
theorem prodOk_big {a b : A} {k : Int} (hv : validA a = true) (hv' : validA b = true) (h : ¬ (((ord (fP a b) 0 (letters (orI a.al b.al))).length : Nat) : Int) ≤ 12) : prodOk a b k = false := by
  rw [ordP hv hv', List.length_map] at h
  cases hh : prodOk a b k with
  | false => rfl
  | true => exact absurd (prodOk_spec.1 hh).2.2.2 (by omega)
theorem prodOk_no {a b : A} {k : Int} (h : validA a = false ∨ validA b = false ∨ ¬ (0 ≤ k ∧ k ≤ 2)) : prodOk a b k = false := by
  cases hh : prodOk a b k with
  | false => rfl
  | true =>
    obtain ⟨h1, h2, h3, _⟩ := prodOk_spec.1 hh
    rcases h with h | h | h
    · rw [h] at h1; cases h1
    · rw [h] at h2; cases h2
    · exact absurd h3 h
end Go.Proofs.Ytdejmfkpohgamaa
set_option linter.unusedSimpArgs false
set_option linter.unusedVariables false
namespace Go.Proofs.Ytdejmfkpohgamaa
open Go.RowKit
def encI (x : Int) : Value := .int .i64 x
def OwnRowsZ (w : World) (B U : Nat) (e e' : TypeId) (v : Value) (xss : List (List Int)) (z : Value) : Prop :=
  ∃ rs, Own w B e v rs ∧ rs.length = xss.length ∧ (∀ i r, rs[i]? = some r → Own w B e' r ((xss.getD i []).map (Value.int .i64)) ∧ ∀ k, r.ownBlock = some k → k < U ∧ z.ownBlock ≠ some k) ∧
    ∀ (i j : Nat) (r r' : Value), rs[i]? = some r → rs[j]? = some r' → i ≠ j → ∀ k, r.ownBlock = some k → r'.ownBlock ≠ some k
section
variable {w w' : World} {B U : Nat} {e e' : TypeId} {v z : Value} {xss : List (List Int)}
theorem OwnRowsZ.nil (w : World) (B U : Nat) (e e' : TypeId) (z : Value) : OwnRowsZ w B U e e' (.slice none 0 0) [] z := ⟨[], Own.nil _ _ _, rfl, by simp, by simp⟩
theorem OwnRowsZ.to (h : OwnRowsZ w B U e e' v xss z) : OwnRows w B U e e' v xss := by
  obtain ⟨rs, h1, h2, h3, h4⟩ := h
  exact ⟨rs, h1, h2, fun i r hr => ⟨(h3 i r hr).1, fun k hk => ((h3 i r hr).2 k hk).1⟩, h4⟩
theorem OwnRowsZ.ext (h : OwnRowsZ w B U e e' v xss z) (x : Ext w w') : OwnRowsZ w' B U e e' v xss z := by
  obtain ⟨rs, h1, h2, h3, h4⟩ := h
  exact ⟨rs, h1.ext x, h2, fun i r hr => ⟨(h3 i r hr).1.ext x, (h3 i r hr).2⟩, h4⟩
theorem OwnRowsZ.up {U' : Nat} (h : OwnRowsZ w B U e e' v xss z) (hU : U ≤ U') : OwnRowsZ w B U' e e' v xss z := by
  obtain ⟨rs, h1, h2, h3, h4⟩ := h
  exact ⟨rs, h1, h2, fun i r hr => ⟨(h3 i r hr).1, fun k hk => ⟨Nat.lt_of_lt_of_le ((h3 i r hr).2 k hk).1 hU, ((h3 i r hr).2 k hk).2⟩⟩, h4⟩
theorem OwnRowsZ.now (h : OwnRowsZ w B U e e' v xss z) : OwnRowsZ w B w.heap.size e e' v xss z := by
  obtain ⟨rs, h1, h2, h3, h4⟩ := h
  exact ⟨rs, h1, h2, fun i r hr => ⟨(h3 i r hr).1, fun k hk => ⟨((h3 i r hr).1.lt k hk).2, ((h3 i r hr).2 k hk).2⟩⟩, h4⟩
theorem OwnRowsZ.mapped {κ : Type} {enc : κ → Value} {b : Nat} {xs : List κ} (h : OwnRowsZ w B U e e' v xss z) (hm : MapN enc w b xs) (hg : w.grownBy w' (some b)) : OwnRowsZ w' B U e e' v xss z := by
  obtain ⟨rs, h1, h2, h3, h4⟩ := h
  exact ⟨rs, h1.mapped hm hg, h2, fun i r hr => ⟨(h3 i r hr).1.mapped hm hg, (h3 i r hr).2⟩, h4⟩
theorem OwnRowsZ.apart {B' : Nat} {u : Value} {us : List Value} (h : OwnRowsZ w B U e e' v xss z) (ho : Own w B' e' u us) (hg : w.grownBy w' u.ownBlock) (hB : U ≤ B') (hne : e' ≠ e) : OwnRowsZ w' B U e e' v xss z := by
  obtain ⟨rs, h1, h2, h3, h4⟩ := h
  refine ⟨rs, h1.owned ho hg hne, h2, fun i r hr => ⟨(h3 i r hr).1.grown hg (fun k hk hc => ?_), (h3 i r hr).2⟩, h4⟩
  have := ((h3 i r hr).2 k hk).1
  have := (ho.lt k hc).1
  omega
theorem OwnRowsZ.grow {B' : Nat} {z' : Value} {us : List Value} (h : OwnRowsZ w B U e e' v xss z) (ho : Own w B' e' z us) (hg : w.grownBy w' z.ownBlock) (hf : ∀ k, z'.ownBlock = some k → z.ownBlock = some k ∨ w.heap.size ≤ k) (hne : e' ≠ e) : OwnRowsZ w' B U e e' v xss z' := by
  obtain ⟨rs, h1, h2, h3, h4⟩ := h
  refine ⟨rs, h1.owned ho hg hne, h2, fun i r hr => ⟨(h3 i r hr).1.grown hg (fun k hk hc => ((h3 i r hr).2 k hk).2 hc), fun k hk => ⟨((h3 i r hr).2 k hk).1, fun hc => ?_⟩⟩, h4⟩
  rcases hf k hc with h5 | h5
  · exact ((h3 i r hr).2 k hk).2 h5
  · have := ((h3 i r hr).1.lt k hk).2; omega
theorem OwnRowsZ.open (h : OwnRowsZ w B U e e' v xss z) (hne : e ≠ e') : ∃ rs, Own w B e v rs ∧ rs.length = xss.length ∧
    ∀ r xs w1 v' w', Ext w w1 → Own w1 U e' r (xs.map (Value.int .i64)) → Apart z r → B ≤ U → Own w' B e v' (rs ++ [r]) → w1.grownBy w' v.ownBlock → OwnRowsZ w' B w'.heap.size e e' v' (xss ++ [xs]) z := by
  obtain ⟨rs, h1, h2, h3, h4⟩ := h
  refine ⟨rs, h1, h2, fun r xs w1 v' w' x hr ha hBU hv hg => ?_⟩
  have hv1 := h1.ext x
  have hr' := hr.owned hv1 hg hne
  have hrow : ∀ i q, (rs ++ [r])[i]? = some q → (rs[i]? = some q ∧ i < rs.length) ∨ (i = rs.length ∧ q = r) := by
    intro i q hq
    rw [List.getElem?_append] at hq
    split at hq
    · exact .inl ⟨hq, by assumption⟩
    · right
      have : i - rs.length = 0 := by
        rcases Nat.eq_zero_or_pos (i - rs.length) with h | h
        · exact h
        · rw [List.getElem?_eq_none (by simp; omega)] at hq; cases hq
      rw [this] at hq
      simp at hq
      exact ⟨by omega, hq.symm⟩
  refine ⟨rs ++ [r], hv, by simp [h2], fun i q hq => ?_, fun i j q q' hq hq' hij k hk hk' => ?_⟩
  · rcases hrow i q hq with ⟨hq, hlt⟩ | ⟨rfl, rfl⟩
    · have e1 : (xss ++ [xs]).getD i [] = xss.getD i [] := by
        simp [List.getElem?_append, show i < xss.length by omega]
      rw [e1]
      have ho := ((h3 i q hq).1.ext x).owned hv1 hg hne
      exact ⟨ho, fun k hk => ⟨(ho.lt k hk).2, ((h3 i q hq).2 k hk).2⟩⟩
    · have e1 : (xss ++ [xs]).getD rs.length [] = xs := by
        simp [List.getElem?_append, h2]
      rw [e1]
      exact ⟨hr'.mono hBU, fun k hk => ⟨(hr'.lt k hk).2, fun hc => ha k hc hk⟩⟩
  · rcases hrow i q hq with ⟨hq1, _⟩ | ⟨hi1, hq1⟩ <;> rcases hrow j q' hq' with ⟨hq2, _⟩ | ⟨hj1, hq2⟩
    · exact h4 i j q q' hq1 hq2 hij k hk hk'
    · have a1 := ((h3 i q hq1).2 k hk).1
      have a2 := (hr.lt k (hq2 ▸ hk')).1
      omega
    · have a1 := ((h3 j q' hq2).2 k hk').1
      have a2 := (hr.lt k (hq1 ▸ hk)).1
      omega
    · exact hij (by omega)
end
theorem Sq.insert {P : Program} {N : Nat} {ops : Array Oper} {Q : Exit → Act → World → Prop} {rest : List Oper} {l : Slots} {w : World} {ty : TypeId} {pos : String} {after : Array Edge} {g : Option (Nat × Bool)}
    {κ : Type} [DecidableEq κ] {enc : κ → Value} {b : Nat} {xs : List κ} {t : TypeId} {m x y : Operand} {k : κ} {n : Int} (ht : KeyT P t enc) (hm : MapN enc w b xs) (hg : On ops l g) (hx : ev l m = some (.map (some b))) (hk : ev l x = some (enc k)) (hy : ev l y = some (.int .i64 n)) (hn : n = xs.length) (hin : k ∉ xs)
    (h : ∀ w', w.grownBy w' (some b) → MapN enc w' b (xs ++ [k]) → Sq P N ops Q rest l w') : Sq P N ops Q (⟨none, .insert t m x y, ty, pos, after, g⟩ :: rest) l w := by
  obtain ⟨kt, et, kd, h1, h2, h3, h4, h5⟩ := ht.types
  obtain ⟨es, c, hb, hes⟩ := hm
  have hf := findKey_num (P := P) (w := w) h2 h3 k hes
  rw [if_neg hin] at hf
  have hs := MapKept.heap_set (o' := .map (es.push { key := enc k, val := .int .i64 n, born := c }) (c + 1)) hb
  refine .unit (w' := { w with heap := w.heap.setIfInBounds b (.map (es.push { key := enc k, val := .int .i64 n, born := c }) (c + 1)) }) hg rfl (fun a ha => ?_) (h _ ⟨rfl, rfl, rfl, by simp, fun j _ hne => hs.2 j (fun e => hne (congrArg some e))⟩ ⟨_, _, hs.1, ?_⟩)
  · simp [execOp, Instr.mapUpdate, ha.ev hx, ha.ev hk, ha.ev hy, run_underlying h1, MapKept.run_getObj_map hb, MapKept.run_checkKey h2 (h5 k), hf, MapKept.run_setObj_map _ hb, Result.andThen]
  · rw [Array.toList_push, List.map_append, hes, List.zipIdx_append, List.map_append, hn]
    simp
theorem keyI {P : Program} {t kt et : TypeId} (h1 : P.underlying t = some (.map kt et)) (h2 : P.underlying kt = some (.int .i64)) (h3 : ∀ w, (zeroValue et).run P w = .ok (.int .i64 0) w) : KeyT P t encI :=
  ⟨kt, et, .int .i64, h1, h2, fun x y => by simp only [Instr.sameNow, encI, if_true]; first | done | (congr 1; first | done | (rw [Bool.eq_iff_iff]; simp)), h3, fun x => rfl⟩
def Clo (P : Program) (w0 : World) (fv : Value) (D : Int → Prop) (f : Int → Int → Int) : Prop :=
  ∃ k fn, ∃ cs : List Value, fv = .func (.func k) #[] cs.toArray ∧ Fn P k fn ∧ ∀ w q x, Ext w0 w → D q → 0 ≤ x ∧ x < 6 → Ret P k ([Value.int .i64 q, Value.int .i64 x] ++ cs).toArray w fun v w' => v = .int .i64 (f q x) ∧ Ext w w'
theorem ord_lim {f : Int → Int → Int} {s : Int} {L : List Int} {i k : Nat} {q : Int} {lim : Int} (hq : (bfs f s L i)[i]? = some q) (hi : i + 1 ≤ 200) (hl : (((mid f s L i q k).length : Nat) : Int) = lim) (hk : k < L.length) (hn : f q (L.getD k 0) ∉ mid f s L i q k) : ¬ (((ord f s L).length : Nat) : Int) ≤ lim := by
  have h1 := (mid_prefix (k := k + 1) hq).length_le
  rw [mid_succ hk, addNode_F hn, List.length_append] at h1
  have h2 := (ord_prefix (f := f) (s := s) (L := L) hi).length_le
  simp only [List.length_singleton] at h1
  omega
theorem ord_fin {f : Int → Int → Int} {s : Int} {L : List Int} {i : Nat} {lim : Int} (h : (bfs f s L i).length ≤ i) (hi : i ≤ 200) (hl : (((bfs f s L i).length : Nat) : Int) ≤ lim) : bfs f s L i = ord f s L ∧ ((((ord f s L).length : Nat) : Int) ≤ lim) := by
  have e := ord_done h hi
  exact ⟨e, by rw [← e]; exact hl⟩
theorem rowsAt_fin {f : Int → Int → Int} {s : Int} {L : List Int} {i : Nat} (h : (bfs f s L i).length ≤ i) (hi : i ≤ 200) : rowsAt f L (bfs f s L i) i = (ord f s L).map (rowAt f L (ord f s L)) := by
  rw [ord_done h hi]
  unfold rowsAt
  rw [List.take_of_length_le (by rw [← ord_done h hi]; exact h)]
theorem mid_at {f : Int → Int → Int} {s : Int} {L : List Int} {i k : Nat} {q : Int} (hq : (bfs f s L i)[i]? = some q) : (mid f s L i q k).getD i 0 = q := by
  obtain ⟨t, ht⟩ := mid_prefix0 (f := f) (s := s) (L := L) i q k
  have hi := (List.getElem?_eq_some_iff.1 hq).1
  rw [← ht, List.getD_eq_getElem?_getD, List.getElem?_append_left hi, hq]
  rfl
theorem notin_snoc {xs : List Int} {n : Int} {k : Nat} (hp : n ∉ xs.take k) (hk : k < xs.length) (hne : ¬ xs.getD k 0 = n) : n ∉ xs.take (k + 1) := by
  rw [take_snoc 0 hk]
  simp only [List.mem_append, List.mem_singleton, not_or]
  exact ⟨hp, fun h => hne h.symm⟩
theorem notin_done {xs : List Int} {n : Int} {k : Nat} (hp : n ∉ xs.take k) (hk : xs.length ≤ k) : n ∉ xs := by rwa [List.take_of_length_le hk] at hp
theorem Ints.low {w : World} {e : TypeId} {v : Value} {xs : List Int} (h : Ints w e v xs) (hx : 0 < xs.length) : ∀ k, v.ownBlock = some k → k < w.heap.size := by
  intro k hk
  rcases h with ⟨h0, _⟩ | ⟨b, o, c, cur, fr, rfl, hb, _⟩
  · rw [List.map_eq_nil_iff] at h0; subst h0; simp at hx
  · simp [Value.ownBlock] at hk
    subst hk
    exact lt_of_block hb
theorem getD_app {α : Type} {xs ys : List α} {d : α} {k : Nat} (h : k < xs.length) : (xs ++ ys).getD k d = xs.getD k d := by
  rw [List.getD_eq_getElem?_getD, List.getElem?_append_left h, ← List.getD_eq_getElem?_getD]
theorem Small.push2 {n m : Nat} {a : A} {row : List Int} {b : Bool} (h : Small n a) (hm : n + 1 ≤ m) (hr : row.length ≤ m) : Small m ⟨a.al, a.next ++ [row], a.acc ++ [b]⟩ := by
  have h1 := h.2.1
  have h2 := h.2.2.1
  refine ⟨h.1, by simp only [List.length_append, List.length_singleton]; omega, by simp only [List.length_append, List.length_singleton]; omega, fun r hr' => ?_⟩
  rcases List.mem_append.1 hr' with h3 | h3
  · have := h.2.2.2 r h3; omega
  · rw [List.mem_singleton.1 h3]; exact hr
theorem Small.accs {n m : Nat} {a : A} {ys : List Bool} (h : Small n a) (hm : n ≤ m) (hy : ys.length = a.acc.length) : Small m ⟨a.al, a.next, ys⟩ :=
  ⟨h.1, Nat.le_trans h.2.1 hm, by have := h.2.2.1; show ys.length ≤ m; omega, fun r hr => Nat.le_trans (h.2.2.2 r hr) hm⟩
theorem run_loadAgg {P : Program} {b n : Nat} {u : TypeId} {w : World} {cs : List Value} (hb : Blk w b u cs) (hn : cs.length = n) : (loadCells ⟨b, 0, none⟩ n).run P w = .ok cs.toArray w := by
  rw [← hn]
  refine run_loadCells_list _ _ _ fun j v hv => ?_
  rw [addr_add, hb.cell]
  simpa using hv
theorem Eq.retCC {P : Program} {fn : Func} {N t t' b b' n n' : Nat} {ty ty' u u' : TypeId} {l : Slots} {w : World} {cs cs' : List Value} {R : Value → World → Prop} (hr : fn.results = #[.cell t ty, .cell t' ty']) (hv : look l t = some (.pointer (some ⟨b, 0, none⟩))) (hv' : look l t' = some (.pointer (some ⟨b', 0, none⟩))) (h1 : Agg P ty n) (h1' : Agg P ty' n') (hb : Blk w b u cs) (hb' : Blk w b' u' cs') (hn : cs.length = n) (hn' : cs'.length = n') (h : R (.tuple #[.agg cs.toArray, .agg cs'.toArray]) w) :
    Eq N (bodyPost P fn fun e w' => ∃ v, e = .returned v ∧ R v w') .ret l w := fun a ha => by
  have hl := run_loadAgg (P := P) hb hn
  have hl' := run_loadAgg (P := P) hb' hn'
  have hs := ha.slot _ _ hv
  have hs' := ha.slot _ _ hv'
  refine bodyPost_ret (v := .tuple #[.agg cs.toArray, .agg cs'.toArray]) ?_ ha.defers ⟨_, rfl, h⟩
  simp only [results, hr]
  simp only [Array.getD_eq_getD_getElem?] at hs hs'
  simp [hs, hs', asAddr, loadVar, h1.agg, h1.size, h1'.agg, h1'.size, hl, hl']
section three
variable {P : Program} {N : Nat} {ops : Array Oper} {Q : Exit → Act → World → Prop} {S : World → Prop} {k fuel : Nat} {listed : Array Bool} {l : Slots} {w : World}
theorem Gq.three {o o' o'' : Oper} (i j m : Nat) (hi : ops[i]? = some o) (hj : ops[j]? = some o') (hm : ops[m]? = some o'') (hr : (Region.ready .any ops listed == [i, j, m]) = true) (h : Sq P N ops (AfterG P ops Q S k fuel i listed) [o] l w) (h' : Sq P N ops (AfterG P ops Q S k fuel j listed) [o'] l w) (h'' : Sq P N ops (AfterG P ops Q S k fuel m listed) [o''] l w) : Gq P N ops Q S k (fuel + 1) listed l w := by
  intro a ha
  have hr' : Region.ready .any ops listed = [i, j, m] := by simpa using hr
  refine ⟨fun h0 => absurd (hr' ▸ h0) (by simp), fun n hn => ?_⟩
  rw [hr'] at hn
  rcases List.mem_cons.1 hn with rfl | hn
  · exact wpOp_of_list (Q' := AfterG P ops Q S k fuel _ listed) hi (fun _ _ => rfl) (fun _ _ _ => rfl) (fun _ _ => rfl) (h a ha)
  · rcases List.mem_cons.1 hn with rfl | hn
    · exact wpOp_of_list (Q' := AfterG P ops Q S k fuel _ listed) hj (fun _ _ => rfl) (fun _ _ _ => rfl) (fun _ _ => rfl) (h' a ha)
    · obtain rfl : n = m := by simpa using hn
      exact wpOp_of_list (Q' := AfterG P ops Q S k fuel _ listed) hm (fun _ _ => rfl) (fun _ _ _ => rfl) (fun _ _ => rfl) (h'' a ha)
end three
theorem Eq.ret3 {P : Program} {fn : Func} {N t u x : Nat} {l : Slots} {w : World} {v v' v'' : Value} {R : Value → World → Prop} (hr : fn.results = #[.tmp t, .tmp u, .tmp x]) (hv : look l t = some v) (hv' : look l u = some v') (hv'' : look l x = some v'') (h : R (.tuple #[v, v', v'']) w) :
    Eq N (bodyPost P fn fun e w' => ∃ v, e = .returned v ∧ R v w') .ret l w := fun a ha =>
  bodyPost_ret (v := .tuple #[v, v', v'']) (by
    have e : (results fn a.tmps).run P w = .ok (.tuple #[a.tmps.getD t undef, a.tmps.getD u undef, a.tmps.getD x undef]) w := by simp [results, hr]
    rw [e, ha.slot _ _ hv, ha.slot _ _ hv', ha.slot _ _ hv'']) ha.defers ⟨_, rfl, h⟩
section wid2
variable {w : World} {B : Nat} {e : TypeId} {v : Value} {ps : List (Int × Int)}
theorem Wid.shape {n : Nat} {rows : List (List Value)} (h : Wid w B e n v rows) : ∃ p c, v = .slice p rows.length c := by
  rcases h.cases with ⟨rfl, rfl⟩ | ⟨g, cap, cs, rfl, _⟩
  · exact ⟨none, 0, rfl⟩
  · exact ⟨_, _, rfl⟩
end wid2
section wid3
variable {P : Program} {N : Nat} {ops : Array Oper} {Q : Exit → Act → World → Prop} {rest : List Oper} {l : Slots} {w : World}
variable {d : Nat} {ty : TypeId} {pos : String} {after : Array Edge} {g : Option (Nat × Bool)}
theorem Still.ixV {t e : TypeId} {z : Value} {n gb len c : Nat} {x ix : Operand} {k : IntKind} {i : Int} {v : Value} (hs : SlW P t e z n) (hv : v = .slice (some ⟨gb, 0, none⟩) len c) (hx : ev l x = some v) (hix : ev l ix = some (.int k i)) (hi : 0 ≤ i ∧ i < (len : Int)) :
    Still P N l ⟨some d, .indexAddr t x ix, ty, pos, after, g⟩ (.pointer (some ⟨gb, i.toNat * n, none⟩)) w := Still.ixW hs (by rw [hx, hv]) hix hi
theorem Sq.lenWid {t e : TypeId} {n B : Nat} {x : Operand} {v : Value} {rows : List (List Value)} (hr : Wid w B e n v rows) (hg : On ops l g) (hN : Nat.blt d N = true) (ht : P.underlying t = some (.slice (P.elem t))) (hx : ev l x = some v)
    (h : Sq P N ops Q rest ((d, .int .i64 rows.length) :: l) w) : Sq P N ops Q (⟨some d, .call ⟨.builtin .len, #[x], #[t]⟩, ty, pos, after, g⟩ :: rest) l w := by
  obtain ⟨p, c, rfl⟩ := hr.shape
  exact .len hg hN ht hx h
end wid3
theorem Wid.low {w : World} {B n : Nat} {e : TypeId} {v : Value} {rows : List (List Value)} (h : Wid w B e n v rows) : ∀ k, v.ownBlock = some k → k < w.heap.size := fun k hk => (h.lt k hk).2
theorem mul144 {a b : A} (hv : validA a = true) (hv' : validA b = true) : -9223372036854775808 ≤ (a.next.length : Int) * (b.next.length : Int) ∧ (a.next.length : Int) * (b.next.length : Int) ≤ 9223372036854775807 := by
  have h := le144 hv hv'
  have h2 : ((a.next.length * b.next.length : Nat) : Int) ≤ 144 := by omega
  rw [Int.natCast_mul] at h2
  have h3 : 0 ≤ (a.next.length : Int) * (b.next.length : Int) := Int.mul_nonneg (by omega) (by omega)
  omega
end Go.Proofs.Ytdejmfkpohgamaa
set_option linter.unusedSimpArgs false
set_option linter.unusedVariables false
namespace Go.Proofs.Ytdejmfkpohgamaa
set_option maxRecDepth 100000
theorem key94 : KeyT Try.prog 94 encI := keyI (kt := 3) (et := 3) (by kernel_rfl) (by kernel_rfl) zero3
theorem slw102 : SlW Try.prog 102 26 (.agg #[.int .i64 0, .slice none 0 0, .slice none 0 0]) 3 := ⟨by kernel_rfl, ⟨_, rfl, by kernel_rfl, by kernel_rfl, by decide⟩, by kernel_rfl, by decide⟩
theorem slw116 : SlW Try.prog 116 118 (.agg #[.int .i64 0, .int .i64 0, .slice none 0 0]) 3 := ⟨by kernel_rfl, ⟨_, rfl, by kernel_rfl, by kernel_rfl, by decide⟩, by kernel_rfl, by decide⟩
end Go.Proofs.Ytdejmfkpohgamaa
set_option linter.unusedSimpArgs false
set_option linter.unusedVariables false
namespace Go.Proofs.Ytdejmfkpohgamaa
open Go.RowKit
set_option maxRecDepth 100000 in
theorem l4Change_c (w0 : World) (rb : Nat) (bv : Value) (p : Int) (bs : List UInt8) (e0 : TypeId) (hR : Blk w0 rb 88 [bv, .int .i64 p]) (hb : Src w0 e0 bv bs rb) (hbl : bs.length ≤ 2000) (hp : 0 ≤ p ∧ p ≤ 700000000) (a : A) (nx ac : Value) (hnx : Rows w0 56 3 nx a.next) (hac : Bools w0 4 ac a.acc) (N : Nat) (hN : N ≤ 1000) (hsm : Small N a) : Ret Try.prog 44 #[Value.pointer (some ⟨rb, 0, none⟩), Value.agg #[Value.int .i64 a.al, nx, ac]] w0 (fun v w => (∃ p', (p ≤ p' ∧ p' ≤ p + 10) ∧ Blk w rb 88 [bv, .int .i64 p'] ∧ w0.grownBy w (some rb)) ∧ ∃ a', RowsA w v a' ∧ Small (N + 20) a') := by
  have G := World.grownBy.refl w0 (some rb)
  have hlt := hR.lt
  have hsm1 := hsm.2.1
  have hsm2 := hsm.2.2.1
  refine Ret.of (args := [Value.pointer (some ⟨rb, 0, none⟩), Value.agg #[Value.int .i64 a.al, nx, ac]]) Try.func44 rfl rfl rfl ?_
  rintro _ rfl
  show Cq _ _ _ _ [(0, Value.pointer (some ⟨rb, 0, none⟩)), (1, Value.agg #[Value.int .i64 a.al, nx, ac])] _
  refine Cq.seq ?_
  refine Cq.region ?_
  refine Sq.box .plain rfl rfl (fun b1 w2 e3 hB4 hlo5 => ?_)
  have hd6 := Nat.lt_of_lt_of_le hR.lt hlo5
  have hd7 := Nat.le_trans (World.grownBy.size G) hlo5
  have hs8 := Below.size e3
  replace hR := hR.ext e3
  replace G := grown_trans G (Ext.to_grown e3 _)
  replace hnx := hnx.ext e3
  replace hac := hac.ext e3
  refine Sq.alloc zero26 .plain rfl (fun b9 w10 e11 hB12 hlo13 => ?_)
  have hd14 := Nat.lt_of_lt_of_le hR.lt hlo13
  have hd15 := Nat.le_trans (World.grownBy.size G) hlo13
  have hd16 := Nat.lt_of_lt_of_le hB4.lt hlo13
  have hs17 := Below.size e11
  replace hR := hR.ext e11
  replace G := grown_trans G (Ext.to_grown e11 _)
  replace hnx := hnx.ext e11
  replace hac := hac.ext e11
  replace hB4 := hB4.ext e11
  refine Sq.nil ?_
  refine Eq.next ?_
  refine Cq.seq ?_
  refine Cq.region ?_
  refine Sq.loadAgg agg26 .plain rfl rfl hB4 rfl ?_
  have hd25 := hR.lt
  have hd26 := hB4.lt
  have hd27 := hB12.lt
  refine Sq.call fn88 .plain rfl rfl (l3Copy_c _ a _ _ hnx hac (hsm.fit (by omega))) ?_
  rintro _ w19 ⟨⟨nx21, ac22, rfl, hn23, ha24⟩, e20⟩
  have hs28 := World.grownBy.size G
  have hs29 := Below.size e20
  replace hR := hR.ext e20
  replace G := grown_trans G (Ext.to_grown e20 _)
  replace hB4 := hB4.ext e20
  replace hB12 := hB12.ext e20
  refine Sq.alloc zero26 .plain rfl (fun b30 w31 e32 hB33 hlo34 => ?_)
  have hd35 := Nat.lt_of_lt_of_le hR.lt hlo34
  have hd36 := Nat.le_trans (World.grownBy.size G) hlo34
  have hd37 := Nat.lt_of_lt_of_le hB4.lt hlo34
  have hd38 := Nat.lt_of_lt_of_le hB12.lt hlo34
  have hs39 := Below.size e32
  replace hR := hR.ext e32
  replace G := grown_trans G (Ext.to_grown e32 _)
  replace hB12 := hB12.ext e32
  replace hn23 := hn23.ext e32
  replace ha24 := ha24.ext e32
  refine Sq.storeAgg agg26 .plain rfl rfl (one_cons rfl (one_cons (Rows.one (OwnRows.rows hn23)) (one_cons (Row.one (Own.row ha24)) one_nil))) hB33 rfl rfl (fun w40 g41 hB42 => ?_)
  have hs43 := World.grownBy.size g41
  replace hR := hR.grown g41 (by intro h; injection h with h; omega)
  replace G := grown_far G g41 (fun k hk => by injection hk with hk; subst hk; omega)
  replace hB12 := hB12.grown g41 (by intro h; injection h with h; omega)
  replace hn23 := hn23.stored g41 hB33 (by decide) (by decide)
  replace ha24 := ha24.stored g41 hB33 (by decide)
  replace hB33 := hB42
  refine Sq.nil ?_
  refine Eq.next ?_
  refine Cq.seq ?_
  refine Cq.region ?_
  refine Sq.fieldAddr fld26_1 .plain rfl rfl ?_
  refine Sq.loadB one23 .plain rfl rfl hB33 rfl ?_
  refine Sq.lenRows (OwnRows.rows hn23) .plain rfl und23 rfl ?_
  refine Sq.assign .plain rfl rfl ?_
  refine Sq.nil ?_
  refine Eq.next ?_
  refine Cq.seq ?_
  refine Cq.seq ?_
  refine Cq.region ?_
  refine Sq.move .plain rfl rfl ?_
  refine Sq.eql .plain rfl rfl rfl ?_
  refine Sq.part (fun c44 => ?_) (fun c44 => ?_)
  · refine Sq.nil ?_
    refine Eq.next ?_
    refine Cq.thn rfl ?_
    refine Cq.seq ?_
    refine Cq.region ?_
    refine Sq.loadAgg agg26 .plain rfl rfl hB33 rfl ?_
    refine Sq.storeAgg agg26 .plain rfl rfl (one_cons rfl (one_cons (Rows.one (OwnRows.rows hn23)) (one_cons (Row.one (Own.row ha24)) one_nil))) hB12 rfl rfl (fun w45 g46 hB47 => ?_)
    have hs48 := World.grownBy.size g46
    replace hR := hR.grown g46 (by intro h; injection h with h; omega)
    replace G := grown_far G g46 (fun k hk => by injection hk with hk; subst hk; omega)
    replace hn23 := hn23.stored g46 hB12 (by decide) (by decide)
    replace ha24 := ha24.stored g46 hB12 (by decide)
    replace hB12 := hB47
    refine Sq.nil ?_
    refine Eq.next ?_
    refine Cq.ret ?_
    refine Eq.pastRet ?_
    refine Eq.retCell rfl rfl agg26 hB12 rfl ?_
    exact ⟨⟨_, by omega, hR, G⟩, a, ⟨_, _, rfl, (OwnRows.rows hn23), (Own.row ha24)⟩, hsm.mono (by omega)⟩
  refine Sq.nil ?_
  refine Eq.next ?_
  refine Cq.els rfl ?_
  refine Cq.skip ?_
  refine Eq.next ?_
  refine Cq.seq ?_
  refine Cq.region ?_
  refine Sq.move .plain rfl rfl ?_
  refine Sq.move .plain rfl rfl ?_
  refine Sq.call fn43 .plain rfl rfl (pick_c _ _ _ _ _ _ hR (hb.go G) hbl (by omega) (List.length a.next : Int) (by omega)) ?_
  rintro _ w50 ⟨⟨p51, hp54, hB53, g52⟩, ⟨k55, rfl, hk56⟩⟩
  have hs57 := World.grownBy.size g52
  have hs58 := World.grownBy.size G
  have hs59 := World.grownBy.size g52
  replace G := grown_trans G g52
  replace hB12 := hB12.grown g52 (by intro h; injection h with h; omega)
  replace hn23 := hn23.stored g52 hR (by decide) (by decide)
  replace ha24 := ha24.stored g52 hR (by decide)
  replace hB33 := hB33.grown g52 (by intro h; injection h with h; omega)
  replace hR := hB53
  refine Sq.assign .plain rfl rfl ?_
  refine Sq.nil ?_
  refine Eq.next ?_
  refine Cq.seq ?_
  refine Cq.seq ?_
  refine Cq.region ?_
  refine Sq.move .plain rfl rfl ?_
  refine Sq.call fn43 .plain rfl rfl (pick_c _ _ _ _ _ _ hR (hb.go G) hbl (by omega) 4 (by omega)) ?_
  rintro _ w61 ⟨⟨p62, hp65, hB64, g63⟩, ⟨k66, rfl, hk67⟩⟩
  have hs68 := World.grownBy.size g63
  have hs69 := World.grownBy.size G
  have hs70 := World.grownBy.size g63
  replace G := grown_trans G g63
  replace hB12 := hB12.grown g63 (by intro h; injection h with h; omega)
  replace hn23 := hn23.stored g63 hR (by decide) (by decide)
  replace ha24 := ha24.stored g63 hR (by decide)
  replace hB33 := hB33.grown g63 (by intro h; injection h with h; omega)
  replace hR := hB64
  refine Sq.nil ?_
  refine Eq.next ?_
  refine Cq.block ?_
  refine Cq.seq ?_
  refine Cq.region ?_
  refine Sq.eql .plain rfl rfl rfl ?_
  refine Sq.part (fun c71 => ?_) (fun c71 => ?_)
  · refine Sq.assign .plain rfl rfl ?_
    refine Sq.nil ?_
    refine Eq.next ?_
    refine Cq.thn rfl ?_
    refine Cq.seq ?_
    refine Cq.region ?_
    have hrowk := hsm.rowAt (k := k55.toNat)
    refine Sq.fieldAddr fld26_2 .plain rfl rfl ?_
    refine Sq.loadB one24 .plain rfl rfl hB33 rfl ?_
    refine Sq.lenBools (Own.row ha24) .plain rfl und24 rfl ?_
    refine Sq.move .plain rfl rfl ?_
    refine Sq.gtr .plain rfl rfl rfl ?_
    refine Sq.part (fun c72 => ?_) (fun c72 => ?_)
    · refine Sq.nil ?_
      refine Eq.next ?_
      refine Cq.thn rfl ?_
      refine Cq.draw 9 none mixed (fun w73 e74 => ?_)
      have hs75 := Below.size e74
      replace hR := hR.ext e74
      replace G := grown_trans G (Ext.to_grown e74 _)
      replace hB12 := hB12.ext e74
      replace hn23 := hn23.ext e74
      replace ha24 := ha24.ext e74
      replace hB33 := hB33.ext e74
      have ha24_w73 := ha24
      have hB33_w73 := hB33
      refine Gq.st 0 rfl (by kernel_rfl) rfl .plain rfl (fun _ _ _ h => h) (World.grownBy.refl w73 _) (fun w' x => Still.fieldAddr fld26_2 rfl) ?_
      refine Gq.st 1 rfl (by kernel_rfl) rfl .plain rfl (fun _ _ _ h => h) (World.grownBy.refl w73 _) (fun w' x => Still.loadB one24 rfl (hB33_w73.ext (Ext.of_grown x)) rfl) ?_
      refine Gq.st 2 rfl (by kernel_rfl) rfl .plain rfl (fun _ _ _ h => h) (World.grownBy.refl w73 _) (fun w' x => Still.move rfl) ?_
      refine Gq.st 3 rfl (by kernel_rfl) rfl .plain rfl (fun _ _ _ h => h) (World.grownBy.refl w73 _) (fun w' x => Still.fieldAddr fld26_2 rfl) ?_
      refine Gq.st 4 rfl (by kernel_rfl) rfl .plain rfl (fun _ _ _ h => h) (World.grownBy.refl w73 _) (fun w' x => Still.loadB one24 rfl (hB33_w73.ext (Ext.of_grown x)) rfl) ?_
      refine Gq.st 5 rfl (by kernel_rfl) rfl .plain rfl (fun _ _ _ h => h) (World.grownBy.refl w73 _) (fun w' x => Still.move rfl) ?_
      obtain ⟨p76, hp77_w73⟩ := Bools.at (Own.row ha24_w73) (i := k55) (by omega) (by omega)
      have hp77o := AtO.of ha24_w73 hp77_w73
      refine Gq.st 6 rfl (by kernel_rfl) rfl .plain rfl (fun _ _ _ h => h) (World.grownBy.refl w73 _) (fun w' x => Still.at' sl24 hp77_w73 rfl rfl) ?_
      refine Gq.st 7 rfl (by kernel_rfl) rfl .plain rfl (fun _ _ _ h => h) (World.grownBy.refl w73 _) (fun w' x => Still.loadA one4 rfl (hp77_w73.ext (Ext.of_grown x)).1) ?_
      refine Gq.st 8 rfl (by kernel_rfl) rfl .plain rfl (fun _ _ _ h => h) (World.grownBy.refl w73 _) (fun w' x => Still.not rfl) ?_
      refine Gq.one 9 rfl (by kernel_rfl) ?_
      obtain ⟨p78, hp79o⟩ := Own.at ha24 (i := k55) (by omega) (by first | (simp only [List.length_map]; omega) | (simp; omega))
      refine Sq.atO sl24 hp79o .plain rfl rfl rfl ?_
      refine Sq.nil ?_
      refine Eq.goes (fun h => absurd h (by decide)) ?_
      refine Gq.one 10 rfl (by kernel_rfl) ?_
      refine Sq.storeO one4 ha24 hp79o .plain rfl rfl rfl (fun w80 g81 ho82 => ?_)
      have hs83 := World.grownBy.size g81
      replace hR := hR.owned ha24 g81 (by decide)
      replace G := grown_new G ha24 g81 (by omega)
      replace hB12 := hB12.owned ha24 g81 (by decide)
      replace hn23 := hn23.owned ha24 g81 (by decide) (by decide)
      replace hB33 := hB33.owned ha24 g81 (by decide)
      replace ha24 := ho82
      refine Sq.nil ?_
      refine Eq.goes (fun h => absurd h (by decide)) ?_
      refine Gq.done (by kernel_rfl) ?_
      refine Eq.end ?_
      refine Eq.next ?_
      refine Cq.seq ?_
      refine Cq.region ?_
      refine Sq.loadAgg agg26 .plain rfl rfl hB33 rfl ?_
      refine Sq.storeAgg agg26 .plain rfl rfl (one_cons rfl (one_cons (Rows.one (OwnRows.rows hn23)) (one_cons (Row.one (Own.row ha24)) one_nil))) hB12 rfl rfl (fun w84 g85 hB86 => ?_)
      have hs87 := World.grownBy.size g85
      replace hR := hR.grown g85 (by intro h; injection h with h; omega)
      replace G := grown_far G g85 (fun k hk => by injection hk with hk; subst hk; omega)
      replace hn23 := hn23.stored g85 hB12 (by decide) (by decide)
      replace ha24 := ha24.stored g85 hB12 (by decide)
      replace hB12 := hB86
      refine Sq.nil ?_
      refine Eq.next ?_
      refine Cq.ret ?_
      refine Eq.retCell rfl rfl agg26 hB12 rfl ?_
      exact ⟨⟨_, by omega, hR, G⟩, ⟨a.al, a.next, a.acc.set k55.toNat (!(a.acc.getD k55.toNat false))⟩, ⟨_, _, rfl, (OwnRows.rows hn23), (Own.row (Own.setB ha24))⟩, hsm.accs (by omega) (List.length_set ..)⟩
    refine Sq.nil ?_
    refine Eq.next ?_
    refine Cq.els rfl ?_
    refine Cq.skip ?_
    refine Eq.end ?_
    refine Eq.next ?_
    refine Cq.seq ?_
    refine Cq.region ?_
    refine Sq.loadAgg agg26 .plain rfl rfl hB33 rfl ?_
    refine Sq.storeAgg agg26 .plain rfl rfl (one_cons rfl (one_cons (Rows.one (OwnRows.rows hn23)) (one_cons (Row.one (Own.row ha24)) one_nil))) hB12 rfl rfl (fun w88 g89 hB90 => ?_)
    have hs91 := World.grownBy.size g89
    replace hR := hR.grown g89 (by intro h; injection h with h; omega)
    replace G := grown_far G g89 (fun k hk => by injection hk with hk; subst hk; omega)
    replace hn23 := hn23.stored g89 hB12 (by decide) (by decide)
    replace ha24 := ha24.stored g89 hB12 (by decide)
    replace hB12 := hB90
    refine Sq.nil ?_
    refine Eq.next ?_
    refine Cq.ret ?_
    refine Eq.retCell rfl rfl agg26 hB12 rfl ?_
    exact ⟨⟨_, by omega, hR, G⟩, a, ⟨_, _, rfl, (OwnRows.rows hn23), (Own.row ha24)⟩, hsm.mono (by omega)⟩
  refine Sq.assign .plain rfl rfl ?_
  refine Sq.nil ?_
  refine Eq.next ?_
  refine Cq.els rfl ?_
  refine Cq.seq ?_
  refine Cq.region ?_
  have hrowk := hsm.rowAt (k := k55.toNat)
  refine Sq.eql .plain rfl rfl rfl ?_
  refine Sq.part (fun c92 => ?_) (fun c92 => ?_)
  · refine Sq.assign .plain rfl rfl ?_
    refine Sq.nil ?_
    refine Eq.next ?_
    refine Cq.thn rfl ?_
    refine Cq.seq ?_
    refine Cq.region ?_
    refine Sq.fieldAddr fld26_1 .plain rfl rfl ?_
    refine Sq.loadB one23 .plain rfl rfl hB33 rfl ?_
    refine Sq.move .plain rfl rfl ?_
    refine Sq.idxRows sl23 one56 (OwnRows.rows hn23) .plain rfl rfl rfl .plain rfl rfl (by omega) (by omega) (fun r93 hr94 => ?_)
    refine Sq.lenInts hr94 .plain rfl und56 rfl ?_
    refine Sq.gtr .plain rfl rfl rfl ?_
    refine Sq.part (fun c95 => ?_) (fun c95 => ?_)
    · refine Sq.nil ?_
      refine Eq.next ?_
      refine Cq.thn rfl ?_
      obtain ⟨pA, rA, hpA, _⟩ := Rows.at (OwnRows.rows hn23) (i := k55) (by omega) (by omega)
      have hrA := (OwnRows.rowAt hn23 hpA).1
      obtain ⟨_, hoA, _, _⟩ := OwnRows.open hn23 (by decide)
      have hpAo := AtO.of hoA hpA
      refine Cq.drawS 16 (fun w' => Blk w' b30 26 [Value.int .i64 a.al, nx21, ac22] ∧ At w' 56 nx21 k55 pA rA) mixed (⟨hB33, hpA⟩) (fun w96 e97 hS => ?_)
      clear hS
      have hs98 := Below.size e97
      replace hR := hR.ext e97
      replace G := grown_trans G (Ext.to_grown e97 _)
      replace hB12 := hB12.ext e97
      replace hn23 := hn23.ext e97
      replace ha24 := ha24.ext e97
      replace hB33 := hB33.ext e97
      replace hpA := hpA.ext e97
      replace hrA := hrA.ext e97
      refine Gq.st 0 rfl (by kernel_rfl) rfl .plain rfl (fun _ _ _ h => h) ⟨hB33, hpA⟩ (fun w' x => Still.fieldAddr fld26_1 rfl) ?_
      refine Gq.st 1 rfl (by kernel_rfl) rfl .plain rfl (fun _ _ _ h => h) ⟨hB33, hpA⟩ (fun w' x => Still.loadB one23 rfl x.1 rfl) ?_
      refine Gq.st 2 rfl (by kernel_rfl) rfl .plain rfl (fun _ _ _ h => h) ⟨hB33, hpA⟩ (fun w' x => Still.move rfl) ?_
      refine Gq.st 3 rfl (by kernel_rfl) rfl .plain rfl (fun _ _ _ h => h) ⟨hB33, hpA⟩ (fun w' x => Still.at' sl23 hpA rfl rfl) ?_
      refine Gq.st 4 rfl (by kernel_rfl) rfl .plain rfl (fun _ _ _ h => h) ⟨hB33, hpA⟩ (fun w' x => Still.loadA one56 rfl (x.2).1) ?_
      refine Gq.st 5 rfl (by kernel_rfl) rfl .plain rfl (fun _ _ _ h => h) ⟨hB33, hpA⟩ (fun w' x => Still.move rfl) ?_
      refine Gq.st 6 rfl (by kernel_rfl) rfl .plain rfl (fun _ _ _ h => h) ⟨hB33, hpA⟩ (fun w' x => Still.fieldAddr fld26_1 rfl) ?_
      refine Gq.st 7 rfl (by kernel_rfl) rfl .plain rfl (fun _ _ _ h => h) ⟨hB33, hpA⟩ (fun w' x => Still.loadB one23 rfl x.1 rfl) ?_
      refine Gq.st 8 rfl (by kernel_rfl) rfl .plain rfl (fun _ _ _ h => h) ⟨hB33, hpA⟩ (fun w' x => Still.move rfl) ?_
      refine Gq.st 9 rfl (by kernel_rfl) rfl .plain rfl (fun _ _ _ h => h) ⟨hB33, hpA⟩ (fun w' x => Still.at' sl23 hpA rfl rfl) ?_
      refine Gq.st 10 rfl (by kernel_rfl) rfl .plain rfl (fun _ _ _ h => h) ⟨hB33, hpA⟩ (fun w' x => Still.loadA one56 rfl (x.2).1) ?_
      refine Gq.st 13 rfl (by kernel_rfl) rfl .plain rfl (fun _ _ _ h => h) ⟨hB33, hpA⟩ (fun w' x => Still.move rfl) ?_
      refine Gq.st 14 rfl (by kernel_rfl) rfl .plain rfl (fun _ _ _ h => h) ⟨hB33, hpA⟩ (fun w' x => Still.move rfl) ?_
      refine Gq.one 11 rfl (by kernel_rfl) ?_
      refine Sq.lenInts (Own.row hrA) .plain rfl und56 rfl ?_
      refine Sq.nil ?_
      refine Eq.goes (fun _ => ⟨hB33, hpA⟩) ?_
      refine Gq.one 12 rfl (by kernel_rfl) ?_
      refine Sq.call fn43 .plain rfl rfl (pick_c _ _ _ _ _ _ hR (hb.go G) hbl (by omega) ((List.length (a.next.getD k55.toNat []) : Int)) (by omega)) ?_
      rintro _ w100 ⟨⟨p101, hp104, hB103, g102⟩, ⟨k105, rfl, hk106⟩⟩
      have hs107 := World.grownBy.size g102
      have hs108 := World.grownBy.size G
      have hs109 := World.grownBy.size g102
      replace G := grown_trans G g102
      replace hB12 := hB12.grown g102 (by intro h; injection h with h; omega)
      replace hn23 := hn23.stored g102 hR (by decide) (by decide)
      replace ha24 := ha24.stored g102 hR (by decide)
      replace hB33 := hB33.grown g102 (by intro h; injection h with h; omega)
      replace hpA := hpA.stored g102 hR (by decide)
      replace hrA := hrA.stored g102 hR (by decide)
      replace hR := hB103
      refine Sq.nil ?_
      refine Eq.goes (fun _ => ⟨hB33, hpA⟩) ?_
      refine Gq.one 15 rfl (by kernel_rfl) ?_
      refine Sq.call fn43 .plain rfl rfl (pick_c _ _ _ _ _ _ hR (hb.go G) hbl (by omega) (List.length a.next : Int) (by omega)) ?_
      rintro _ w111 ⟨⟨p112, hp115, hB114, g113⟩, ⟨k116, rfl, hk117⟩⟩
      have hs118 := World.grownBy.size g113
      have hs119 := World.grownBy.size G
      have hs120 := World.grownBy.size g113
      replace G := grown_trans G g113
      replace hB12 := hB12.grown g113 (by intro h; injection h with h; omega)
      replace hn23 := hn23.stored g113 hR (by decide) (by decide)
      replace ha24 := ha24.stored g113 hR (by decide)
      replace hB33 := hB33.grown g113 (by intro h; injection h with h; omega)
      replace hpA := hpA.stored g113 hR (by decide)
      replace hrA := hrA.stored g113 hR (by decide)
      replace hR := hB114
      refine Sq.nil ?_
      refine Eq.goes (fun _ => ⟨hB33, hpA⟩) ?_
      refine Gq.one 16 rfl (by kernel_rfl) ?_
      obtain ⟨p121, hp122o⟩ := Own.at hrA (i := k105) (by omega) (by first | (simp only [List.length_map]; omega) | (simp; omega))
      refine Sq.atO sl56 hp122o .plain rfl rfl rfl ?_
      refine Sq.nil ?_
      refine Eq.goes (fun h => absurd h (by decide)) ?_
      refine Gq.one 17 rfl (by kernel_rfl) ?_
      refine Sq.storeO one3 hrA hp122o .plain rfl rfl rfl (fun w123 g124 ho125 => ?_)
      have hs126 := World.grownBy.size g124
      rw [← List.map_set] at ho125
      replace hn23 := (OwnRows.set hn23 (by decide) hpA ho125 g124).1
      replace hR := hR.owned hrA g124 (by decide)
      replace G := grown_new G hrA g124 (by omega)
      replace hB12 := hB12.owned hrA g124 (by decide)
      replace ha24 := ha24.owned hrA g124 (by decide)
      replace hB33 := hB33.owned hrA g124 (by decide)
      refine Sq.nil ?_
      refine Eq.goes (fun h => absurd h (by decide)) ?_
      refine Gq.done (by kernel_rfl) ?_
      refine Eq.end ?_
      refine Eq.next ?_
      refine Cq.seq ?_
      refine Cq.region ?_
      refine Sq.loadAgg agg26 .plain rfl rfl hB33 rfl ?_
      refine Sq.storeAgg agg26 .plain rfl rfl (one_cons rfl (one_cons (Rows.one (OwnRows.rows hn23)) (one_cons (Row.one (Own.row ha24)) one_nil))) hB12 rfl rfl (fun w127 g128 hB129 => ?_)
      have hs130 := World.grownBy.size g128
      replace hR := hR.grown g128 (by intro h; injection h with h; omega)
      replace G := grown_far G g128 (fun k hk => by injection hk with hk; subst hk; omega)
      replace hn23 := hn23.stored g128 hB12 (by decide) (by decide)
      replace ha24 := ha24.stored g128 hB12 (by decide)
      replace hB12 := hB129
      refine Sq.nil ?_
      refine Eq.next ?_
      refine Cq.ret ?_
      refine Eq.retCell rfl rfl agg26 hB12 rfl ?_
      exact ⟨⟨_, by omega, hR, G⟩, ⟨a.al, a.next.set k55.toNat ((a.next.getD k55.toNat []).set k105.toNat k116), a.acc⟩, ⟨_, _, rfl, (OwnRows.rows hn23), (Own.row ha24)⟩, hsm.row (by omega) (by rw [List.length_set]; have := hsm.rowAt (k := k55.toNat); omega)⟩
    refine Sq.nil ?_
    refine Eq.next ?_
    refine Cq.els rfl ?_
    refine Cq.skip ?_
    refine Eq.end ?_
    refine Eq.next ?_
    refine Cq.seq ?_
    refine Cq.region ?_
    refine Sq.loadAgg agg26 .plain rfl rfl hB33 rfl ?_
    refine Sq.storeAgg agg26 .plain rfl rfl (one_cons rfl (one_cons (Rows.one (OwnRows.rows hn23)) (one_cons (Row.one (Own.row ha24)) one_nil))) hB12 rfl rfl (fun w131 g132 hB133 => ?_)
    have hs134 := World.grownBy.size g132
    replace hR := hR.grown g132 (by intro h; injection h with h; omega)
    replace G := grown_far G g132 (fun k hk => by injection hk with hk; subst hk; omega)
    replace hn23 := hn23.stored g132 hB12 (by decide) (by decide)
    replace ha24 := ha24.stored g132 hB12 (by decide)
    replace hB12 := hB133
    refine Sq.nil ?_
    refine Eq.next ?_
    refine Cq.ret ?_
    refine Eq.retCell rfl rfl agg26 hB12 rfl ?_
    exact ⟨⟨_, by omega, hR, G⟩, a, ⟨_, _, rfl, (OwnRows.rows hn23), (Own.row ha24)⟩, hsm.mono (by omega)⟩
  refine Sq.assign .plain rfl rfl ?_
  refine Sq.nil ?_
  refine Eq.next ?_
  refine Cq.els rfl ?_
  refine Cq.seq ?_
  refine Cq.region ?_
  refine Sq.eql .plain rfl rfl rfl ?_
  refine Sq.part (fun c135 => ?_) (fun c135 => ?_)
  · refine Sq.assign .plain rfl rfl ?_
    refine Sq.nil ?_
    refine Eq.next ?_
    refine Cq.thn rfl ?_
    refine Cq.seq ?_
    refine Cq.region ?_
    refine Sq.move .plain rfl rfl ?_
    refine Sq.lss .plain rfl rfl rfl ?_
    refine Sq.part (fun c136 => ?_) (fun c136 => ?_)
    · refine Sq.move .plain rfl rfl ?_
      refine Sq.fieldAddr fld26_2 (.met rfl rfl rfl) rfl rfl ?_
      refine Sq.loadB one24 (.met rfl rfl rfl) rfl rfl hB33 rfl ?_
      refine Sq.lenBools (Own.row ha24) (.met rfl rfl rfl) rfl und24 rfl ?_
      refine Sq.move (.met rfl rfl rfl) rfl rfl ?_
      refine Sq.gtr (.met rfl rfl rfl) rfl rfl rfl ?_
      refine Sq.part (fun c137 => ?_) (fun c137 => ?_)
      · refine Sq.pickT .plain rfl rfl rfl ?_
        refine Sq.move .plain rfl rfl ?_
        refine Sq.fieldAddr fld26_1 (.met rfl rfl rfl) rfl rfl ?_
        refine Sq.loadB one23 (.met rfl rfl rfl) rfl rfl hB33 rfl ?_
        refine Sq.move (.met rfl rfl rfl) rfl rfl ?_
        refine Sq.idxRows sl23 one56 (OwnRows.rows hn23) (.met rfl rfl rfl) rfl rfl rfl (.met rfl rfl rfl) rfl rfl (by omega) (by omega) (fun r138 hr139 => ?_)
        refine Sq.lenInts hr139 (.met rfl rfl rfl) rfl und56 rfl ?_
        refine Sq.gtr (.met rfl rfl rfl) rfl rfl rfl ?_
        refine Sq.part (fun c140 => ?_) (fun c140 => ?_)
        · refine Sq.pickT .plain rfl rfl rfl ?_
          refine Sq.nil ?_
          refine Eq.next ?_
          refine Cq.thn rfl ?_
          refine Cq.seq ?_
          obtain ⟨pA, rA, hpA, _⟩ := Rows.at (OwnRows.rows hn23) (i := k55) (by omega) (by omega)
          have hrA := (OwnRows.rowAt hn23 hpA).1
          obtain ⟨_, hoA, _, _⟩ := OwnRows.open hn23 (by decide)
          have hpAo := AtO.of hoA hpA
          refine Cq.drawS 11 (fun w' => Blk w' b30 26 [Value.int .i64 a.al, nx21, ac22]) mixed (hB33) (fun w141 e142 hS => ?_)
          clear hS
          have hs143 := Below.size e142
          replace hR := hR.ext e142
          replace G := grown_trans G (Ext.to_grown e142 _)
          replace hB12 := hB12.ext e142
          replace hn23 := hn23.ext e142
          replace ha24 := ha24.ext e142
          replace hB33 := hB33.ext e142
          replace hpA := hpA.ext e142
          replace hrA := hrA.ext e142
          refine Gq.st 0 rfl (by kernel_rfl) rfl .plain rfl (fun _ _ _ h => h) hB33 (fun w' x => Still.fieldAddr fld26_1 rfl) ?_
          refine Gq.st 1 rfl (by kernel_rfl) rfl .plain rfl (fun _ _ _ h => h) hB33 (fun w' x => Still.loadB one23 rfl x rfl) ?_
          refine Gq.st 3 rfl (by kernel_rfl) rfl .plain rfl (fun _ _ _ h => h) hB33 (fun w' x => Still.fieldAddr fld26_1 rfl) ?_
          refine Gq.st 4 rfl (by kernel_rfl) rfl .plain rfl (fun _ _ _ h => h) hB33 (fun w' x => Still.loadB one23 rfl x rfl) ?_
          refine Gq.st 5 rfl (by kernel_rfl) rfl .plain rfl (fun _ _ _ h => h) hB33 (fun w' x => Still.move rfl) ?_
          refine Gq.st 6 rfl (by kernel_rfl) rfl .plain rfl (fun _ _ _ h => h) hB33 (fun w' x => Still.at' sl23 hpA rfl rfl) ?_
          refine Gq.two 2 7 rfl rfl (by kernel_rfl) ?_ ?_
          · refine Sq.lit sl56 rfl rfl .plain rfl rfl one_nil (fun b144 w145 e146 hlo147 ho148 _ => ?_)
            replace ho148 := ho148 w141.heap.size (Nat.le_refl _)
            have hs150 := Below.size e146
            replace hR := hR.ext e146
            replace G := grown_trans G (Ext.to_grown e146 _)
            replace hB12 := hB12.ext e146
            replace hn23 := hn23.ext e146
            replace ha24 := ha24.ext e146
            replace hB33 := hB33.ext e146
            replace hpA := hpA.ext e146
            replace hrA := hrA.ext e146
            refine Sq.nil ?_
            refine Eq.goes (fun _ => hB33) ?_
            refine Gq.one 7 rfl (by kernel_rfl) ?_
            refine Sq.val .plain rfl rfl (Still.loadA one56 rfl hpA.1) ?_
            refine Sq.nil ?_
            refine Eq.goes (fun _ => hB33) ?_
            refine Gq.one 8 rfl (by kernel_rfl) ?_
            refine Sq.app sl56 ho148 (by omega) (Own.row hrA) (one_ints _) (by rw [List.length_map]; simp only [List.length_nil, Nat.zero_add]; omega) .plain rfl rfl rfl rfl (fun v151 w152 ho154 g153 => ?_)
            have hs155 := g153.size
            replace hR := hR.owned ho148 g153 (by decide)
            replace G := grown_new G ho148 g153 (by omega)
            replace hB12 := hB12.owned ho148 g153 (by decide)
            replace hn23 := hn23.apart ho148 g153 (by omega) (by decide)
            replace ha24 := ha24.owned ho148 g153 (by decide)
            replace hB33 := hB33.owned ho148 g153 (by decide)
            simp only [List.nil_append] at ho154
            refine Sq.nil ?_
            refine Eq.goes (fun _ => hB33) ?_
            refine Gq.one 9 rfl (by kernel_rfl) ?_
            refine Sq.lit sl23 rfl rfl .plain rfl rfl (one_cons (Row.one (Own.row ho154)) one_nil) (fun b156 w157 e158 hlo159 ho160 _ => ?_)
            replace ho160 := ho160 w152.heap.size (Nat.le_refl _)
            have hs162 := Below.size e158
            replace hR := hR.ext e158
            replace G := grown_trans G (Ext.to_grown e158 _)
            replace hB12 := hB12.ext e158
            replace hn23 := hn23.ext e158
            replace ha24 := ha24.ext e158
            replace hB33 := hB33.ext e158
            replace ho154 := ho154.ext e158
            refine Sq.nil ?_
            refine Eq.goes (fun _ => hB33) ?_
            refine Gq.one 10 rfl (by kernel_rfl) ?_
            obtain ⟨rs167, q168, q169, q170⟩ := OwnRows.open hn23 (by decide)
            have q170x := Ext.refl w157
            refine Sq.app sl23 q168 (by omega) (Own.row ho160) (one_cons (Row.one (Own.row ho154)) one_nil) (by rw [q169]; first | omega | (simp; omega)) .plain rfl rfl rfl rfl (fun v163 w164 ho166 g165 => ?_)
            have hs171 := g165.size
            have ho166r := q170 _ (a.next.getD k55.toNat []) _ _ _ (Ext.refl _) (Own.mono ho154 (by omega)) (by omega) ho166 g165
            replace hR := hR.owned q168 g165 (by decide)
            replace G := grown_new G q168 g165 (by omega)
            replace hB12 := hB12.owned q168 g165 (by decide)
            replace ha24 := ha24.owned q168 g165 (by decide)
            replace hB33 := hB33.owned q168 g165 (by decide)
            refine Sq.nil ?_
            refine Eq.goes (fun _ => hB33) ?_
            refine Gq.one 11 rfl (by kernel_rfl) ?_
            refine Sq.fieldAddr fld26_1 .plain rfl rfl ?_
            refine Sq.nil ?_
            refine Eq.goes (fun h => absurd h (by decide)) ?_
            refine Gq.one 12 rfl (by kernel_rfl) ?_
            refine Sq.store one23 .plain rfl rfl (Rows.one (OwnRows.rows ho166r)) hB33 (by simp) (fun w172 g173 hB174 => ?_)
            have hs175 := World.grownBy.size g173
            replace hR := hR.grown g173 (by intro h; injection h with h; omega)
            replace G := grown_far G g173 (fun k hk => by injection hk with hk; subst hk; omega)
            replace hB12 := hB12.grown g173 (by intro h; injection h with h; omega)
            replace ha24 := ha24.stored g173 hB33 (by decide)
            replace ho166r := ho166r.stored g173 hB33 (by decide) (by decide)
            replace hB33 := hB174
            refine Sq.nil ?_
            refine Eq.goes (fun h => absurd h (by decide)) ?_
            refine Gq.done (by kernel_rfl) ?_
            refine Eq.next ?_
            refine Cq.seq ?_
            refine Cq.drawS 9 (fun w' => Blk w' b30 26 [Value.int .i64 a.al, v163, ac22]) mixed (hB33) (fun w176 e177 hS => ?_)
            clear hS
            have hs178 := Below.size e177
            replace hR := hR.ext e177
            replace G := grown_trans G (Ext.to_grown e177 _)
            replace hB12 := hB12.ext e177
            replace ha24 := ha24.ext e177
            replace hB33 := hB33.ext e177
            replace ho166r := ho166r.ext e177
            refine Gq.st 0 rfl (by kernel_rfl) rfl .plain rfl (fun _ _ _ h => h) hB33 (fun w' x => Still.fieldAddr fld26_2 rfl) ?_
            refine Gq.st 1 rfl (by kernel_rfl) rfl .plain rfl (fun _ _ _ h => h) hB33 (fun w' x => Still.loadB one24 rfl x rfl) ?_
            refine Gq.st 2 rfl (by kernel_rfl) rfl .plain rfl (fun _ _ _ h => h) hB33 (fun w' x => Still.fieldAddr fld26_2 rfl) ?_
            refine Gq.st 3 rfl (by kernel_rfl) rfl .plain rfl (fun _ _ _ h => h) hB33 (fun w' x => Still.loadB one24 rfl x rfl) ?_
            refine Gq.st 4 rfl (by kernel_rfl) rfl .plain rfl (fun _ _ _ h => h) hB33 (fun w' x => Still.move rfl) ?_
            refine Gq.one 5 rfl (by kernel_rfl) ?_
            obtain ⟨p179, hp180⟩ := Bools.at (Own.row ha24) (i := k55) (by omega) (by omega)
            refine Sq.val .plain rfl rfl (Still.at' sl24 hp180 rfl rfl) ?_
            refine Sq.nil ?_
            refine Eq.goes (fun _ => hB33) ?_
            refine Gq.one 6 rfl (by kernel_rfl) ?_
            refine Sq.val .plain rfl rfl (Still.loadA one4 rfl hp180.1) ?_
            refine Sq.nil ?_
            refine Eq.goes (fun _ => hB33) ?_
            refine Gq.one 7 rfl (by kernel_rfl) ?_
            refine Sq.lit sl24 rfl rfl .plain rfl rfl (one_cons rfl one_nil) (fun b181 w182 e183 hlo184 ho185 _ => ?_)
            replace ho185 := ho185 w176.heap.size (Nat.le_refl _)
            have hs187 := Below.size e183
            replace hR := hR.ext e183
            replace G := grown_trans G (Ext.to_grown e183 _)
            replace hB12 := hB12.ext e183
            replace ha24 := ha24.ext e183
            replace hB33 := hB33.ext e183
            replace ho166r := ho166r.ext e183
            refine Sq.nil ?_
            refine Eq.goes (fun _ => hB33) ?_
            refine Gq.one 8 rfl (by kernel_rfl) ?_
            refine Sq.app sl24 ha24 (by omega) (Own.row ho185) (one_cons rfl one_nil) (by first | omega | (simp; omega)) .plain rfl rfl rfl rfl (fun v188 w189 ho191 g190 => ?_)
            have hs192 := g190.size
            replace hR := hR.owned ha24 g190 (by decide)
            replace G := grown_new G ha24 g190 (by omega)
            replace hB12 := hB12.owned ha24 g190 (by decide)
            replace hB33 := hB33.owned ha24 g190 (by decide)
            replace ho166r := ho166r.owned ha24 g190 (by decide) (by decide)
            refine Sq.nil ?_
            refine Eq.goes (fun _ => hB33) ?_
            refine Gq.one 9 rfl (by kernel_rfl) ?_
            refine Sq.fieldAddr fld26_2 .plain rfl rfl ?_
            refine Sq.nil ?_
            refine Eq.goes (fun h => absurd h (by decide)) ?_
            refine Gq.one 10 rfl (by kernel_rfl) ?_
            refine Sq.store one24 .plain rfl rfl (Row.one (Own.row ho191)) hB33 (by simp) (fun w193 g194 hB195 => ?_)
            have hs196 := World.grownBy.size g194
            replace hR := hR.grown g194 (by intro h; injection h with h; omega)
            replace G := grown_far G g194 (fun k hk => by injection hk with hk; subst hk; omega)
            replace hB12 := hB12.grown g194 (by intro h; injection h with h; omega)
            replace ho166r := ho166r.stored g194 hB33 (by decide) (by decide)
            replace ho191 := ho191.stored g194 hB33 (by decide)
            replace hB33 := hB195
            refine Sq.nil ?_
            refine Eq.goes (fun h => absurd h (by decide)) ?_
            refine Gq.done (by kernel_rfl) ?_
            refine Eq.next ?_
            refine Cq.region ?_
            refine Sq.fieldAddr fld26_1 .plain rfl rfl ?_
            refine Sq.loadB one23 .plain rfl rfl hB33 rfl ?_
            refine Sq.move .plain rfl rfl ?_
            obtain ⟨p197, r199, hp198, _⟩ := Rows.at (OwnRows.rows ho166r) (i := k55) (by first | omega | (simp only [List.length_append, List.length_singleton]; omega)) (by first | omega | (simp only [List.length_append, List.length_singleton]; omega))
            have hr200 := (OwnRows.rowAt ho166r hp198).1
            refine Sq.val .plain rfl rfl (Still.at' sl23 hp198 rfl rfl) ?_
            refine Sq.val .plain rfl rfl (Still.loadA one56 rfl hp198.1) ?_
            refine Sq.move .plain rfl rfl ?_
            obtain ⟨p201, hp202o⟩ := Own.at hr200 (i := 0) (by first | omega | (rw [getD_app (by omega)]; omega)) (by first | (simp only [List.length_map]; first | omega | (rw [getD_app (by omega)]; omega)) | (simp; first | omega | (rw [getD_app (by omega)]; omega)))
            refine Sq.atO sl56 hp202o .plain rfl rfl rfl ?_
            refine Sq.storeO one3 hr200 hp202o .plain rfl rfl rfl (fun w203 g204 ho205 => ?_)
            have hs206 := World.grownBy.size g204
            rw [← List.map_set] at ho205
            replace ho166r := (OwnRows.set ho166r (by decide) hp198 ho205 g204).1
            replace hR := hR.owned hr200 g204 (by decide)
            replace G := grown_new G hr200 g204 (by omega)
            replace hB12 := hB12.owned hr200 g204 (by decide)
            replace hB33 := hB33.owned hr200 g204 (by decide)
            replace ho191 := ho191.owned hr200 g204 (by decide)
            refine Sq.nil ?_
            refine Eq.end ?_
            refine Eq.next ?_
            refine Cq.seq ?_
            refine Cq.region ?_
            refine Sq.loadAgg agg26 .plain rfl rfl hB33 rfl ?_
            refine Sq.storeAgg agg26 .plain rfl rfl (one_cons rfl (one_cons (Rows.one (OwnRows.rows ho166r)) (one_cons (Row.one (Own.row ho191)) one_nil))) hB12 rfl rfl (fun w207 g208 hB209 => ?_)
            have hs210 := World.grownBy.size g208
            replace hR := hR.grown g208 (by intro h; injection h with h; omega)
            replace G := grown_far G g208 (fun k hk => by injection hk with hk; subst hk; omega)
            replace ho166r := ho166r.stored g208 hB12 (by decide) (by decide)
            replace ho191 := ho191.stored g208 hB12 (by decide)
            replace hB12 := hB209
            refine Sq.nil ?_
            refine Eq.next ?_
            refine Cq.ret ?_
            refine Eq.retCell rfl rfl agg26 hB12 rfl ?_
            exact ⟨⟨_, by omega, hR, G⟩, ⟨a.al, _, a.acc ++ [a.acc.getD k55.toNat false]⟩, ⟨_, _, rfl, (OwnRows.rows ho166r), (Own.row (Own.snocB ho191))⟩, Small.row (a := ⟨a.al, a.next ++ [a.next.getD k55.toNat []], a.acc ++ [a.acc.getD k55.toNat false]⟩) (hsm.push2 (m := N + 10) (by omega) (by have := hsm.rowAt (k := k55.toNat); omega)) (by omega) (by rw [List.length_set, getD_app (by omega)]; have := hsm.rowAt (k := k55.toNat); omega)⟩
          refine Sq.val .plain rfl rfl (Still.loadA one56 rfl hpA.1) ?_
          refine Sq.nil ?_
          refine Eq.goes (fun _ => hB33) ?_
          refine Gq.one 2 rfl (by kernel_rfl) ?_
          refine Sq.lit sl56 rfl rfl .plain rfl rfl one_nil (fun b211 w212 e213 hlo214 ho215 _ => ?_)
          replace ho215 := ho215 w141.heap.size (Nat.le_refl _)
          have hs217 := Below.size e213
          replace hR := hR.ext e213
          replace G := grown_trans G (Ext.to_grown e213 _)
          replace hB12 := hB12.ext e213
          replace hn23 := hn23.ext e213
          replace ha24 := ha24.ext e213
          replace hB33 := hB33.ext e213
          replace hrA := hrA.ext e213
          refine Sq.nil ?_
          refine Eq.goes (fun _ => hB33) ?_
          refine Gq.one 8 rfl (by kernel_rfl) ?_
          refine Sq.app sl56 ho215 (by omega) (Own.row hrA) (one_ints _) (by rw [List.length_map]; simp only [List.length_nil, Nat.zero_add]; omega) .plain rfl rfl rfl rfl (fun v218 w219 ho221 g220 => ?_)
          have hs222 := g220.size
          replace hR := hR.owned ho215 g220 (by decide)
          replace G := grown_new G ho215 g220 (by omega)
          replace hB12 := hB12.owned ho215 g220 (by decide)
          replace hn23 := hn23.apart ho215 g220 (by omega) (by decide)
          replace ha24 := ha24.owned ho215 g220 (by decide)
          replace hB33 := hB33.owned ho215 g220 (by decide)
          simp only [List.nil_append] at ho221
          refine Sq.nil ?_
          refine Eq.goes (fun _ => hB33) ?_
          refine Gq.one 9 rfl (by kernel_rfl) ?_
          refine Sq.lit sl23 rfl rfl .plain rfl rfl (one_cons (Row.one (Own.row ho221)) one_nil) (fun b223 w224 e225 hlo226 ho227 _ => ?_)
          replace ho227 := ho227 w219.heap.size (Nat.le_refl _)
          have hs229 := Below.size e225
          replace hR := hR.ext e225
          replace G := grown_trans G (Ext.to_grown e225 _)
          replace hB12 := hB12.ext e225
          replace hn23 := hn23.ext e225
          replace ha24 := ha24.ext e225
          replace hB33 := hB33.ext e225
          replace ho221 := ho221.ext e225
          refine Sq.nil ?_
          refine Eq.goes (fun _ => hB33) ?_
          refine Gq.one 10 rfl (by kernel_rfl) ?_
          obtain ⟨rs234, q235, q236, q237⟩ := OwnRows.open hn23 (by decide)
          have q237x := Ext.refl w224
          refine Sq.app sl23 q235 (by omega) (Own.row ho227) (one_cons (Row.one (Own.row ho221)) one_nil) (by rw [q236]; first | omega | (simp; omega)) .plain rfl rfl rfl rfl (fun v230 w231 ho233 g232 => ?_)
          have hs238 := g232.size
          have ho233r := q237 _ (a.next.getD k55.toNat []) _ _ _ (Ext.refl _) (Own.mono ho221 (by omega)) (by omega) ho233 g232
          replace hR := hR.owned q235 g232 (by decide)
          replace G := grown_new G q235 g232 (by omega)
          replace hB12 := hB12.owned q235 g232 (by decide)
          replace ha24 := ha24.owned q235 g232 (by decide)
          replace hB33 := hB33.owned q235 g232 (by decide)
          refine Sq.nil ?_
          refine Eq.goes (fun _ => hB33) ?_
          refine Gq.one 11 rfl (by kernel_rfl) ?_
          refine Sq.fieldAddr fld26_1 .plain rfl rfl ?_
          refine Sq.nil ?_
          refine Eq.goes (fun h => absurd h (by decide)) ?_
          refine Gq.one 12 rfl (by kernel_rfl) ?_
          refine Sq.store one23 .plain rfl rfl (Rows.one (OwnRows.rows ho233r)) hB33 (by simp) (fun w239 g240 hB241 => ?_)
          have hs242 := World.grownBy.size g240
          replace hR := hR.grown g240 (by intro h; injection h with h; omega)
          replace G := grown_far G g240 (fun k hk => by injection hk with hk; subst hk; omega)
          replace hB12 := hB12.grown g240 (by intro h; injection h with h; omega)
          replace ha24 := ha24.stored g240 hB33 (by decide)
          replace ho233r := ho233r.stored g240 hB33 (by decide) (by decide)
          replace hB33 := hB241
          refine Sq.nil ?_
          refine Eq.goes (fun h => absurd h (by decide)) ?_
          refine Gq.done (by kernel_rfl) ?_
          refine Eq.next ?_
          refine Cq.seq ?_
          refine Cq.drawS 9 (fun w' => Blk w' b30 26 [Value.int .i64 a.al, v230, ac22]) mixed (hB33) (fun w243 e244 hS => ?_)
          clear hS
          have hs245 := Below.size e244
          replace hR := hR.ext e244
          replace G := grown_trans G (Ext.to_grown e244 _)
          replace hB12 := hB12.ext e244
          replace ha24 := ha24.ext e244
          replace hB33 := hB33.ext e244
          replace ho233r := ho233r.ext e244
          refine Gq.st 0 rfl (by kernel_rfl) rfl .plain rfl (fun _ _ _ h => h) hB33 (fun w' x => Still.fieldAddr fld26_2 rfl) ?_
          refine Gq.st 1 rfl (by kernel_rfl) rfl .plain rfl (fun _ _ _ h => h) hB33 (fun w' x => Still.loadB one24 rfl x rfl) ?_
          refine Gq.st 2 rfl (by kernel_rfl) rfl .plain rfl (fun _ _ _ h => h) hB33 (fun w' x => Still.fieldAddr fld26_2 rfl) ?_
          refine Gq.st 3 rfl (by kernel_rfl) rfl .plain rfl (fun _ _ _ h => h) hB33 (fun w' x => Still.loadB one24 rfl x rfl) ?_
          refine Gq.st 4 rfl (by kernel_rfl) rfl .plain rfl (fun _ _ _ h => h) hB33 (fun w' x => Still.move rfl) ?_
          refine Gq.one 5 rfl (by kernel_rfl) ?_
          obtain ⟨p246, hp247⟩ := Bools.at (Own.row ha24) (i := k55) (by omega) (by omega)
          refine Sq.val .plain rfl rfl (Still.at' sl24 hp247 rfl rfl) ?_
          refine Sq.nil ?_
          refine Eq.goes (fun _ => hB33) ?_
          refine Gq.one 6 rfl (by kernel_rfl) ?_
          refine Sq.val .plain rfl rfl (Still.loadA one4 rfl hp247.1) ?_
          refine Sq.nil ?_
          refine Eq.goes (fun _ => hB33) ?_
          refine Gq.one 7 rfl (by kernel_rfl) ?_
          refine Sq.lit sl24 rfl rfl .plain rfl rfl (one_cons rfl one_nil) (fun b248 w249 e250 hlo251 ho252 _ => ?_)
          replace ho252 := ho252 w243.heap.size (Nat.le_refl _)
          have hs254 := Below.size e250
          replace hR := hR.ext e250
          replace G := grown_trans G (Ext.to_grown e250 _)
          replace hB12 := hB12.ext e250
          replace ha24 := ha24.ext e250
          replace hB33 := hB33.ext e250
          replace ho233r := ho233r.ext e250
          refine Sq.nil ?_
          refine Eq.goes (fun _ => hB33) ?_
          refine Gq.one 8 rfl (by kernel_rfl) ?_
          refine Sq.app sl24 ha24 (by omega) (Own.row ho252) (one_cons rfl one_nil) (by first | omega | (simp; omega)) .plain rfl rfl rfl rfl (fun v255 w256 ho258 g257 => ?_)
          have hs259 := g257.size
          replace hR := hR.owned ha24 g257 (by decide)
          replace G := grown_new G ha24 g257 (by omega)
          replace hB12 := hB12.owned ha24 g257 (by decide)
          replace hB33 := hB33.owned ha24 g257 (by decide)
          replace ho233r := ho233r.owned ha24 g257 (by decide) (by decide)
          refine Sq.nil ?_
          refine Eq.goes (fun _ => hB33) ?_
          refine Gq.one 9 rfl (by kernel_rfl) ?_
          refine Sq.fieldAddr fld26_2 .plain rfl rfl ?_
          refine Sq.nil ?_
          refine Eq.goes (fun h => absurd h (by decide)) ?_
          refine Gq.one 10 rfl (by kernel_rfl) ?_
          refine Sq.store one24 .plain rfl rfl (Row.one (Own.row ho258)) hB33 (by simp) (fun w260 g261 hB262 => ?_)
          have hs263 := World.grownBy.size g261
          replace hR := hR.grown g261 (by intro h; injection h with h; omega)
          replace G := grown_far G g261 (fun k hk => by injection hk with hk; subst hk; omega)
          replace hB12 := hB12.grown g261 (by intro h; injection h with h; omega)
          replace ho233r := ho233r.stored g261 hB33 (by decide) (by decide)
          replace ho258 := ho258.stored g261 hB33 (by decide)
          replace hB33 := hB262
          refine Sq.nil ?_
          refine Eq.goes (fun h => absurd h (by decide)) ?_
          refine Gq.done (by kernel_rfl) ?_
          refine Eq.next ?_
          refine Cq.region ?_
          refine Sq.fieldAddr fld26_1 .plain rfl rfl ?_
          refine Sq.loadB one23 .plain rfl rfl hB33 rfl ?_
          refine Sq.move .plain rfl rfl ?_
          obtain ⟨p264, r266, hp265, _⟩ := Rows.at (OwnRows.rows ho233r) (i := k55) (by first | omega | (simp only [List.length_append, List.length_singleton]; omega)) (by first | omega | (simp only [List.length_append, List.length_singleton]; omega))
          have hr267 := (OwnRows.rowAt ho233r hp265).1
          refine Sq.val .plain rfl rfl (Still.at' sl23 hp265 rfl rfl) ?_
          refine Sq.val .plain rfl rfl (Still.loadA one56 rfl hp265.1) ?_
          refine Sq.move .plain rfl rfl ?_
          obtain ⟨p268, hp269o⟩ := Own.at hr267 (i := 0) (by first | omega | (rw [getD_app (by omega)]; omega)) (by first | (simp only [List.length_map]; first | omega | (rw [getD_app (by omega)]; omega)) | (simp; first | omega | (rw [getD_app (by omega)]; omega)))
          refine Sq.atO sl56 hp269o .plain rfl rfl rfl ?_
          refine Sq.storeO one3 hr267 hp269o .plain rfl rfl rfl (fun w270 g271 ho272 => ?_)
          have hs273 := World.grownBy.size g271
          rw [← List.map_set] at ho272
          replace ho233r := (OwnRows.set ho233r (by decide) hp265 ho272 g271).1
          replace hR := hR.owned hr267 g271 (by decide)
          replace G := grown_new G hr267 g271 (by omega)
          replace hB12 := hB12.owned hr267 g271 (by decide)
          replace hB33 := hB33.owned hr267 g271 (by decide)
          replace ho258 := ho258.owned hr267 g271 (by decide)
          refine Sq.nil ?_
          refine Eq.end ?_
          refine Eq.next ?_
          refine Cq.seq ?_
          refine Cq.region ?_
          refine Sq.loadAgg agg26 .plain rfl rfl hB33 rfl ?_
          refine Sq.storeAgg agg26 .plain rfl rfl (one_cons rfl (one_cons (Rows.one (OwnRows.rows ho233r)) (one_cons (Row.one (Own.row ho258)) one_nil))) hB12 rfl rfl (fun w274 g275 hB276 => ?_)
          have hs277 := World.grownBy.size g275
          replace hR := hR.grown g275 (by intro h; injection h with h; omega)
          replace G := grown_far G g275 (fun k hk => by injection hk with hk; subst hk; omega)
          replace ho233r := ho233r.stored g275 hB12 (by decide) (by decide)
          replace ho258 := ho258.stored g275 hB12 (by decide)
          replace hB12 := hB276
          refine Sq.nil ?_
          refine Eq.next ?_
          refine Cq.ret ?_
          refine Eq.retCell rfl rfl agg26 hB12 rfl ?_
          exact ⟨⟨_, by omega, hR, G⟩, ⟨a.al, _, a.acc ++ [a.acc.getD k55.toNat false]⟩, ⟨_, _, rfl, (OwnRows.rows ho233r), (Own.row (Own.snocB ho258))⟩, Small.row (a := ⟨a.al, a.next ++ [a.next.getD k55.toNat []], a.acc ++ [a.acc.getD k55.toNat false]⟩) (hsm.push2 (m := N + 10) (by omega) (by have := hsm.rowAt (k := k55.toNat); omega)) (by omega) (by rw [List.length_set, getD_app (by omega)]; have := hsm.rowAt (k := k55.toNat); omega)⟩
        refine Sq.pickT .plain rfl rfl rfl ?_
        refine Sq.nil ?_
        refine Eq.next ?_
        refine Cq.els rfl ?_
        refine Cq.skip ?_
        refine Eq.end ?_
        refine Eq.next ?_
        refine Cq.seq ?_
        refine Cq.region ?_
        refine Sq.loadAgg agg26 .plain rfl rfl hB33 rfl ?_
        refine Sq.storeAgg agg26 .plain rfl rfl (one_cons rfl (one_cons (Rows.one (OwnRows.rows hn23)) (one_cons (Row.one (Own.row ha24)) one_nil))) hB12 rfl rfl (fun w278 g279 hB280 => ?_)
        have hs281 := World.grownBy.size g279
        replace hR := hR.grown g279 (by intro h; injection h with h; omega)
        replace G := grown_far G g279 (fun k hk => by injection hk with hk; subst hk; omega)
        replace hn23 := hn23.stored g279 hB12 (by decide) (by decide)
        replace ha24 := ha24.stored g279 hB12 (by decide)
        replace hB12 := hB280
        refine Sq.nil ?_
        refine Eq.next ?_
        refine Cq.ret ?_
        refine Eq.retCell rfl rfl agg26 hB12 rfl ?_
        exact ⟨⟨_, by omega, hR, G⟩, a, ⟨_, _, rfl, (OwnRows.rows hn23), (Own.row ha24)⟩, hsm.mono (by omega)⟩
      refine Sq.pickT .plain rfl rfl rfl ?_
      refine Sq.move .plain rfl rfl ?_
      refine Sq.off rfl rfl rfl rfl rfl rfl ?_
      refine Sq.off rfl rfl rfl rfl rfl rfl ?_
      refine Sq.off rfl rfl rfl rfl rfl rfl ?_
      refine Sq.off rfl rfl rfl rfl rfl rfl ?_
      refine Sq.off rfl rfl rfl rfl rfl rfl ?_
      refine Sq.off rfl rfl rfl rfl rfl rfl ?_
      refine Sq.off rfl rfl rfl rfl rfl rfl ?_
      refine Sq.pickF .plain rfl rfl rfl ?_
      refine Sq.nil ?_
      refine Eq.next ?_
      refine Cq.els rfl ?_
      refine Cq.skip ?_
      refine Eq.end ?_
      refine Eq.next ?_
      refine Cq.seq ?_
      refine Cq.region ?_
      refine Sq.loadAgg agg26 .plain rfl rfl hB33 rfl ?_
      refine Sq.storeAgg agg26 .plain rfl rfl (one_cons rfl (one_cons (Rows.one (OwnRows.rows hn23)) (one_cons (Row.one (Own.row ha24)) one_nil))) hB12 rfl rfl (fun w282 g283 hB284 => ?_)
      have hs285 := World.grownBy.size g283
      replace hR := hR.grown g283 (by intro h; injection h with h; omega)
      replace G := grown_far G g283 (fun k hk => by injection hk with hk; subst hk; omega)
      replace hn23 := hn23.stored g283 hB12 (by decide) (by decide)
      replace ha24 := ha24.stored g283 hB12 (by decide)
      replace hB12 := hB284
      refine Sq.nil ?_
      refine Eq.next ?_
      refine Cq.ret ?_
      refine Eq.retCell rfl rfl agg26 hB12 rfl ?_
      exact ⟨⟨_, by omega, hR, G⟩, a, ⟨_, _, rfl, (OwnRows.rows hn23), (Own.row ha24)⟩, hsm.mono (by omega)⟩
    refine Sq.move .plain rfl rfl ?_
    refine Sq.off rfl rfl rfl rfl rfl rfl ?_
    refine Sq.off rfl rfl rfl rfl rfl rfl ?_
    refine Sq.off rfl rfl rfl rfl rfl rfl ?_
    refine Sq.off rfl rfl rfl rfl rfl rfl ?_
    refine Sq.off rfl rfl rfl rfl rfl rfl ?_
    refine Sq.pickF .plain rfl rfl rfl ?_
    refine Sq.move .plain rfl rfl ?_
    refine Sq.off rfl rfl rfl rfl rfl rfl ?_
    refine Sq.off rfl rfl rfl rfl rfl rfl ?_
    refine Sq.off rfl rfl rfl rfl rfl rfl ?_
    refine Sq.off rfl rfl rfl rfl rfl rfl ?_
    refine Sq.off rfl rfl rfl rfl rfl rfl ?_
    refine Sq.off rfl rfl rfl rfl rfl rfl ?_
    refine Sq.off rfl rfl rfl rfl rfl rfl ?_
    refine Sq.pickF .plain rfl rfl rfl ?_
    refine Sq.nil ?_
    refine Eq.next ?_
    refine Cq.els rfl ?_
    refine Cq.skip ?_
    refine Eq.end ?_
    refine Eq.next ?_
    refine Cq.seq ?_
    refine Cq.region ?_
    refine Sq.loadAgg agg26 .plain rfl rfl hB33 rfl ?_
    refine Sq.storeAgg agg26 .plain rfl rfl (one_cons rfl (one_cons (Rows.one (OwnRows.rows hn23)) (one_cons (Row.one (Own.row ha24)) one_nil))) hB12 rfl rfl (fun w286 g287 hB288 => ?_)
    have hs289 := World.grownBy.size g287
    replace hR := hR.grown g287 (by intro h; injection h with h; omega)
    replace G := grown_far G g287 (fun k hk => by injection hk with hk; subst hk; omega)
    replace hn23 := hn23.stored g287 hB12 (by decide) (by decide)
    replace ha24 := ha24.stored g287 hB12 (by decide)
    replace hB12 := hB288
    refine Sq.nil ?_
    refine Eq.next ?_
    refine Cq.ret ?_
    refine Eq.retCell rfl rfl agg26 hB12 rfl ?_
    exact ⟨⟨_, by omega, hR, G⟩, a, ⟨_, _, rfl, (OwnRows.rows hn23), (Own.row ha24)⟩, hsm.mono (by omega)⟩
  refine Sq.assign .plain rfl rfl ?_
  refine Sq.nil ?_
  refine Eq.next ?_
  refine Cq.els rfl ?_
  refine Cq.skip ?_
  refine Eq.end ?_
  refine Eq.next ?_
  refine Cq.seq ?_
  refine Cq.region ?_
  refine Sq.loadAgg agg26 .plain rfl rfl hB33 rfl ?_
  refine Sq.storeAgg agg26 .plain rfl rfl (one_cons rfl (one_cons (Rows.one (OwnRows.rows hn23)) (one_cons (Row.one (Own.row ha24)) one_nil))) hB12 rfl rfl (fun w290 g291 hB292 => ?_)
  have hs293 := World.grownBy.size g291
  replace hR := hR.grown g291 (by intro h; injection h with h; omega)
  replace G := grown_far G g291 (fun k hk => by injection hk with hk; subst hk; omega)
  replace hn23 := hn23.stored g291 hB12 (by decide) (by decide)
  replace ha24 := ha24.stored g291 hB12 (by decide)
  replace hB12 := hB292
  refine Sq.nil ?_
  refine Eq.next ?_
  refine Cq.ret ?_
  refine Eq.retCell rfl rfl agg26 hB12 rfl ?_
  exact ⟨⟨_, by omega, hR, G⟩, a, ⟨_, _, rfl, (OwnRows.rows hn23), (Own.row ha24)⟩, hsm.mono (by omega)⟩
end Go.Proofs.Ytdejmfkpohgamaa
set_option linter.unusedSimpArgs false
set_option linter.unusedVariables false
namespace Go.Proofs.Ytdejmfkpohgamaa
def lexLt : List Int → List Int → Prop
  | [], [] => False
  | [], _ :: _ => True
  | _ :: _, [] => False
  | x :: v, y :: w => x < y ∨ (x = y ∧ lexLt v w)
def sl (v w : List Int) : Prop := v.length < w.length ∨ (v.length = w.length ∧ lexLt v w)
def sle (v w : List Int) : Prop := v = w ∨ sl v w
theorem lexLt_irrefl : ∀ v, ¬ lexLt v v
  | [] => id
  | x :: v => fun h => by
    rcases h with h | ⟨_, h⟩
    · omega
    · exact lexLt_irrefl v h
theorem lexLt_trans : ∀ {u v w : List Int}, lexLt u v → lexLt v w → lexLt u w
  | [], [], _, h, _ => h.elim
  | [], _ :: _, [], _, h => h.elim
  | [], _ :: _, _ :: _, _, _ => trivial
  | _ :: _, [], _, h, _ => h.elim
  | _ :: _, _ :: _, [], _, h => h.elim
  | x :: u, y :: v, z :: w, h, h' => by
    rcases h with h | ⟨rfl, h⟩
    · rcases h' with h' | ⟨rfl, h'⟩
      · exact .inl (by omega)
      · exact .inl h
    · rcases h' with h' | ⟨rfl, h'⟩
      · exact .inl h'
      · exact .inr ⟨rfl, lexLt_trans h h'⟩
theorem lexLt_snoc : ∀ {v w : List Int} (x y : Int), v.length = w.length → lexLt v w → lexLt (v ++ [x]) (w ++ [y])
  | [], [], _, _, _, h => h.elim
  | [], _ :: _, _, _, h, _ => by simp at h
  | _ :: _, [], _, _, h, _ => by simp at h
  | a :: v, b :: w, x, y, h, h' => by
    rcases h' with h' | ⟨rfl, h'⟩
    · exact .inl h'
    · exact .inr ⟨rfl, lexLt_snoc x y (by simpa using h) h'⟩
theorem lexLt_last : ∀ (v : List Int) {x y : Int}, x < y → lexLt (v ++ [x]) (v ++ [y])
  | [], _, _, h => .inl h
  | a :: v, _, _, h => .inr ⟨rfl, lexLt_last v h⟩
theorem sl_irrefl (v : List Int) : ¬ sl v v := fun h => h.elim (by omega) (fun h => lexLt_irrefl v h.2)
theorem sl_trans {u v w : List Int} (h : sl u v) (h' : sl v w) : sl u w := by
  rcases h with h | ⟨h1, h2⟩ <;> rcases h' with h' | ⟨h3, h4⟩
  · exact .inl (by omega)
  · exact .inl (by omega)
  · exact .inl (by omega)
  · exact .inr ⟨by omega, lexLt_trans h2 h4⟩
theorem sl_snoc {v w : List Int} (x y : Int) (h : sl v w) : sl (v ++ [x]) (w ++ [y]) := by
  rcases h with h | ⟨h1, h2⟩
  · exact .inl (by simpa using h)
  · exact .inr ⟨by simpa using h1, lexLt_snoc x y h1 h2⟩
theorem sl_last (v : List Int) {x y : Int} (h : x < y) : sl (v ++ [x]) (v ++ [y]) := .inr ⟨by simp, lexLt_last v h⟩
theorem sl_nil (v : List Int) (x : Int) : sl [] (v ++ [x]) := .inl (by simp)
theorem sle_trans {u v w : List Int} (h : sle u v) (h' : sle v w) : sle u w := by
  rcases h with rfl | h
  · exact h'
  · rcases h' with rfl | h'
    · exact .inr h
    · exact .inr (sl_trans h h')
theorem sle_antisymm {v w : List Int} (h : sle v w) (h' : sle w v) : v = w := by
  rcases h with h | h
  · exact h
  · rcases h' with h' | h'
    · exact h'.symm
    · exact absurd (sl_trans h h') (sl_irrefl v)
theorem sle_snoc {v w : List Int} (x : Int) (h : sle v w) : sle (v ++ [x]) (w ++ [x]) := by
  rcases h with rfl | h
  · exact .inl rfl
  · exact .inr (sl_snoc x x h)
def nodeOf {α : Type} (f : α → Int → α) (s : α) (w : List Int) : α := w.foldl f s
theorem nodeOf_snoc {α : Type} (f : α → Int → α) (s : α) (w : List Int) (x : Int) : nodeOf f s (w ++ [x]) = f (nodeOf f s w) x := by
  unfold nodeOf
  rw [List.foldl_append]
  rfl
section
variable {α : Type} [DecidableEq α]
def wadd (f : α → Int → α) (s : α) (ws : List (List Int)) (v : List Int) : List (List Int) := if nodeOf f s v ∈ ws.map (nodeOf f s) then ws else ws ++ [v]
def wround (f : α → Int → α) (s : α) (w : List Int) (ws : List (List Int)) (Ls : List Int) : List (List Int) := Ls.foldl (fun ws l => wadd f s ws (w ++ [l])) ws
def bfsw (f : α → Int → α) (s : α) (L : List Int) : Nat → List (List Int)
  | 0 => [[]]
  | i + 1 => match (bfsw f s L i)[i]? with
    | some w => wround f s w (bfsw f s L i) L
    | none => bfsw f s L i
variable {f : α → Int → α} {s : α} {L : List Int}
theorem wadd_map (ws : List (List Int)) (v : List Int) : (wadd f s ws v).map (nodeOf f s) = addNode (ws.map (nodeOf f s)) (nodeOf f s v) := by
  unfold wadd addNode
  split
  · rfl
  · rw [List.map_append]; rfl
theorem wround_map (w : List Int) : ∀ (Ls : List Int) (ws : List (List Int)), (wround f s w ws Ls).map (nodeOf f s) = addAll (ws.map (nodeOf f s)) (Ls.map (f (nodeOf f s w)))
  | [], ws => rfl
  | l :: Ls, ws => by
    show (wround f s w (wadd f s ws (w ++ [l])) Ls).map (nodeOf f s) = _
    rw [wround_map w Ls, wadd_map, nodeOf_snoc]
    rfl
theorem bfsw_map (i : Nat) : (bfsw f s L i).map (nodeOf f s) = bfs f s L i := by
  induction i with
  | zero => rfl
  | succ i ih =>
    rw [bfsw, bfs, ← ih, List.getElem?_map]
    cases hq : (bfsw f s L i)[i]? with
    | none => rfl
    | some w => exact wround_map w L _
theorem bfsw_length (i : Nat) : (bfsw f s L i).length = (bfs f s L i).length := by rw [← bfsw_map, List.length_map]
theorem wadd_prefix (ws : List (List Int)) (v : List Int) : ws <+: wadd f s ws v := by
  unfold wadd
  split
  · exact List.prefix_refl _
  · exact List.prefix_append _ _
theorem wadd_mem {ws : List (List Int)} {u v : List Int} (h : v ∈ wadd f s ws u) : v ∈ ws ∨ v = u := by
  unfold wadd at h
  split at h
  · exact .inl h
  · rcases List.mem_append.1 h with h | h
    · exact .inl h
    · exact .inr (List.mem_singleton.1 h)
theorem wadd_self {ws : List (List Int)} {u : List Int} (h : nodeOf f s u ∉ ws.map (nodeOf f s)) : u ∈ wadd f s ws u := by
  unfold wadd
  rw [if_neg h]
  simp
theorem wadd_sorted {ws : List (List Int)} {u : List Int} (h : ws.Pairwise sl) (hb : ∀ v ∈ ws, sl v u) : (wadd f s ws u).Pairwise sl := by
  unfold wadd
  split
  · exact h
  · refine List.pairwise_append.2 ⟨h, by simp, fun v hv u' hu => ?_⟩
    rw [List.mem_singleton.1 hu]
    exact hb v hv
theorem wround_prefix (w : List Int) : ∀ (Ls : List Int) (ws : List (List Int)), ws <+: wround f s w ws Ls
  | [], ws => List.prefix_refl _
  | l :: Ls, ws => (wadd_prefix ws (w ++ [l])).trans (wround_prefix w Ls _)
theorem bfsw_prefix1 (i : Nat) : bfsw f s L i <+: bfsw f s L (i + 1) := by
  rw [bfsw]
  split
  · exact wround_prefix _ _ _
  · exact List.prefix_refl _
theorem wround_mem (w : List Int) : ∀ (Ls : List Int) (ws : List (List Int)) {v : List Int}, v ∈ wround f s w ws Ls → v ∈ ws ∨ ∃ l ∈ Ls, v = w ++ [l]
  | [], ws, v, h => .inl h
  | l :: Ls, ws, v, h => by
    rcases wround_mem w Ls (wadd f s ws (w ++ [l])) h with h1 | ⟨l', h1, h2⟩
    · rcases wadd_mem h1 with h1 | h1
      · exact .inl h1
      · exact .inr ⟨l, by simp, h1⟩
    · exact .inr ⟨l', by simp [h1], h2⟩
theorem wround_sorted (w : List Int) : ∀ (Ls : List Int) (ws : List (List Int)), Ls.Pairwise (· < ·) → ws.Pairwise sl → (∀ v ∈ ws, ∀ l ∈ Ls, sl v (w ++ [l])) → (wround f s w ws Ls).Pairwise sl
  | [], ws, _, h, _ => h
  | l :: Ls, ws, hL, h, hb => by
    obtain ⟨h1, h2⟩ := List.pairwise_cons.1 hL
    refine wround_sorted w Ls (wadd f s ws (w ++ [l])) h2 (wadd_sorted h fun v hv => hb v hv l (by simp)) ?_
    intro v hv l' hl'
    rcases wadd_mem hv with hv | rfl
    · exact hb v hv l' (by simp [hl'])
    · exact sl_last w (h1 l' hl')
theorem wround_cover (w : List Int) : ∀ (Ls : List Int) (ws : List (List Int)), Ls.Pairwise (· < ·) → (∀ v ∈ ws, ∀ l ∈ Ls, sl v (w ++ [l])) → ∀ l ∈ Ls, ∃ v ∈ wround f s w ws Ls, nodeOf f s v = nodeOf f s (w ++ [l]) ∧ sle v (w ++ [l])
  | [], ws, _, _, l, hl => by cases hl
  | l0 :: Ls, ws, hL, hb, l, hl => by
    obtain ⟨h1, h2⟩ := List.pairwise_cons.1 hL
    have hb' : ∀ v ∈ wadd f s ws (w ++ [l0]), ∀ l ∈ Ls, sl v (w ++ [l]) := by
      intro v hv l' hl'
      rcases wadd_mem hv with hv | rfl
      · exact hb v hv l' (by simp [hl'])
      · exact sl_last w (h1 l' hl')
    rcases List.mem_cons.1 hl with rfl | hl
    · by_cases hin : nodeOf f s (w ++ [l]) ∈ ws.map (nodeOf f s)
      · obtain ⟨v, hv, e⟩ := List.mem_map.1 hin
        exact ⟨v, (wround_prefix w (l :: Ls) ws).subset hv, e, .inr (hb v hv l (by simp))⟩
      · exact ⟨w ++ [l], (wround_prefix w Ls (wadd f s ws (w ++ [l]))).subset (wadd_self hin), rfl, .inl rfl⟩
    · exact wround_cover w Ls (wadd f s ws (w ++ [l0])) h2 hb' l hl
theorem bfsw_inv (hL : L.Pairwise (· < ·)) (i : Nat) : (bfsw f s L i).Pairwise sl ∧ (∀ w, (bfsw f s L i)[i]? = some w → ∀ v ∈ bfsw f s L i, ∀ x, sl v (w ++ [x])) ∧
    (∀ j w, j < i → (bfsw f s L i)[j]? = some w → ∀ l ∈ L, ∃ v ∈ bfsw f s L i, nodeOf f s v = nodeOf f s (w ++ [l]) ∧ sle v (w ++ [l])) ∧ ∀ v ∈ bfsw f s L i, (∀ x ∈ v, x ∈ L) ∧ (v = [] ∨ ∃ u ∈ bfsw f s L i, ∃ l ∈ L, v = u ++ [l]) := by
  induction i with
  | zero =>
    refine ⟨by simp [bfsw], fun w hw v hv x => ?_, fun j w hj => by omega, fun v hv => ?_⟩
    · simp only [bfsw, List.mem_singleton] at hv
      subst hv
      exact sl_nil w x
    · simp only [bfsw, List.mem_singleton] at hv
      subst hv
      exact ⟨by simp, .inl rfl⟩
  | succ i ih =>
    obtain ⟨h1, h2, h3, h4⟩ := ih
    have hp := bfsw_prefix1 (f := f) (s := s) (L := L) i
    cases hq : (bfsw f s L i)[i]? with
    | none =>
      have e : bfsw f s L (i + 1) = bfsw f s L i := by rw [bfsw, hq]
      have hl : (bfsw f s L i).length ≤ i := by
        rcases Nat.lt_or_ge i (bfsw f s L i).length with h | h
        · rw [List.getElem?_eq_getElem h] at hq; cases hq
        · exact h
      rw [e]
      refine ⟨h1, fun w hw => ?_, fun j w hj hw => ?_, h4⟩
      · rw [List.getElem?_eq_none (by omega)] at hw; cases hw
      · rcases Nat.lt_or_ge j i with h | h
        · exact h3 j w h hw
        · rw [List.getElem?_eq_none (by omega)] at hw; cases hw
    | some w =>
      have e : bfsw f s L (i + 1) = wround f s w (bfsw f s L i) L := by rw [bfsw, hq]
      have hb := h2 w hq
      have hi := (List.getElem?_eq_some_iff.1 hq).1
      have hs : (bfsw f s L (i + 1)).Pairwise sl := by rw [e]; exact wround_sorted w L _ hL h1 (fun v hv l _ => hb v hv l)
      have hat : ∀ j, j < (bfsw f s L i).length → (bfsw f s L (i + 1))[j]? = (bfsw f s L i)[j]? := by
        intro j hj
        obtain ⟨t, ht⟩ := hp
        rw [← ht, List.getElem?_append_left hj]
      have hwi : (bfsw f s L (i + 1))[i]? = some w := by rw [hat i hi, hq]
      have hmem : ∀ v ∈ bfsw f s L (i + 1), v ∈ bfsw f s L i ∨ ∃ l ∈ L, v = w ++ [l] := fun v hv => by rw [e] at hv; exact wround_mem w L _ hv
      refine ⟨hs, fun w' hw' v hv x => ?_, fun j u hj hu l hl => ?_, fun v hv => ?_⟩
      · have hlt : sl w w' := by
          obtain ⟨g1, g2⟩ := List.getElem?_eq_some_iff.1 hwi
          obtain ⟨g3, g4⟩ := List.getElem?_eq_some_iff.1 hw'
          rw [← g2, ← g4]
          exact List.pairwise_iff_getElem.1 hs i (i + 1) g1 g3 (by omega)
        rcases hmem v hv with h | ⟨l, hl, rfl⟩
        · exact sl_trans (hb v h x) (sl_snoc x x hlt)
        · exact sl_snoc l x hlt
      · rcases Nat.lt_or_ge j i with h | h
        · rw [hat j (by omega)] at hu
          obtain ⟨v, g1, g2, g3⟩ := h3 j u h hu l hl
          exact ⟨v, hp.subset g1, g2, g3⟩
        · obtain rfl : j = i := by omega
          rw [hwi] at hu
          obtain rfl := Option.some.inj hu
          obtain ⟨v, g1, g2, g3⟩ := wround_cover (f := f) (s := s) w L _ hL (fun v hv l _ => hb v hv l) l hl
          exact ⟨v, by rw [e]; exact g1, g2, g3⟩
      · rcases hmem v hv with h | ⟨l, hl, rfl⟩
        · refine ⟨(h4 v h).1, ?_⟩
          rcases (h4 v h).2 with h5 | ⟨u, h5, l, h6, h7⟩
          · exact .inl h5
          · exact .inr ⟨u, hp.subset h5, l, h6, h7⟩
        · have hw := List.mem_of_getElem? hq
          refine ⟨fun x hx => ?_, .inr ⟨w, hp.subset hw, l, hl, rfl⟩⟩
          rcases List.mem_append.1 hx with h | h
          · exact (h4 w hw).1 x h
          · rw [List.mem_singleton.1 h]; exact hl
def ordw (f : α → Int → α) (s : α) (L : List Int) : List (List Int) := bfsw f s L (many 0)
theorem ordw_length : (ordw f s L).length = (ord f s L).length := bfsw_length _
theorem ordw_sorted (hL : L.Pairwise (· < ·)) : (ordw f s L).Pairwise sl := (bfsw_inv hL _).1
theorem ordw_over (hL : L.Pairwise (· < ·)) {v : List Int} (hv : v ∈ ordw f s L) : ∀ x ∈ v, x ∈ L := ((bfsw_inv hL _).2.2.2 v hv).1
theorem ordw_nil : [] ∈ ordw f s L := by
  have : ∀ i, [] ∈ bfsw f s L i := by
    intro i
    induction i with
    | zero => simp [bfsw]
    | succ i ih => exact (bfsw_prefix1 i).subset ih
  exact this _
theorem ordw_cover (hL : L.Pairwise (· < ·)) (hlen : (ord f s L).length ≤ 200) : ∀ (n : Nat) (v : List Int), v.length = n → (∀ x ∈ v, x ∈ L) → ∃ w ∈ ordw f s L, nodeOf f s w = nodeOf f s v ∧ sle w v := by
  intro n
  induction n with
  | zero =>
    intro v hv _
    obtain rfl := List.eq_nil_of_length_eq_zero hv
    exact ⟨[], ordw_nil, rfl, .inl rfl⟩
  | succ n ih =>
    intro v hv hx
    rcases List.eq_nil_or_concat v with rfl | ⟨u, l, rfl⟩
    · simp at hv
    · rw [List.concat_eq_append] at hv hx ⊢
      obtain ⟨w, h1, h2, h3⟩ := ih u (by simpa using hv) (fun x h => hx x (by simp [h]))
      obtain ⟨j, hj, hw⟩ := List.mem_iff_getElem.1 h1
      have hj2 : j < many 0 := by
        have := ordw_length (f := f) (s := s) (L := L)
        rw [many_eq]
        omega
      obtain ⟨w', g1, g2, g3⟩ := (bfsw_inv (f := f) (s := s) hL (many 0)).2.2.1 j w hj2 (by rw [← hw]; exact List.getElem?_eq_getElem hj) l (hx l (by simp))
      refine ⟨w', g1, ?_, sle_trans g3 (sle_snoc l h3)⟩
      rw [g2, nodeOf_snoc, nodeOf_snoc, h2]
def firstOf (f : α → Int → α) (s : α) (L : List Int) (G : α → Bool) : Option (List Int) := (ordw f s L).find? fun w => G (nodeOf f s w)
theorem first_some (hL : L.Pairwise (· < ·)) (hlen : (ord f s L).length ≤ 200) {G : α → Bool} {w : List Int} (h : firstOf f s L G = some w) : w ∈ ordw f s L ∧ G (nodeOf f s w) = true ∧ ∀ v : List Int, (∀ x ∈ v, x ∈ L) → G (nodeOf f s v) = true → sle w v := by
  obtain ⟨hg, aas, bs, e, has⟩ := List.find?_eq_some_iff_append.1 h
  refine ⟨List.mem_of_find?_eq_some h, hg, fun v hv hgv => ?_⟩
  obtain ⟨w', h1, h2, h3⟩ := ordw_cover hL hlen _ v rfl hv
  refine sle_trans ?_ h3
  rw [e] at h1
  rcases List.mem_append.1 h1 with h1 | h1
  · have := has w' h1
    rw [h2, hgv] at this
    simp at this
  · rcases List.mem_cons.1 h1 with rfl | h1
    · exact .inl rfl
    · have hs := ordw_sorted (f := f) (s := s) hL
      rw [e] at hs
      exact .inr ((List.pairwise_cons.1 (List.pairwise_append.1 hs).2.1).1 w' h1)
theorem first_none (hL : L.Pairwise (· < ·)) (hlen : (ord f s L).length ≤ 200) {G : α → Bool} (h : firstOf f s L G = none) : ∀ v : List Int, (∀ x ∈ v, x ∈ L) → G (nodeOf f s v) = false := by
  intro v hv
  obtain ⟨w', h1, h2, _⟩ := ordw_cover hL hlen _ v rfl hv
  have := List.find?_eq_none.1 h w' h1
  rw [h2] at this
  simpa using this
theorem first_eq (hL : L.Pairwise (· < ·)) (hlen : (ord f s L).length ≤ 200) {G : α → Bool} {w : List Int} (hw : ∀ x ∈ w, x ∈ L) (hg : G (nodeOf f s w) = true) (hm : ∀ v : List Int, (∀ x ∈ v, x ∈ L) → G (nodeOf f s v) = true → sle w v) : firstOf f s L G = some w := by
  cases h : firstOf f s L G with
  | none =>
    have := first_none hL hlen h w hw
    rw [hg] at this; cases this
  | some u =>
    obtain ⟨h1, h2, h3⟩ := first_some hL hlen h
    rw [sle_antisymm (h3 w hw hg) (hm u (ordw_over hL h1) h2)]
theorem first_no (hL : L.Pairwise (· < ·)) (hlen : (ord f s L).length ≤ 200) {G : α → Bool} (hm : ∀ v : List Int, (∀ x ∈ v, x ∈ L) → G (nodeOf f s v) = false) : firstOf f s L G = none := by
  cases h : firstOf f s L G with
  | none => rfl
  | some u =>
    obtain ⟨h1, h2, h3⟩ := first_some hL hlen h
    rw [hm u (ordw_over hL h1)] at h2; cases h2
end
theorem letters_sorted (b : Int) : (letters b).Pairwise (· < ·) := by
  unfold letters lettersTo
  refine List.Pairwise.filter _ ?_
  refine List.pairwise_map.2 (List.Pairwise.imp ?_ List.pairwise_lt_range)
  intro x y h
  omega
end Go.Proofs.Ytdejmfkpohgamaa
set_option linter.unusedSimpArgs false
set_option linter.unusedVariables false
namespace Go.Proofs.Ytdejmfkpohgamaa
section
variable {α : Type}
def lev (f : α → Int → α) (L : List Int) (G : α → Bool) : Nat → α → Bool
  | 0, q => G q
  | n + 1, q => L.any fun l => lev f L G n (f q l)
variable {f : α → Int → α} {L : List Int} {G : α → Bool}
theorem lev_iff : ∀ {n : Nat} {q : α}, lev f L G n q = true ↔ ∃ w : List Int, w.length = n ∧ (∀ x ∈ w, x ∈ L) ∧ G (nodeOf f q w) = true
  | 0, q => by
    constructor
    · intro h; exact ⟨[], rfl, by simp, h⟩
    · rintro ⟨w, hw, _, h⟩
      obtain rfl := List.eq_nil_of_length_eq_zero hw
      exact h
  | n + 1, q => by
    rw [lev, List.any_eq_true]
    constructor
    · rintro ⟨l, hl, h⟩
      obtain ⟨w, h1, h2, h3⟩ := lev_iff.1 h
      exact ⟨l :: w, by simp [h1], fun x hx => (List.mem_cons.1 hx).elim (fun h => h ▸ hl) (h2 x), h3⟩
    · rintro ⟨w, hw, hx, h⟩
      cases w with
      | nil => simp at hw
      | cons l w => exact ⟨l, hx l (by simp), lev_iff.2 ⟨w, by simpa using hw, fun x h => hx x (by simp [h]), h⟩⟩
def disTo (f : α → Int → α) (L : List Int) (G : α → Bool) (d : Nat) (q : α) : Int := match (List.range (d + 1)).find? (fun n => lev f L G n q) with
  | some n => (n : Int)
  | none => -1
theorem find_range {p : Nat → Bool} {d n : Nat} : (List.range (d + 1)).find? p = some n ↔ n ≤ d ∧ p n = true ∧ ∀ m, m < n → p m = false := by
  rw [List.find?_range_eq_some]
  simp only [List.mem_range, Bool.not_eq_eq_eq_not, Bool.not_true]
  constructor
  · rintro ⟨h1, h2, h3⟩; exact ⟨by omega, h1, h3⟩
  · rintro ⟨h1, h2, h3⟩; exact ⟨h2, by omega, h3⟩
theorem disTo_eq {d n : Nat} {q : α} : disTo f L G d q = (n : Int) ↔ n ≤ d ∧ lev f L G n q = true ∧ ∀ m, m < n → lev f L G m q = false := by
  unfold disTo
  rw [← find_range (p := fun n => lev f L G n q)]
  cases (List.range (d + 1)).find? (fun n => lev f L G n q) with
  | none => simp
  | some m =>
    constructor
    · intro h
      have : m = n := Int.ofNat.inj h
      rw [this]
    · intro h
      rw [Option.some.inj h]
theorem disTo_neg {d : Nat} {q : α} : disTo f L G d q = -1 ↔ ∀ n, n ≤ d → lev f L G n q = false := by
  unfold disTo
  cases h : (List.range (d + 1)).find? (fun n => lev f L G n q) with
  | none =>
    have := List.find?_eq_none.1 h
    simp only [List.mem_range, true_iff]
    intro n hn
    simpa using this n (List.mem_range.2 (by omega))
  | some m =>
    have := (find_range (p := fun n => lev f L G n q)).1 h
    constructor
    · intro hc; simp at hc
    · intro hc
      rw [hc m this.1] at this
      simp at this
theorem disTo_cases (d : Nat) (q : α) : disTo f L G d q = -1 ∨ ∃ n : Nat, disTo f L G d q = (n : Int) ∧ n ≤ d := by
  unfold disTo
  cases h : (List.range (d + 1)).find? (fun n => lev f L G n q) with
  | none => exact .inl rfl
  | some m => exact .inr ⟨m, rfl, ((find_range (p := fun n => lev f L G n q)).1 h).1⟩
theorem disTo_zero {q : α} : disTo f L G 0 q = if G q then 0 else -1 := by
  by_cases h : G q = true
  · rw [if_pos h]
    show disTo f L G 0 q = ((0 : Nat) : Int)
    exact disTo_eq.2 ⟨Nat.le_refl _, h, fun m hm => by omega⟩
  · rw [if_neg h]
    exact disTo_neg.2 fun n hn => by rw [Nat.le_zero.1 hn]; simpa [lev] using h
def near (f : α → Int → α) (L : List Int) (G : α → Bool) (d : Nat) (q : α) : Bool := L.any fun l => decide (disTo f L G d (f q l) = (d : Int))
theorem disTo_old {d : Nat} {q : α} (h : 0 ≤ disTo f L G d q) : disTo f L G (d + 1) q = disTo f L G d q := by
  rcases disTo_cases (f := f) (L := L) (G := G) d q with h1 | ⟨n, h1, h2⟩
  · omega
  · rw [h1]
    have := disTo_eq.1 h1
    exact disTo_eq.2 ⟨by omega, this.2⟩
theorem disTo_new {d : Nat} {q : α} (h : disTo f L G d q < 0) (hn : near f L G d q = true) : disTo f L G (d + 1) q = ((d + 1 : Nat) : Int) := by
  rcases disTo_cases (f := f) (L := L) (G := G) d q with h1 | ⟨n, h1, _⟩
  · have h2 := disTo_neg.1 h1
    obtain ⟨l, hl, h3⟩ := List.any_eq_true.1 hn
    have h4 := disTo_eq.1 (of_decide_eq_true h3)
    exact disTo_eq.2 ⟨Nat.le_refl _, List.any_eq_true.2 ⟨l, hl, h4.2.1⟩, fun m hm => h2 m (by omega)⟩
  · omega
theorem disTo_far {d : Nat} {q : α} (h : disTo f L G d q < 0) (hn : near f L G d q = false) : disTo f L G (d + 1) q = -1 := by
  rcases disTo_cases (f := f) (L := L) (G := G) d q with h1 | ⟨n, h1, _⟩
  · have h2 := disTo_neg.1 h1
    refine disTo_neg.2 fun n hle => ?_
    rcases Nat.lt_or_ge n (d + 1) with h3 | h3
    · exact h2 n (by omega)
    · obtain rfl : n = d + 1 := by omega
      cases hl : lev f L G (d + 1) q with
      | false => rfl
      | true =>
        obtain ⟨l, hl1, hl2⟩ := List.any_eq_true.1 hl
        have : near f L G d q = true := List.any_eq_true.2 ⟨l, hl1, decide_eq_true (disTo_eq.2 ⟨Nat.le_refl _, hl2, fun m hm => by
          cases hm2 : lev f L G m (f q l) with
          | false => rfl
          | true =>
            have h5 : lev f L G (m + 1) q = true := List.any_eq_true.2 ⟨l, hl1, hm2⟩
            rw [h2 (m + 1) (by omega)] at h5
            cases h5⟩)⟩
        rw [hn] at this; cases this
  · omega
theorem lev_stop {P : α → Prop} (hP : ∀ q, P q → ∀ l ∈ L, P (f q l)) {d : Nat} (h : ∀ q, P q → disTo f L G (d + 1) q = disTo f L G d q) : ∀ (n : Nat) (q : α), P q → lev f L G n q = true → ∃ m, m ≤ d ∧ lev f L G m q = true := by
  intro n
  induction n with
  | zero => intro q _ hl; exact ⟨0, Nat.zero_le _, hl⟩
  | succ n ih =>
    intro q hq hl
    obtain ⟨l, hl1, hl2⟩ := List.any_eq_true.1 hl
    obtain ⟨m, hm, hm2⟩ := ih (f q l) (hP q hq l hl1) hl2
    have h5 : lev f L G (m + 1) q = true := List.any_eq_true.2 ⟨l, hl1, hm2⟩
    rcases Nat.lt_or_ge m d with h6 | h6
    · exact ⟨m + 1, by omega, h5⟩
    · obtain rfl : m = d := by omega
      rcases disTo_cases (f := f) (L := L) (G := G) m q with h7 | ⟨k, h7, h8⟩
      · rw [← h q hq] at h7
        rw [disTo_neg.1 h7 (m + 1) (Nat.le_refl _)] at h5
        cases h5
      · exact ⟨k, h8, (disTo_eq.1 h7).2.1⟩
def gre (f : α → Int → α) (L : List Int) (dis : α → Int) : Nat → α → List Int
  | 0, _ => []
  | n + 1, q => match L.find? (fun l => decide (dis (f q l) = (n : Int))) with
    | some l => l :: gre f L dis n (f q l)
    | none => []
theorem sorted_find {L : List Int} (hL : L.Pairwise (· < ·)) {p : Int → Bool} {l l' : Int} (h : L.find? p = some l) (hl : l' ∈ L) (hp : p l' = true) : l = l' ∨ l < l' := by
  obtain ⟨_, aas, bs, e, has⟩ := List.find?_eq_some_iff_append.1 h
  subst e
  rcases List.mem_append.1 hl with h1 | h1
  · have := has l' h1
    rw [hp] at this; cases this
  · rcases List.mem_cons.1 h1 with rfl | h1
    · exact .inl rfl
    · exact .inr ((List.pairwise_cons.1 (List.pairwise_append.1 hL).2.1).1 l' h1)
theorem gre_least (hL : L.Pairwise (· < ·)) {d : Nat} : ∀ (n : Nat) (q : α), disTo f L G d q = (n : Int) → ((gre f L (disTo f L G d) n q).length = n ∧ (∀ x ∈ gre f L (disTo f L G d) n q, x ∈ L) ∧ G (nodeOf f q (gre f L (disTo f L G d) n q)) = true) ∧
    ∀ v : List Int, v.length = n → (∀ x ∈ v, x ∈ L) → G (nodeOf f q v) = true → sle (gre f L (disTo f L G d) n q) v
  | 0, q, h => by
    have h1 := disTo_eq.1 h
    refine ⟨⟨rfl, by simp [gre], h1.2.1⟩, fun v hv _ _ => ?_⟩
    obtain rfl := List.eq_nil_of_length_eq_zero hv
    exact .inl rfl
  | n + 1, q, h => by
    have h1 := disTo_eq.1 h
    have key : ∀ l, l ∈ L → lev f L G n (f q l) = true → disTo f L G d (f q l) = (n : Int) := fun l hl hl2 => disTo_eq.2 ⟨by omega, hl2, fun m hm => by
      cases hm2 : lev f L G m (f q l) with
      | false => rfl
      | true =>
        have h5 : lev f L G (m + 1) q = true := List.any_eq_true.2 ⟨l, hl, hm2⟩
        rw [h1.2.2 (m + 1) (by omega)] at h5
        cases h5⟩
    obtain ⟨l1, hl1, hl2⟩ := List.any_eq_true.1 h1.2.1
    cases hf : L.find? (fun l => decide (disTo f L G d (f q l) = (n : Int))) with
    | none =>
      have := List.find?_eq_none.1 hf l1 hl1
      rw [key l1 hl1 hl2] at this
      simp at this
    | some l =>
      have e : gre f L (disTo f L G d) (n + 1) q = l :: gre f L (disTo f L G d) n (f q l) := by rw [gre, hf]
      have hld : disTo f L G d (f q l) = (n : Int) := by simpa using List.find?_some hf
      obtain ⟨⟨g1, g2, g3⟩, g4⟩ := gre_least hL n (f q l) hld
      rw [e]
      refine ⟨⟨by simp [g1], fun x hx => (List.mem_cons.1 hx).elim (fun h => h ▸ List.mem_of_find?_eq_some hf) (g2 x), g3⟩, fun v hv hx hg => ?_⟩
      cases v with
      | nil => simp at hv
      | cons l' v =>
        have hlv : lev f L G n (f q l') = true := lev_iff.2 ⟨v, by simpa using hv, fun x h => hx x (by simp [h]), hg⟩
        have hl' := hx l' (by simp)
        rcases sorted_find hL hf hl' (decide_eq_true (key l' hl' hlv)) with rfl | hlt
        · rcases g4 v (by simpa using hv) (fun x h => hx x (by simp [h])) hg with h6 | h6
          · exact .inl (by rw [h6])
          · refine .inr (.inr ⟨by simp [g1]; simpa using hv.symm, .inr ⟨rfl, ?_⟩⟩)
            rcases h6 with h6 | h6
            · have : v.length = n := by simpa using hv
              omega
            · exact h6.2
        · exact .inr (.inr ⟨by simp [g1]; simpa using hv.symm, .inl hlt⟩)
theorem first_gre [DecidableEq α] {s : α} (hL : L.Pairwise (· < ·)) (hlen : (ord f s L).length ≤ 200) {P : α → Prop} (hP : ∀ q, P q → ∀ l ∈ L, P (f q l)) (hs : P s) {d : Nat} (h : ∀ q, P q → disTo f L G (d + 1) q = disTo f L G d q) :
    firstOf f s L G = if 0 ≤ disTo f L G d s then some (gre f L (disTo f L G d) (disTo f L G d s).toNat s) else none := by
  rcases disTo_cases (f := f) (L := L) (G := G) d s with h1 | ⟨n, h1, h2⟩
  · rw [if_neg (by omega)]
    refine first_no hL hlen fun v hv => ?_
    cases hg : G (nodeOf f s v) with
    | false => rfl
    | true =>
      obtain ⟨m, hm, hm2⟩ := lev_stop hP h v.length s hs (lev_iff.2 ⟨v, rfl, hv, hg⟩)
      rw [disTo_neg.1 h1 m hm] at hm2
      cases hm2
  · rw [if_pos (by omega), h1, Int.toNat_natCast]
    obtain ⟨⟨g1, g2, g3⟩, g4⟩ := gre_least hL n s h1
    refine first_eq hL hlen g2 g3 fun v hv hg => ?_
    have h3 := disTo_eq.1 h1
    rcases Nat.lt_trichotomy v.length n with h4 | h4 | h4
    · have := h3.2.2 v.length h4
      rw [lev_iff.2 ⟨v, rfl, hv, hg⟩] at this
      cases this
    · exact g4 v h4 hv hg
    · exact .inr (.inl (by omega))
end
end Go.Proofs.Ytdejmfkpohgamaa
set_option linter.unusedSimpArgs false
set_option linter.unusedVariables false
namespace Go.Proofs.Ytdejmfkpohgamaa
open Go.RowKit
def txb (w : List Int) : List UInt8 := w.map fun x => UInt8.ofNat (97 + x).toNat
def txt (w : List Int) : ByteArray := ⟨(txb w).toArray⟩
theorem txt_snoc (w : List Int) (x : Int) : txt (w ++ [x]) = txt w ++ chr x := by
  apply ByteArray.ext
  simp [txt, txb, chr]
theorem txb_rev (w : List Int) : (txb w.reverse).reverse = txb w := by simp [txb]
theorem txt_size (w : List Int) : (txt w).size = w.length := by simp [txt, txb, ByteArray.size]
def stepV (r : Int × Int × Value) : List Value := [.int .i64 r.1, .int .i64 r.2.1, r.2.2]
def rows3 (rs : List (Int × Int × Value)) : List (List Value) := rs.map stepV
theorem rows3_length (rs : List (Int × Int × Value)) : (rows3 rs).length = rs.length := List.length_map _
theorem rows3_snoc (rs : List (Int × Int × Value)) (r : Int × Int × Value) : rows3 (rs ++ [r]) = rows3 rs ++ [[.int .i64 r.1, .int .i64 r.2.1, r.2.2]] := by simp [rows3, stepV]
section
variable {w w' : World} {B : Nat} {e : TypeId} {v : Value} {rs : List (Int × Int × Value)}
theorem Wid.triple (h : Wid w B e 3 v (rows3 rs)) {i : Int} {r : Int × Int × Value} (h0 : 0 ≤ i) (hr : rs[i.toNat]? = some r) : ∃ g c, v = .slice (some ⟨g, 0, none⟩) rs.length c ∧ (i.toNat < rs.length) ∧ w.cell? ⟨g, i.toNat * 3 + 0, none⟩ = some (.int .i64 r.1) ∧ w.cell? ⟨g, i.toNat * 3 + 1, none⟩ = some (.int .i64 r.2.1) ∧ w.cell? ⟨g, i.toNat * 3 + 2, none⟩ = some r.2.2 := by
  have hi := (List.getElem?_eq_some_iff.1 hr).1
  obtain ⟨g, c, hv, _, _, hc⟩ := h.at h0 (by rw [rows3_length]; omega)
  rw [rows3_length] at hv
  have e1 : (rows3 rs).getD i.toNat [] = stepV r := by
    unfold rows3
    rw [List.getD_eq_getElem?_getD, List.getElem?_map, hr]
    rfl
  rw [e1] at hc
  exact ⟨g, c, hv, hi, hc 0 (by decide), hc 1 (by decide), hc 2 (by decide)⟩
end
def Link (ws : List (List Int)) (p l : Int) (v : List Int) : Prop := (v = [] ∧ p = -1) ∨ ∃ u, v = u ++ [l] ∧ 0 ≤ p ∧ ws[p.toNat]? = some u
theorem Link.more {ws : List (List Int)} {p l : Int} {v : List Int} (h : Link ws p l v) (us : List (List Int)) : Link (ws ++ us) p l v := by
  rcases h with h | ⟨u, h1, h2, h3⟩
  · exact .inl h
  · exact .inr ⟨u, h1, h2, by rw [List.getElem?_append_left (List.getElem?_eq_some_iff.1 h3).1]; exact h3⟩
structure Trail (w : World) (I : TypeId) (f : Int → Int → Int) (s : Int) (ws : List (List Int)) (rs : List (Int × Int × Value)) : Prop where
  len : rs.length = ws.length
  row : ∀ (j : Nat) (v : List Int), ws[j]? = some v → ∃ p l fv, rs[j]? = some (p, l, fv) ∧ Link ws p l v ∧ Ints w I fv [nodeOf f s v]
  lets : ∀ v ∈ ws, ∀ x ∈ v, 0 ≤ x ∧ x < 6
section
variable {w w' : World} {I : TypeId} {f : Int → Int → Int} {s : Int} {ws : List (List Int)} {rs : List (Int × Int × Value)}
theorem Trail.map (h : Trail w I f s ws rs) (k : ∀ v xs, Ints w I v xs → Ints w' I v xs) : Trail w' I f s ws rs :=
  ⟨h.len, fun j v hv => by
    obtain ⟨p, l, fv, h1, h2, h3⟩ := h.row j v hv
    exact ⟨p, l, fv, h1, h2, k _ _ h3⟩, h.lets⟩
theorem Trail.ext (h : Trail w I f s ws rs) (x : Ext w w') : Trail w' I f s ws rs := h.map fun _ _ h => h.ext x
theorem Trail.owned {B : Nat} {t : TypeId} {u : Value} {us : List Value} (h : Trail w I f s ws rs) (ho : Own w B t u us) (hg : w.grownBy w' u.ownBlock) (hne : t ≠ I) : Trail w' I f s ws rs := h.map fun _ _ h => Row.owned h ho hg hne
theorem Trail.stored {g : Nat} {t : TypeId} {cs : List Value} (h : Trail w I f s ws rs) (hg : w.grownBy w' (some g)) (hb : Blk w g t cs) (hne : t ≠ I) : Trail w' I f s ws rs := h.map fun _ _ h => Row.stored h hg hb hne
theorem Trail.wid {B n : Nat} {e : TypeId} {u : Value} {rows : List (List Value)} (h : Trail w I f s ws rs) (ho : Wid w B e n u rows) (hg : w.grownBy w' u.ownBlock) (hne : e ≠ I) : Trail w' I f s ws rs := h.map fun _ _ h => Row.wid h ho hg hne
theorem Trail.nil (w : World) (I : TypeId) (f : Int → Int → Int) (s : Int) : Trail w I f s [] [] := ⟨rfl, by simp, by simp⟩
theorem Trail.snoc (h : Trail w I f s ws rs) {p l : Int} {fv : Value} {v : List Int} (hl : Link ws p l v) (hf : Ints w I fv [nodeOf f s v]) (hv : ∀ x ∈ v, 0 ≤ x ∧ x < 6) : Trail w I f s (ws ++ [v]) (rs ++ [(p, l, fv)]) := by
  refine ⟨by simp [h.len], fun j u hu => ?_, fun u hu => ?_⟩
  · rcases Nat.lt_or_ge j ws.length with hj | hj
    · rw [List.getElem?_append_left hj] at hu
      obtain ⟨p', l', fv', h1, h2, h3⟩ := h.row j u hu
      exact ⟨p', l', fv', by rw [List.getElem?_append_left (by rw [h.len]; exact hj)]; exact h1, h2.more _, h3⟩
    · have hj2 := (List.getElem?_eq_some_iff.1 hu).1
      rw [List.length_append, List.length_singleton] at hj2
      obtain rfl : j = ws.length := by omega
      rw [List.getElem?_append_right (Nat.le_refl _), Nat.sub_self] at hu
      have hu' : v = u := by simpa using hu
      subst hu'
      exact ⟨p, l, fv, by rw [List.getElem?_append_right (by rw [h.len]; exact Nat.le_refl _), h.len, Nat.sub_self]; rfl, hl.more _, hf⟩
  · rcases List.mem_append.1 hu with h' | h'
    · exact h.lets u h'
    · rw [List.mem_singleton.1 h']; exact hv
end
def seenOf (n : Nat) (ns : List Int) : List Bool := (List.range n).map fun (i : Nat) => decide ((i : Int) ∈ ns)
theorem seenOf_length (n : Nat) (ns : List Int) : (seenOf n ns).length = n := by simp [seenOf]
theorem seenOf_nil (n : Nat) : seenOf n [] = List.replicate n false := by
  apply List.ext_getElem <;> simp [seenOf]
theorem seenOf_at {n : Nat} {ns : List Int} {q : Int} (hq : 0 ≤ q ∧ q < n) : (seenOf n ns).getD q.toNat false = decide (q ∈ ns) := by
  have h : q.toNat < n := by omega
  have e : ((q.toNat : Nat) : Int) = q := Int.toNat_of_nonneg hq.1
  simp [seenOf, List.getD_eq_getElem?_getD, h, e]
theorem seenOf_set {n : Nat} {ns : List Int} {q : Int} (hq : 0 ≤ q) : (seenOf n ns).set q.toNat true = seenOf n (ns ++ [q]) := by
  apply List.ext_getElem
  · simp [seenOf]
  · intro i h1 h2
    rw [List.getElem_set]
    by_cases h : q.toNat = i
    · have : ((i : Nat) : Int) = q := by omega
      simp [seenOf, h, this]
    · have : ((i : Nat) : Int) ≠ q := by omega
      simp [seenOf, h, this]
theorem Own.seen0 {w : World} {B n : Nat} {e : TypeId} {v : Value} (h : Own w B e v (List.replicate n (Value.bool false))) : Own w B e v ((seenOf n []).map Value.bool) := by rw [seenOf_nil, List.map_replicate]; exact h
theorem seen_n {w : World} {B n : Nat} {e : TypeId} {v : Value} {m : Int} (hm : m = n) (h : Own w B e v (List.replicate m.toNat (Value.bool false))) : Own w B e v (List.replicate n (Value.bool false)) := by
  subst hm; exact h
def NClo (P : Program) (w0 : World) (I : TypeId) (fv : Value) (D : Int → Prop) (f : Int → Int → Int) : Prop :=
  ∃ k fn, ∃ cs : List Value, fv = .func (.func k) #[] cs.toArray ∧ Fn P k fn ∧ ∀ w q x, Ext w0 w → D q → 0 ≤ x ∧ x < 6 → Ret P k ([Value.int .i64 q, Value.int .i64 x, Value.slice none 0 0] ++ cs).toArray w fun v w' => Own w' w.heap.size I v [Value.int .i64 (f q x)] ∧ Ext w w'
def GClo (P : Program) (w0 : World) (gv : Value) (D : Int → Prop) (G : Int → Bool) : Prop :=
  ∃ k fn, ∃ cs : List Value, gv = .func (.func k) #[] cs.toArray ∧ Fn P k fn ∧ ∀ w q, Ext w0 w → D q → Ret P k ([Value.int .i64 q] ++ cs).toArray w fun v w' => v = .bool (G q) ∧ Ext w w'
theorem NClo.up {P : Program} {w0 w1 : World} {I : TypeId} {fv : Value} {D : Int → Prop} {f : Int → Int → Int} (h : NClo P w0 I fv D f) (x : Ext w0 w1) : NClo P w1 I fv D f := by
  obtain ⟨k, fn, cs, h1, h2, h3⟩ := h
  exact ⟨k, fn, cs, h1, h2, fun w q y hw hq hy => h3 w q y (x.trans hw) hq hy⟩
theorem GClo.up {P : Program} {w0 w1 : World} {gv : Value} {D : Int → Prop} {G : Int → Bool} (h : GClo P w0 gv D G) (x : Ext w0 w1) : GClo P w1 gv D G := by
  obtain ⟨k, fn, cs, h1, h2, h3⟩ := h
  exact ⟨k, fn, cs, h1, h2, fun w q hw hq => h3 w q (x.trans hw) hq⟩
def BClo (P : Program) (w0 : World) (gv : Value) (g : Bool → Bool → Bool) : Prop :=
  ∃ k fn, ∃ cs : List Value, gv = .func (.func k) #[] cs.toArray ∧ Fn P k fn ∧ ∀ w x y, Ext w0 w → Ret P k ([Value.bool x, Value.bool y] ++ cs).toArray w fun v w' => v = .bool (g x y) ∧ Ext w w'
theorem BClo.up {P : Program} {w0 w1 : World} {gv : Value} {g : Bool → Bool → Bool} (h : BClo P w0 gv g) (x : Ext w0 w1) : BClo P w1 gv g := by
  obtain ⟨k, fn, cs, h1, h2, h3⟩ := h
  exact ⟨k, fn, cs, h1, h2, fun w a b hw => h3 w a b (x.trans hw)⟩
theorem BClo.one {P : Program} {w0 : World} {gv : Value} {g : Bool → Bool → Bool} (h : BClo P w0 gv g) : gv.oneCell' = true := by
  obtain ⟨k, fn, cs, h1, _⟩ := h
  rw [h1]; rfl
def SMem (wb w : World) (I Bo LB S LS GT : TypeId) (B bs bt bg : Nat) (gv : Value) (n : Nat) (f : Int → Int → Int) (s : Int) (ws : List (List Int)) : Prop :=
  ∃ sv tv rs, Blk w bs LB [sv] ∧ Own w B Bo sv ((seenOf n (ws.map (nodeOf f s))).map Value.bool) ∧ Blk w bt LS [tv] ∧ Wid w B S 3 tv (rows3 rs) ∧ Trail w I f s ws rs ∧ Blk w bg GT [gv] ∧ Ext wb w ∧ wb.heap.size ≤ B ∧ wb.heap.size ≤ bs ∧ wb.heap.size ≤ bt ∧ B ≤ w.heap.size
section
variable {wb w w' : World} {I Bo LB S LS GT : TypeId} {B bs bt bg n : Nat} {gv : Value} {f : Int → Int → Int} {s : Int} {ws : List (List Int)}
theorem SMem.ext (h : SMem wb w I Bo LB S LS GT B bs bt bg gv n f s ws) (x : Ext w w') : SMem wb w' I Bo LB S LS GT B bs bt bg gv n f s ws := by
  obtain ⟨sv, tv, rs, h1, h2, h3, h4, h5, h6, h7, h8, h9, h10, h11⟩ := h
  exact ⟨sv, tv, rs, h1.ext x, h2.ext x, h3.ext x, h4.ext x, h5.ext x, h6.ext x, h7.trans x, h8, h9, h10, Nat.le_trans h11 (Below.size x)⟩
theorem SMem.base (h : SMem wb w I Bo LB S LS GT B bs bt bg gv n f s ws) : Ext wb w := by
  obtain ⟨sv, tv, rs, h1, h2, h3, h4, h5, h6, h7, h8⟩ := h
  exact h7
end
theorem Wid.one {w : World} {B n : Nat} {e : TypeId} {v : Value} {rows : List (List Value)} (h : Wid w B e n v rows) : v.oneCell' = true := by
  rcases h.cases with ⟨rfl, _⟩ | ⟨g, cap, cs, rfl, _⟩ <;> rfl
theorem Own.snocT {w : World} {B : Nat} {e : TypeId} {v : Value} {t : List Int} {l : Int} (h : Own w B e v ((txb t.reverse).map (fun b => Value.int .u8 (b.toNat : Int)) ++ [Value.int .u8 (97 + l)])) (hl : 0 ≤ l ∧ l < 6) : Own w B e v ((txb (l :: t).reverse).map fun b => Value.int .u8 (b.toNat : Int)) := by
  have e1 : (txb (l :: t).reverse).map (fun b => Value.int .u8 (b.toNat : Int)) = (txb t.reverse).map (fun b => Value.int .u8 (b.toNat : Int)) ++ [Value.int .u8 (97 + l)] := by
    have := u8_of (n := 97 + l) (by omega)
    simp only [txb, List.reverse_cons, List.map_append, List.map_cons, List.map_nil, this]
  rw [e1]; exact h
section
variable {f : Int → Int → Int} {s : Int} {L : List Int} {G : Int → Bool}
def wmid (f : Int → Int → Int) (s : Int) (L : List Int) (i : Nat) (u : List Int) (k : Nat) : List (List Int) := wround f s u (bfsw f s L i) (L.take k)
theorem wmid_succ {i : Nat} {u : List Int} {k : Nat} (hk : k < L.length) : wmid f s L i u (k + 1) = wadd f s (wmid f s L i u k) (u ++ [L.getD k 0]) := by
  unfold wmid wround
  rw [take_snoc 0 hk, List.foldl_append]
  rfl
theorem wmid_done {i : Nat} {u : List Int} {k : Nat} (h : L.length ≤ k) (hu : (bfsw f s L i)[i]? = some u) : wmid f s L i u k = bfsw f s L (i + 1) := by
  rw [bfsw, hu]
  unfold wmid
  rw [List.take_of_length_le h]
theorem wmid_more (i : Nat) (u : List Int) (k : Nat) : bfsw f s L i <+: wmid f s L i u k := wround_prefix _ _ _
theorem wmid_last {i : Nat} {u : List Int} {k : Nat} (hu : (bfsw f s L i)[i]? = some u) : wmid f s L i u k <+: bfsw f s L (i + 1) := by
  rcases Nat.lt_or_ge k L.length with h | h
  · rw [← wmid_done (k := L.length) (Nat.le_refl _) hu]
    unfold wmid wround
    have e : L.take L.length = L.take k ++ L.drop k := by rw [List.take_length, List.take_append_drop]
    rw [e, List.foldl_append]
    exact wround_prefix (f := f) (s := s) u (L.drop k) _
  · rw [wmid_done h hu]; exact List.prefix_refl _
theorem bfsw_more {i j : Nat} (h : i ≤ j) : bfsw f s L i <+: bfsw f s L j := by
  induction j with
  | zero => obtain rfl : i = 0 := by omega
            exact List.prefix_refl _
  | succ j ih =>
    rcases Nat.lt_or_ge i (j + 1) with h1 | h1
    · exact (ih (by omega)).trans (bfsw_prefix1 j)
    · obtain rfl : i = j + 1 := by omega
      exact List.prefix_refl _
theorem wadd_T {ws : List (List Int)} {v : List Int} (h : nodeOf f s v ∈ ws.map (nodeOf f s)) : wadd f s ws v = ws := if_pos h
theorem wadd_F {ws : List (List Int)} {v : List Int} (h : nodeOf f s v ∉ ws.map (nodeOf f s)) : wadd f s ws v = ws ++ [v] := if_neg h
theorem first_found {i : Nat} {u : List Int} {k : Nat} (hu : (bfsw f s L i)[i]? = some u) (hi : i + 1 ≤ 200) (hk : k < L.length) (hG : ∀ v ∈ wmid f s L i u k, G (nodeOf f s v) = false) (hn : nodeOf f s (u ++ [L.getD k 0]) ∉ (wmid f s L i u k).map (nodeOf f s)) (hg : G (nodeOf f s (u ++ [L.getD k 0])) = true) :
    firstOf f s L G = some (u ++ [L.getD k 0]) := by
  have h1 := wmid_last (k := k + 1) hu
  rw [wmid_succ hk, wadd_F hn] at h1
  obtain ⟨t, ht⟩ := h1.trans (bfsw_more (f := f) (s := s) (L := L) (i := i + 1) (j := many 0) (by rw [many_eq]; exact hi))
  unfold firstOf ordw
  rw [← ht, List.append_assoc, List.find?_append, List.find?_eq_none.2 (fun v hv => by rw [hG v hv]; decide), Option.none_or, List.singleton_append]
  exact List.find?_cons_of_pos (p := fun w => G (nodeOf f s w)) hg
theorem first_missed {i : Nat} (hl : (bfsw f s L i).length ≤ i) (hi : i ≤ 200) (hG : ∀ v ∈ bfsw f s L i, G (nodeOf f s v) = false) : firstOf f s L G = none := by
  have e : bfsw f s L (many 0) = bfsw f s L i := by
    have h1 := bfsw_more (f := f) (s := s) (L := L) (i := i) (j := many 0) (by rw [many_eq]; exact hi)
    refine (h1.eq_of_length ?_).symm
    rw [bfsw_length, bfsw_length]
    rw [bfsw_length] at hl
    rw [bfs_stop (j := many 0) hl (by rw [many_eq]; exact hi)]
  unfold firstOf ordw
  rw [e, List.find?_eq_none.2 (fun v hv => by rw [hG v hv]; decide)]
theorem first_here (hg : G s = true) : firstOf f s L G = some [] := by
  obtain ⟨t, ht⟩ := bfsw_more (f := f) (s := s) (L := L) (i := 0) (j := many 0) (Nat.zero_le _)
  unfold firstOf ordw
  rw [← ht]
  have : bfsw f s L 0 = [[]] := rfl
  rw [this]
  simp [nodeOf, hg]
theorem bfsw_lets {i : Nat} (hL : ∀ x ∈ L, 0 ≤ x ∧ x < 6) : ∀ v ∈ bfsw f s L i, ∀ x ∈ v, 0 ≤ x ∧ x < 6 := by
  induction i with
  | zero =>
    intro v hv
    have : v = [] := by simpa [bfsw] using hv
    subst this
    intro x hx; cases hx
  | succ i ih =>
    intro v hv
    rw [bfsw] at hv
    cases h : (bfsw f s L i)[i]? with
    | none => rw [h] at hv; exact ih v hv
    | some u =>
      rw [h] at hv
      rcases wround_mem u L _ hv with h' | ⟨l, hl, rfl⟩
      · exact ih v h'
      · intro x hx
        rcases List.mem_append.1 hx with h1 | h1
        · exact ih u (List.mem_of_getElem? h) x h1
        · rw [List.mem_singleton.1 h1]; exact hL l hl
theorem wadd_miss {ws : List (List Int)} {v : List Int} (h : ∀ u ∈ ws, G (nodeOf f s u) = false) (hf : (!decide (nodeOf f s v ∈ ws.map (nodeOf f s)) && G (nodeOf f s v)) = false) : ∀ u ∈ wadd f s ws v, G (nodeOf f s u) = false := by
  intro u hu
  by_cases hm : nodeOf f s v ∈ ws.map (nodeOf f s)
  · rw [wadd_T hm] at hu; exact h u hu
  · rw [wadd_F hm] at hu
    rcases List.mem_append.1 hu with h1 | h1
    · exact h u h1
    · rw [List.mem_singleton.1 h1]
      simpa [hm] using hf
theorem bfsw_range {n : Nat} {D : Int → Prop} (h0 : D s) (hD : ∀ q, D q → ∀ x ∈ L, D (f q x)) (hn : ∀ q, D q → 0 ≤ q ∧ q < n) (i : Nat) : (bfsw f s L i).length ≤ n := by
  rw [bfsw_length]
  have h1 := nodup_len (U := (List.range n).map fun (i : Nat) => (i : Int)) (bfs_nodup (f := f) (s := s) (L := L) i) (fun q hq => inU.2 (hn q (bfs_all h0 hD i q hq)))
  simpa using h1
theorem bfsw_lenw {i j : Nat} {u : List Int} (h : (bfsw f s L i)[j]? = some u) : u.length ≤ i := by
  have hall : ∀ v ∈ bfsw f s L i, v.length ≤ i := by
    clear h
    induction i with
    | zero =>
      intro v hv
      have : v = [] := by simpa [bfsw] using hv
      subst this
      exact Nat.le_refl _
    | succ i ih =>
      intro v hv
      rw [bfsw] at hv
      cases h : (bfsw f s L i)[i]? with
      | none => rw [h] at hv; exact Nat.le_succ_of_le (ih v hv)
      | some u =>
        rw [h] at hv
        rcases wround_mem u L _ hv with h' | ⟨l, hl, rfl⟩
        · exact Nat.le_succ_of_le (ih v h')
        · have := ih u (List.mem_of_getElem? h)
          simp only [List.length_append, List.length_singleton]
          omega
  exact hall u (List.mem_of_getElem? h)
theorem nodeOf_in {D : Int → Prop} (h0 : D s) (hD : ∀ q, D q → ∀ x ∈ L, D (f q x)) : ∀ (i : Nat), ∀ v ∈ bfsw f s L i, D (nodeOf f s v) := by
  intro i v hv
  have : nodeOf f s v ∈ bfs f s L i := by rw [← bfsw_map]; exact List.mem_map.2 ⟨v, hv, rfl⟩
  exact bfs_all h0 hD i _ this
end
section maps
variable {α β : Type} [DecidableEq α] [DecidableEq β] {f : α → Int → α} {s : α} {L : List Int} {f' : β → Int → β} {g : α → β} {P : α → Prop}
omit [DecidableEq α] [DecidableEq β] in
theorem nodeOf_map (h0 : P s) (hs : ∀ q, P q → ∀ l ∈ L, P (f q l)) (hf : ∀ q, P q → ∀ l ∈ L, f' (g q) l = g (f q l)) : ∀ (v : List Int), (∀ x ∈ v, x ∈ L) → nodeOf f' (g s) v = g (nodeOf f s v) ∧ P (nodeOf f s v) := by
  intro v
  induction v generalizing s with
  | nil => intro _; exact ⟨rfl, h0⟩
  | cons x v ih =>
    intro hv
    have hx := hv x (by simp)
    have := ih (s := f s x) (hs s h0 x hx) (fun y hy => hv y (by simp [hy]))
    show nodeOf f' (f' (g s) x) v = g (nodeOf f (f s x) v) ∧ P (nodeOf f (f s x) v)
    rw [hf s h0 x hx]
    exact this
theorem wround_over (u : List Int) (hu : ∀ x ∈ u, x ∈ L) : ∀ (Ls : List Int) (ws : List (List Int)), (∀ l ∈ Ls, l ∈ L) → (∀ v ∈ ws, ∀ x ∈ v, x ∈ L) → ∀ v ∈ wround f s u ws Ls, ∀ x ∈ v, x ∈ L := by
  intro Ls ws hLs hws v hv
  rcases wround_mem u Ls ws hv with h | ⟨l, hl, rfl⟩
  · exact hws v h
  · intro x hx
    rcases List.mem_append.1 hx with h1 | h1
    · exact hu x h1
    · rw [List.mem_singleton.1 h1]; exact hLs l hl
theorem bfsw_over (i : Nat) : ∀ v ∈ bfsw f s L i, ∀ x ∈ v, x ∈ L := by
  induction i with
  | zero =>
    intro v hv
    have : v = [] := by simpa [bfsw] using hv
    subst this
    intro x hx; cases hx
  | succ i ih =>
    intro v hv
    rw [bfsw] at hv
    cases h : (bfsw f s L i)[i]? with
    | none => rw [h] at hv; exact ih v hv
    | some u => rw [h] at hv; exact wround_over u (ih u (List.mem_of_getElem? h)) L _ (fun _ h => h) ih v hv
theorem wadd_map' (hg : ∀ a b, P a → P b → g a = g b → a = b) (h0 : P s) (hs : ∀ q, P q → ∀ l ∈ L, P (f q l)) (hf : ∀ q, P q → ∀ l ∈ L, f' (g q) l = g (f q l)) {ws : List (List Int)} {v : List Int} (hws : ∀ u ∈ ws, ∀ x ∈ u, x ∈ L) (hv : ∀ x ∈ v, x ∈ L) : wadd f' (g s) ws v = wadd f s ws v := by
  have h1 := nodeOf_map h0 hs hf v hv
  have e : nodeOf f' (g s) v ∈ ws.map (nodeOf f' (g s)) ↔ nodeOf f s v ∈ ws.map (nodeOf f s) := by
    constructor
    · intro h
      obtain ⟨u, hu, he⟩ := List.mem_map.1 h
      have h2 := nodeOf_map h0 hs hf u (hws u hu)
      rw [h1.1, h2.1] at he
      exact List.mem_map.2 ⟨u, hu, hg _ _ h2.2 h1.2 he⟩
    · intro h
      obtain ⟨u, hu, he⟩ := List.mem_map.1 h
      have h2 := nodeOf_map h0 hs hf u (hws u hu)
      exact List.mem_map.2 ⟨u, hu, by rw [h1.1, h2.1, he]⟩
  unfold wadd
  by_cases h : nodeOf f s v ∈ ws.map (nodeOf f s)
  · rw [if_pos h, if_pos (e.2 h)]
  · rw [if_neg h, if_neg (fun hc => h (e.1 hc))]
theorem wround_map' (hg : ∀ a b, P a → P b → g a = g b → a = b) (h0 : P s) (hs : ∀ q, P q → ∀ l ∈ L, P (f q l)) (hf : ∀ q, P q → ∀ l ∈ L, f' (g q) l = g (f q l)) {u : List Int} (hu : ∀ x ∈ u, x ∈ L) : ∀ (Ls : List Int) (ws : List (List Int)), (∀ l ∈ Ls, l ∈ L) → (∀ v ∈ ws, ∀ x ∈ v, x ∈ L) → wround f' (g s) u ws Ls = wround f s u ws Ls
  | [], ws, _, _ => rfl
  | l :: Ls, ws, hLs, hws => by
    have hul : ∀ x ∈ u ++ [l], x ∈ L := fun x hx => by
      rcases List.mem_append.1 hx with h1 | h1
      · exact hu x h1
      · rw [List.mem_singleton.1 h1]; exact hLs l (by simp)
    have e := wadd_map' hg h0 hs hf hws hul
    show wround f' (g s) u (wadd f' (g s) ws (u ++ [l])) Ls = wround f s u (wadd f s ws (u ++ [l])) Ls
    rw [e]
    refine wround_map' hg h0 hs hf hu Ls _ (fun x hx => hLs x (by simp [hx])) (fun v hv => ?_)
    rcases wadd_mem hv with h | rfl
    · exact hws v h
    · exact hul
theorem bfsw_map' (hg : ∀ a b, P a → P b → g a = g b → a = b) (h0 : P s) (hs : ∀ q, P q → ∀ l ∈ L, P (f q l)) (hf : ∀ q, P q → ∀ l ∈ L, f' (g q) l = g (f q l)) (i : Nat) : bfsw f' (g s) L i = bfsw f s L i := by
  induction i with
  | zero => rfl
  | succ i ih =>
    rw [bfsw, bfsw, ih]
    cases h : (bfsw f s L i)[i]? with
    | none => rfl
    | some u => exact wround_map' hg h0 hs hf (bfsw_over i u (List.mem_of_getElem? h)) L _ (fun _ h => h) (bfsw_over i)
theorem firstOf_map {G : α → Bool} {G' : β → Bool} (hg : ∀ a b, P a → P b → g a = g b → a = b) (h0 : P s) (hs : ∀ q, P q → ∀ l ∈ L, P (f q l)) (hf : ∀ q, P q → ∀ l ∈ L, f' (g q) l = g (f q l)) (hG : ∀ q, P q → G' (g q) = G q) : firstOf f' (g s) L G' = firstOf f s L G := by
  unfold firstOf ordw
  rw [bfsw_map' hg h0 hs hf]
  have : ∀ (ws : List (List Int)), (∀ v ∈ ws, ∀ x ∈ v, x ∈ L) → ws.find? (fun w => G' (nodeOf f' (g s) w)) = ws.find? (fun w => G (nodeOf f s w)) := by
    intro ws
    induction ws with
    | nil => intro _; rfl
    | cons v ws ih =>
      intro h
      have h1 := nodeOf_map h0 hs hf v (h v (by simp))
      rw [List.find?_cons, List.find?_cons, h1.1, hG _ h1.2, ih (fun u hu => h u (by simp [hu]))]
  exact this _ (bfsw_over _)
end maps
def firstA (a : A) (s : Int) (G : Int → Bool) : Option (List Int) := firstOf (goA a) s (letters a.al) G
def firstAB (a b : A) (p : Int × Int) (g : Bool → Bool → Bool) : Option (List Int) := firstOf (step2 a b) p (letters a.al) fun p => g (accA a p.1) (accA b p.2)
def resW (o : Option (List Int)) : Value := .tuple #[.string (txt (o.getD [])), .bool o.isSome]
def cmp2 (a b : A) : Bool := validA a && (validA b && decide (a.al = b.al))
theorem cmp2_spec {a b : A} : cmp2 a b = true ↔ validA a = true ∧ validA b = true ∧ a.al = b.al := by simp [cmp2]
def fAcc (a : A) : Option (List Int) := if validA a = true then firstA a 0 (accA a) else none
def fTwo (a b : A) (g : Bool → Bool → Bool) : Option (List Int) := if cmp2 a b = true then firstAB a b (0, 0) g else none
def fOut (a b : A) : Option (List Int) := fTwo a b fun x y => x && !y
def withinL (a b : A) : Bool := cmp2 a b && !(fOut a b).isSome
theorem firstAB_enc {a b : A} {p : Int × Int} {g : Bool → Bool → Bool} (hv : validA a = true) (hv' : validA b = true) (hp : In2 a b p) : firstOf (fP a b) (enc2 b p) (letters a.al) (fun q => g (accA a (q / (b.next.length : Int))) (accA b (q % (b.next.length : Int)))) = firstAB a b p g :=
  firstOf_map (P := In2 a b) (g := enc2 b) (enc_inj) hp (fun q hq l hl => in2 hv hv' hq ⟨(mem_letters hl).1, (mem_letters hl).2.1⟩) (fun q hq l _ => fP_enc hq l) (fun q hq => by rw [(enc_div hq).1, (enc_div hq).2])
end Go.Proofs.Ytdejmfkpohgamaa
set_option linter.unusedSimpArgs false
set_option linter.unusedVariables false
namespace Go.Proofs.Ytdejmfkpohgamaa
open Go.RowKit
section
variable {w w' : World} {B n : Nat} {e : TypeId} {v : Value} {rows : List (List Value)}
theorem Wid.rowAt (h : Wid w B e n v rows) {i : Int} (h0 : 0 ≤ i) {r : List Value} (hr : rows[i.toNat]? = some r) : ∃ g c, v = .slice (some ⟨g, 0, none⟩) rows.length c ∧ i.toNat < rows.length := by
  have hi := (List.getElem?_eq_some_iff.1 hr).1
  obtain ⟨g, c, hv, _⟩ := h.at h0 (by omega)
  exact ⟨g, c, hv, hi⟩
theorem Wid.cellR {g c : Nat} (hv : v = .slice (some ⟨g, 0, none⟩) rows.length c) (h : Wid w B e n v rows) {i : Int} (h0 : 0 ≤ i) {r : List Value} (hr : rows[i.toNat]? = some r) {j : Nat} (hj : j < n) : w.cell? ⟨g, i.toNat * n + j, none⟩ = r[j]? := by
  have hi := (List.getElem?_eq_some_iff.1 hr).1
  obtain ⟨g', c', hv', _, _, hc⟩ := h.at h0 (by omega)
  rw [hv] at hv'
  injection hv' with hv' _ _
  injection hv' with hv'
  injection hv' with hv' _ _
  subst hv'
  rw [hc j hj, List.getD_eq_getElem?_getD, hr]
  rfl
end
theorem Still.loadAggW {P : Program} {N : Nat} {l : Slots} {w : World} {d : Nat} {ty : TypeId} {pos : String} {after : Array Edge} {g : Option (Nat × Bool)} {t : TypeId} {b o n : Nat} {x : Operand} {cs : List Value} (h1 : Agg P t n) (hx : ev l x = some (.pointer (some ⟨b, o, none⟩))) (hn : cs.length = n) (hc : ∀ j, j < n → w.cell? ⟨b, o + j, none⟩ = cs[j]?) : Still P N l ⟨some d, .load t x, ty, pos, after, g⟩ (.agg cs.toArray) w := fun a ha => by
  have hl : (loadCells ⟨b, o, none⟩ n).run P w = .ok cs.toArray w := by
    rw [← hn]
    refine run_loadCells_list _ _ _ fun j v hv => ?_
    rw [addr_add]
    have hj := (List.getElem?_eq_some_iff.1 hv).1
    rw [hc j (by omega)]
    simpa using hv
  simp [execOp, ha.ev hx, Instr.loadAt, Instr.sureAddr, loadVar, h1.agg, h1.size, hl]
def NetA (w : World) (AU SI I Bo : TypeId) (av : Value) (aas : List A) : Prop :=
  ∃ B rows, Wid w B AU 3 av rows ∧ rows.length = aas.length ∧ ∀ (j : Nat) (a : A), aas[j]? = some a → ∃ nx ac, rows[j]? = some [.int .i64 a.al, nx, ac] ∧ Rows w SI I nx a.next ∧ Bools w Bo ac a.acc
theorem NetA.ext {w w' : World} {AU SI I Bo : TypeId} {av : Value} {aas : List A} (h : NetA w AU SI I Bo av aas) (x : Ext w w') : NetA w' AU SI I Bo av aas := by
  obtain ⟨B, rows, h1, h2, h3⟩ := h
  refine ⟨B, rows, h1.ext x, h2, fun j a ha => ?_⟩
  obtain ⟨nx, ac, g1, g2, g3⟩ := h3 j a ha
  exact ⟨nx, ac, g1, g2.ext x, g3.ext x⟩
theorem NetA.one {w : World} {AU SI I Bo : TypeId} {av : Value} {aas : List A} (h : NetA w AU SI I Bo av aas) : av.oneCell' = true := by
  obtain ⟨B, rows, h1, _⟩ := h
  exact h1.one
def Cell1 (w : World) (p : Addr) (u : Value) : Prop := w.cell? p = some u
theorem Cell1.ext {w w' : World} {p : Addr} {u : Value} (h : Cell1 w p u) (x : Ext w w') : Cell1 w' p u := by
  have hb := World.block_lt_of_cell? w p h
  unfold Cell1 at *
  rw [← h]
  unfold World.cell?
  rw [x.block p.block hb]
theorem at_getD {α : Type} {l : List α} {k : Nat} {d : α} (h : k < l.length) : l[k]? = some (l.getD k d) := by
  rw [List.getD_eq_getElem?_getD, List.getElem?_eq_getElem h]; rfl
def Read3 (w : World) (e3 e2 e1 : TypeId) (v : Value) (xsss : List (List (List Int))) : Prop := ∃ rs, Row w e3 v rs ∧ rs.length = xsss.length ∧ ∀ (i : Nat) (r : Value), rs[i]? = some r → Rows w e2 e1 r (xsss.getD i [])
def RowU (w : World) (U : Nat) (e : TypeId) (v : Value) (vs : List Value) : Prop := Row w e v vs ∧ ∀ k, v.ownBlock = some k → k < U
def RowsU (w : World) (U : Nat) (e e' : TypeId) (v : Value) (xss : List (List Int)) : Prop := ∃ rs, RowU w U e v rs ∧ rs.length = xss.length ∧ ∀ (i : Nat) (r : Value), rs[i]? = some r → RowU w U e' r ((xss.getD i []).map (Value.int .i64))
def Own3 (w : World) (B U : Nat) (e3 e2 e1 : TypeId) (v : Value) (xsss : List (List (List Int))) : Prop := ∃ rs, Own w B e3 v rs ∧ rs.length = xsss.length ∧ ∀ (i : Nat) (r : Value), rs[i]? = some r → RowsU w U e2 e1 r (xsss.getD i [])
section
variable {w w' : World} {B U : Nat} {e e' e1 e2 e3 : TypeId} {v : Value} {vs : List Value} {xss : List (List Int)} {xsss : List (List (List Int))}
theorem RowU.ext (h : RowU w U e v vs) (x : Ext w w') : RowU w' U e v vs := ⟨h.1.ext x, h.2⟩
theorem RowU.apart {g : Nat} (h : RowU w U e v vs) (hg : w.grownBy w' (some g)) (hU : U ≤ g) : RowU w' U e v vs := by
  refine ⟨?_, h.2⟩
  rcases h.1 with h1 | ⟨b, o, c, cur, fr, hv, hb, hx⟩
  · exact .inl h1
  · refine .inr ⟨b, o, c, cur, fr, hv, ?_, hx⟩
    have hlt := h.2 b (by rw [hv]; rfl)
    rw [hg.block b (lt_of_block hb) (fun h => by injection h with h; omega)]
    exact hb
theorem RowU.other {B' : Nat} {t : TypeId} {u : Value} {us : List Value} (h : RowU w U e v vs) (ho : Own w B' t u us) (hg : w.grownBy w' u.ownBlock) (hne : t ≠ e) : RowU w' U e v vs := ⟨h.1.owned ho hg hne, h.2⟩
theorem RowsU.ext (h : RowsU w U e e' v xss) (x : Ext w w') : RowsU w' U e e' v xss := by
  obtain ⟨rs, h1, h2, h3⟩ := h
  exact ⟨rs, h1.ext x, h2, fun i r hr => (h3 i r hr).ext x⟩
theorem RowsU.apart {g : Nat} (h : RowsU w U e e' v xss) (hg : w.grownBy w' (some g)) (hU : U ≤ g) : RowsU w' U e e' v xss := by
  obtain ⟨rs, h1, h2, h3⟩ := h
  exact ⟨rs, h1.apart hg hU, h2, fun i r hr => (h3 i r hr).apart hg hU⟩
theorem RowsU.other {B' : Nat} {t : TypeId} {u : Value} {us : List Value} (h : RowsU w U e e' v xss) (ho : Own w B' t u us) (hg : w.grownBy w' u.ownBlock) (hne : t ≠ e) (hne' : t ≠ e') : RowsU w' U e e' v xss := by
  obtain ⟨rs, h1, h2, h3⟩ := h
  exact ⟨rs, h1.other ho hg hne, h2, fun i r hr => (h3 i r hr).other ho hg hne'⟩
theorem RowsU.up {U' : Nat} (h : RowsU w U e e' v xss) (hU : U ≤ U') : RowsU w U' e e' v xss := by
  obtain ⟨rs, h1, h2, h3⟩ := h
  exact ⟨rs, ⟨h1.1, fun k hk => Nat.lt_of_lt_of_le (h1.2 k hk) hU⟩, h2, fun i r hr => ⟨(h3 i r hr).1, fun k hk => Nat.lt_of_lt_of_le ((h3 i r hr).2 k hk) hU⟩⟩
theorem RowsU.rows (h : RowsU w U e e' v xss) : Rows w e e' v xss := by
  obtain ⟨rs, h1, h2, h3⟩ := h
  exact ⟨rs, h1.1, h2, fun i r hr => (h3 i r hr).1⟩
theorem RowsU.of (h : OwnRows w B w.heap.size e e' v xss) : RowsU w w.heap.size e e' v xss := by
  obtain ⟨rs, h1, h2, h3, h4⟩ := h
  exact ⟨rs, ⟨h1.row, fun k hk => (h1.lt k hk).2⟩, h2, fun i r hr => ⟨(h3 i r hr).1.row, (h3 i r hr).2⟩⟩
theorem Own3.nil (w : World) (B U : Nat) (e3 e2 e1 : TypeId) {v : Value} (h : Own w B e3 v []) : Own3 w B U e3 e2 e1 v [] := ⟨[], h, rfl, by simp⟩
theorem Own3.now (h : Own3 w B U e3 e2 e1 v xsss) (hU : U ≤ w.heap.size := by omega) : Own3 w B w.heap.size e3 e2 e1 v xsss := by
  obtain ⟨rs, h1, h2, h3⟩ := h
  exact ⟨rs, h1, h2, fun i r hr => (h3 i r hr).up hU⟩
theorem OwnRows.nil' (w : World) (B U : Nat) (e e' : TypeId) {v : Value} (h : Own w B e v []) : OwnRows w B U e e' v [] := ⟨[], h, rfl, by simp, by simp⟩
theorem Own3.ext (h : Own3 w B U e3 e2 e1 v xsss) (x : Ext w w') : Own3 w' B U e3 e2 e1 v xsss := by
  obtain ⟨rs, h1, h2, h3⟩ := h
  exact ⟨rs, h1.ext x, h2, fun i r hr => (h3 i r hr).ext x⟩
theorem Own3.apart {B' : Nat} {t : TypeId} {u : Value} {us : List Value} (h : Own3 w B U e3 e2 e1 v xsss) (ho : Own w B' t u us) (hg : w.grownBy w' u.ownBlock) (hB : U ≤ B') (hne : t ≠ e3) : Own3 w' B U e3 e2 e1 v xsss := by
  obtain ⟨rs, h1, h2, h3⟩ := h
  refine ⟨rs, h1.owned ho hg hne, h2, fun i r hr => ?_⟩
  rcases ho.cases with ⟨rfl, rfl⟩ | ⟨g, cap, cs, rfl, hg', hb, _⟩
  · exact (h3 i r hr).ext (Ext.of_grown hg)
  · exact (h3 i r hr).apart (g := g) hg (Nat.le_trans hB hg')
theorem Own3.read (h : Own3 w B U e3 e2 e1 v xsss) : Read3 w e3 e2 e1 v xsss := by
  obtain ⟨rs, h1, h2, h3⟩ := h
  exact ⟨rs, h1.row, h2, fun i r hr => (h3 i r hr).rows⟩
theorem Own3.open (h : Own3 w B U e3 e2 e1 v xsss) (hne : e3 ≠ e2) (hne' : e3 ≠ e1) : ∃ rs, Own w B e3 v rs ∧ rs.length = xsss.length ∧
    ∀ r xss w1 v' w', Ext w w1 → RowsU w1 w1.heap.size e2 e1 r xss → U ≤ w1.heap.size → Own w' B e3 v' (rs ++ [r]) → w1.grownBy w' v.ownBlock → Own3 w' B w'.heap.size e3 e2 e1 v' (xsss ++ [xss]) := by
  obtain ⟨rs, h1, h2, h3⟩ := h
  refine ⟨rs, h1, h2, fun r xss w1 v' w' x hr hU hv hg => ?_⟩
  have hv1 := h1.ext x
  have hsz := World.grownBy.size hg
  refine ⟨rs ++ [r], hv, by simp [h2], fun i q hq => ?_⟩
  rcases Nat.lt_or_ge i rs.length with hi | hi
  · rw [List.getElem?_append_left hi] at hq
    have e4 : (xsss ++ [xss]).getD i [] = xsss.getD i [] := by
      rw [List.getD_eq_getElem?_getD, List.getElem?_append_left (by omega), ← List.getD_eq_getElem?_getD]
    rw [e4]
    exact (((h3 i q hq).ext x).other hv1 hg hne hne').up (by omega)
  · have hi2 := (List.getElem?_eq_some_iff.1 hq).1
    rw [List.length_append, List.length_singleton] at hi2
    obtain rfl : i = rs.length := by omega
    rw [List.getElem?_append_right (Nat.le_refl _), Nat.sub_self] at hq
    have hq' : r = q := by simpa using hq
    subst hq'
    have e4 : (xsss ++ [xss]).getD rs.length [] = xss := by
      rw [h2, List.getD_eq_getElem?_getD, List.getElem?_append_right (Nat.le_refl _), Nat.sub_self]; rfl
    rw [e4]
    exact (hr.other hv1 hg hne hne').up hsz
theorem Read3.ext (h : Read3 w e3 e2 e1 v xsss) (x : Ext w w') : Read3 w' e3 e2 e1 v xsss := by
  obtain ⟨rs, h1, h2, h3⟩ := h
  exact ⟨rs, h1.ext x, h2, fun i r hr => (h3 i r hr).ext x⟩
theorem Read3.at (h : Read3 w e3 e2 e1 v xsss) {i : Int} (hi : 0 ≤ i) (hlt : i.toNat < xsss.length) : ∃ p r, At w e3 v i p r ∧ Rows w e2 e1 r (xsss.getD i.toNat []) := by
  obtain ⟨rs, h1, h2, h3⟩ := h
  have hl : i.toNat < rs.length := by omega
  obtain ⟨p, hp⟩ := h1.at hi hl
  exact ⟨p, rs[i.toNat], hp, h3 _ _ (List.getElem?_eq_getElem hl)⟩
end
def szs (aas : List A) : List Int := aas.map fun a => (a.next.length : Int)
def prodFrom (ss : List Int) (i : Nat) : Int := (ss.drop i).foldr (· * ·) 1
def decL (ss : List Int) (q : Int) : List Int := (List.range ss.length).map fun i => q / prodFrom ss (i + 1) % ss.getD i 0
def decTo (ss : List Int) (q : Int) (m : Nat) : List Int := (List.range ss.length).map fun i => if i < m then 0 else q / prodFrom ss (i + 1) % ss.getD i 0
def encTo (ss st : List Int) : Nat → Int
  | 0 => 0
  | k + 1 => encTo ss st k * ss.getD k 0 + st.getD k 0
def goL (aas : List A) (st : List Int) (x : Int) : List Int := (List.range aas.length).map fun i => goA (aas.getD i zeroA) (st.getD i 0) x
def fN (aas : List A) (q x : Int) : Int := encTo (szs aas) (goL aas (decL (szs aas) q) x) aas.length
def foundN (kd gl : Int) (aas : List A) (st : List Int) : Bool :=
  if kd = 0 then accA (aas.getD 0 zeroA) (st.getD 0 0) else if kd = 1 then accA (aas.getD 0 zeroA) (st.getD 0 0) != accA (aas.getD 1 zeroA) (st.getD 1 0)
  else if kd = 2 then accA (aas.getD 0 zeroA) (st.getD 0 0) && !accA (aas.getD 1 zeroA) (st.getD 1 0) else decide (st.getD 0 0 = gl)
def NetOk (aas : List A) : Prop := (1 ≤ aas.length ∧ aas.length ≤ 2) ∧ ∀ a ∈ aas, validA a = true
def KindOk (kd : Int) (aas : List A) : Prop := kd = 0 ∨ kd = 5 ∨ ((kd = 1 ∨ kd = 2) ∧ aas.length = 2)
theorem szs_length (aas : List A) : (szs aas).length = aas.length := by simp [szs]
theorem szs_at {aas : List A} {k : Nat} (h : k < aas.length) : (szs aas).getD k 0 = ((aas.getD k zeroA).next.length : Int) := by
  simp [szs, List.getD_eq_getElem?_getD, h]
theorem net_at {aas : List A} (h : NetOk aas) {k : Nat} (hk : k < aas.length) : aas[k]? = some (aas.getD k zeroA) ∧ validA (aas.getD k zeroA) = true ∧ 1 ≤ (aas.getD k zeroA).next.length ∧ (aas.getD k zeroA).next.length ≤ 12 ∧ (aas.getD k zeroA).acc.length = (aas.getD k zeroA).next.length := by
  have e : aas[k]? = some (aas.getD k zeroA) := by rw [List.getD_eq_getElem?_getD, List.getElem?_eq_getElem hk]; rfl
  have hv := h.2 _ (List.mem_of_getElem? e)
  have := (validA_spec.1 hv).2
  exact ⟨e, hv, by omega, by omega, by omega⟩
def SzOk (ss : List Int) : Prop := ss.length ≤ 2 ∧ ∀ k, k < ss.length → 1 ≤ ss.getD k 0 ∧ ss.getD k 0 ≤ 12
theorem szs_ok {aas : List A} (h : NetOk aas) : SzOk (szs aas) := ⟨by rw [szs_length]; exact h.1.2, fun k hk => by
  rw [szs_length] at hk
  have := net_at h hk
  rw [szs_at hk]
  omega⟩
theorem prodFrom_step {ss : List Int} {i : Nat} (h : i < ss.length) : prodFrom ss i = ss.getD i 0 * prodFrom ss (i + 1) := by
  unfold prodFrom
  rw [List.drop_eq_getElem_cons h, List.foldr_cons, List.getD_eq_getElem?_getD, List.getElem?_eq_getElem h]
  rfl
theorem prodFrom_end {ss : List Int} {i : Nat} (h : ss.length ≤ i) : prodFrom ss i = 1 := by
  unfold prodFrom
  rw [List.drop_of_length_le h]
  rfl
theorem prodFrom_pos {ss : List Int} (h : SzOk ss) (i : Nat) : 1 ≤ prodFrom ss i ∧ prodFrom ss i ≤ 144 := by
  have h0 : ∀ i, 1 ≤ i → 1 ≤ prodFrom ss i ∧ prodFrom ss i ≤ 12 := fun i hi => by
    rcases Nat.lt_or_ge i ss.length with hl | hl
    · rw [prodFrom_step hl, prodFrom_end (i := i + 1) (by have := h.1; omega), Int.mul_one]
      exact h.2 i hl
    · rw [prodFrom_end hl]; omega
  rcases Nat.eq_zero_or_pos i with rfl | hi
  · rcases Nat.lt_or_ge 0 ss.length with hl | hl
    · rw [prodFrom_step hl]
      have h1 := h.2 0 hl
      have h2 : 1 ≤ prodFrom ss (0 + 1) ∧ prodFrom ss (0 + 1) ≤ 12 := h0 1 (Nat.le_refl _)
      have h3 : 1 * 1 ≤ ss.getD 0 0 * prodFrom ss (0 + 1) := Int.mul_le_mul h1.1 h2.1 (by omega) (by omega)
      have h4 : ss.getD 0 0 * prodFrom ss (0 + 1) ≤ 12 * 12 := Int.mul_le_mul h1.2 h2.2 (by omega) (by omega)
      omega
    · rw [prodFrom_end hl]; omega
  · have := h0 i hi; omega
theorem decTo_zero (ss : List Int) (q : Int) : decTo ss q 0 = decL ss q := by simp [decTo, decL]
theorem decTo_all {ss : List Int} (q : Int) {m : Nat} (h : ss.length ≤ m) : decTo ss q m = List.replicate ss.length 0 := by
  apply List.ext_getElem
  · simp [decTo]
  · intro i h1 h2
    have : i < m := by simp [decTo] at h1; omega
    simp [decTo, this]
theorem decTo_length (ss : List Int) (q : Int) (m : Nat) : (decTo ss q m).length = ss.length := by simp [decTo]
theorem decL_length (ss : List Int) (q : Int) : (decL ss q).length = ss.length := by simp [decL]
theorem decTo_step {ss : List Int} {q : Int} {m : Nat} (h : m < ss.length) : (decTo ss q (m + 1)).set m (q / prodFrom ss (m + 1) % ss.getD m 0) = decTo ss q m := by
  apply List.ext_getElem
  · simp [decTo]
  · intro i h1 h2
    rw [List.getElem_set]
    by_cases hi : m = i
    · subst hi
      simp [decTo]
    · by_cases hl : i < m
      · simp [decTo, hi, hl, Nat.lt_succ_of_lt hl]
      · have hl2 : ¬ i < m + 1 := by omega
        simp [decTo, hi, hl, hl2]
theorem prod_node {ss : List Int} {q : Int} {m : Nat} (h : m < ss.length) (hs : SzOk ss) : q / prodFrom ss (m + 1) / ss.getD m 0 = q / prodFrom ss m := by
  rw [Int.ediv_ediv, if_neg (by have := prodFrom_pos hs (m + 1); omega), Int.sub_zero, prodFrom_step h, Int.mul_comm]
theorem node_bd {ss : List Int} {q : Int} (hs : SzOk ss) (hq : 0 ≤ q ∧ q ≤ 1000) (m : Nat) : 0 ≤ q / prodFrom ss m ∧ q / prodFrom ss m ≤ 1000 := by
  have h1 := prodFrom_pos hs m
  have h2 : 0 ≤ q / prodFrom ss m := Int.ediv_nonneg hq.1 (by omega)
  have h3 := Int.ediv_le_self (a := q) (prodFrom ss m) hq.1
  omega
def StOk (ss st : List Int) : Prop := ∀ k, k < ss.length → 0 ≤ st.getD k 0 ∧ st.getD k 0 < ss.getD k 0
theorem enc_bd {ss st : List Int} (hs : SzOk ss) (h : StOk ss st) {k : Nat} (hk : k < ss.length) : 0 ≤ encTo ss st k ∧ encTo ss st k ≤ 11 ∧ 0 ≤ encTo ss st k * ss.getD k 0 ∧ encTo ss st k * ss.getD k 0 ≤ 132 := by
  have h2 := hs.2 k hk
  have key : 0 ≤ encTo ss st k ∧ encTo ss st k ≤ 11 := by
    cases k with
    | zero => exact ⟨Int.le_refl _, by show (0 : Int) ≤ 11; decide⟩
    | succ k =>
      have : k = 0 := by have := hs.1; omega
      subst this
      have h3 := h 0 (by omega)
      have h4 := hs.2 0 (by omega)
      show 0 ≤ 0 * _ + st.getD 0 0 ∧ 0 * _ + st.getD 0 0 ≤ 11
      rw [Int.zero_mul, Int.zero_add]
      omega
  have h3 : 0 ≤ encTo ss st k * ss.getD k 0 := Int.mul_nonneg key.1 (by omega)
  have h4 : encTo ss st k * ss.getD k 0 ≤ 11 * 12 := Int.mul_le_mul key.2 h2.2 (by omega) (by omega)
  exact ⟨key.1, key.2, h3, by omega⟩
theorem decL_at {ss : List Int} {q : Int} {k : Nat} (h : k < ss.length) : (decL ss q).getD k 0 = q / prodFrom ss (k + 1) % ss.getD k 0 := by
  simp [decL, List.getD_eq_getElem?_getD, h]
theorem decL_ok {ss : List Int} (hs : SzOk ss) (q : Int) : StOk ss (decL ss q) := fun k hk => by
  have h2 := hs.2 k hk
  rw [decL_at hk]
  exact ⟨Int.emod_nonneg _ (by omega), Int.emod_lt_of_pos _ (by omega)⟩
theorem goL_at {aas : List A} {st : List Int} {x : Int} {k : Nat} (h : k < aas.length) : (goL aas st x).getD k 0 = goA (aas.getD k zeroA) (st.getD k 0) x := by
  simp [goL, List.getD_eq_getElem?_getD, h]
theorem st_at {aas : List A} {st : List Int} (h : StOk (szs aas) st) {k : Nat} (hk : k < aas.length) : 0 ≤ st.getD k 0 ∧ st.getD k 0 < ((aas.getD k zeroA).next.length : Int) := by
  have := h k (by rw [szs_length]; exact hk)
  rw [szs_at hk] at this
  exact this
theorem goL_ok {aas : List A} (h : NetOk aas) {st : List Int} (hst : StOk (szs aas) st) {x : Int} (hx : 0 ≤ x ∧ x < 6) : StOk (szs aas) (goL aas st x) := fun k hk => by
  rw [szs_length] at hk
  rw [goL_at hk, szs_at hk]
  exact goA_in (net_at h hk).2.1 (st_at hst hk) hx
theorem enc_lt {ss st : List Int} (hs : SzOk ss) (h : StOk ss st) (h1 : 1 ≤ ss.length) : 0 ≤ encTo ss st ss.length ∧ encTo ss st ss.length < prodFrom ss 0 := by
  rcases Nat.lt_or_ge 1 ss.length with h2 | h2
  · have hl : ss.length = 2 := by have := hs.1; omega
    have a0 := h 0 (by omega)
    have a1 := h 1 (by omega)
    have b0 := hs.2 0 (by omega)
    have b1 := hs.2 1 (by omega)
    rw [hl, prodFrom_step (by omega), prodFrom_step (by omega), prodFrom_end (by omega), Int.mul_one]
    show 0 ≤ (0 * ss.getD 0 0 + st.getD 0 0) * ss.getD 1 0 + st.getD 1 0 ∧ (0 * ss.getD 0 0 + st.getD 0 0) * ss.getD 1 0 + st.getD 1 0 < ss.getD 0 0 * ss.getD (0 + 1) 0
    rw [Int.zero_mul, Int.zero_add]
    have c1 : 0 ≤ st.getD 0 0 * ss.getD 1 0 := Int.mul_nonneg a0.1 (by omega)
    have c2 : (st.getD 0 0 + 1) * ss.getD 1 0 ≤ ss.getD 0 0 * ss.getD 1 0 := Int.mul_le_mul_of_nonneg_right (by omega) (by omega)
    rw [Int.add_mul, Int.one_mul] at c2
    show 0 ≤ st.getD 0 0 * ss.getD 1 0 + st.getD 1 0 ∧ st.getD 0 0 * ss.getD 1 0 + st.getD 1 0 < ss.getD 0 0 * ss.getD 1 0
    omega
  · have hl : ss.length = 1 := by omega
    have a0 := h 0 (by omega)
    rw [hl, prodFrom_step (by omega), prodFrom_end (by omega), Int.mul_one]
    show 0 ≤ 0 * ss.getD 0 0 + st.getD 0 0 ∧ 0 * ss.getD 0 0 + st.getD 0 0 < ss.getD 0 0
    rw [Int.zero_mul, Int.zero_add]
    omega
def total (aas : List A) : Nat := (prodFrom (szs aas) 0).toNat
theorem total_bd {aas : List A} (h : NetOk aas) : 1 ≤ total aas ∧ total aas ≤ 144 ∧ ((total aas : Nat) : Int) = prodFrom (szs aas) 0 := by
  have := prodFrom_pos (szs_ok h) 0
  unfold total
  omega
theorem fN_in {aas : List A} (h : NetOk aas) (q : Int) {x : Int} (hx : 0 ≤ x ∧ x < 6) : 0 ≤ fN aas q x ∧ fN aas q x < (total aas : Int) := by
  have h1 := enc_lt (szs_ok h) (goL_ok h (decL_ok (szs_ok h) q) hx) (by rw [szs_length]; exact h.1.1)
  rw [szs_length] at h1
  rw [(total_bd h).2.2]
  exact h1
def prodTo (ss : List Int) (k : Nat) : Int := (ss.take k).foldl (· * ·) 1
theorem prodTo_succ {ss : List Int} {k : Nat} (h : k < ss.length) : prodTo ss (k + 1) = prodTo ss k * ss.getD k 0 := by
  unfold prodTo
  rw [take_snoc 0 h, List.foldl_append]
  rfl
theorem prodTo_bd {ss : List Int} (hs : SzOk ss) {k : Nat} (hk : k < ss.length) : 1 ≤ prodTo ss k ∧ prodTo ss k ≤ 12 ∧ 0 ≤ prodTo ss k * ss.getD k 0 ∧ prodTo ss k * ss.getD k 0 ≤ 144 := by
  have h2 := hs.2 k hk
  have key : 1 ≤ prodTo ss k ∧ prodTo ss k ≤ 12 := by
    cases k with
    | zero => show (1 : Int) ≤ 1 ∧ (1 : Int) ≤ 12; decide
    | succ k =>
      have : k = 0 := by have := hs.1; omega
      subst this
      rw [prodTo_succ (by omega)]
      have h4 := hs.2 0 (by omega)
      show 1 ≤ 1 * _ ∧ 1 * _ ≤ 12
      rw [Int.one_mul]
      exact h4
  have h3 : 0 ≤ prodTo ss k * ss.getD k 0 := Int.mul_nonneg (by omega) (by omega)
  have h4 : prodTo ss k * ss.getD k 0 ≤ 12 * 12 := Int.mul_le_mul key.2 h2.2 (by omega) (by omega)
  exact ⟨key.1, key.2, h3, by omega⟩
theorem foldl_mul (l : List Int) : ∀ (c : Int), l.foldl (· * ·) c = c * l.foldr (· * ·) 1 := by
  induction l with
  | nil => intro c; simp
  | cons x l ih => intro c; rw [List.foldl_cons, ih, List.foldr_cons, Int.mul_assoc]
theorem prodTo_all {ss : List Int} {k : Nat} (h : ss.length ≤ k) : prodTo ss k = prodFrom ss 0 := by
  unfold prodTo prodFrom
  rw [List.take_of_length_le h, foldl_mul, Int.one_mul, List.drop_zero]
def movesN (aas : List A) (L : List Int) : List (List (List Int)) := (List.range (total aas)).map fun (q : Nat) => L.map fun x => [fN aas (q : Int) x]
theorem moves_at {aas : List A} {L : List Int} {q : Int} (hq : 0 ≤ q ∧ q < (total aas : Int)) : (movesN aas L).getD q.toNat [] = L.map fun x => [fN aas q x] := by
  have h : q.toNat < total aas := by omega
  have e : ((q.toNat : Nat) : Int) = q := Int.toNat_of_nonneg hq.1
  simp [movesN, List.getD_eq_getElem?_getD, h, e]
section
variable {f : Int → Int → Int} {L : List Int} {G : Int → Bool} {n : Nat}
def dsAt (f : Int → Int → Int) (L : List Int) (G : Int → Bool) (n d i : Nat) : List Int := (List.range n).map fun (q : Nat) => if q < i then disTo f L G (d + 1) (q : Int) else disTo f L G d (q : Int)
def dsOf (f : Int → Int → Int) (L : List Int) (G : Int → Bool) (n d : Nat) : List Int := (List.range n).map fun (q : Nat) => disTo f L G d (q : Int)
theorem dsAt_zero (d : Nat) : dsAt f L G n d 0 = dsOf f L G n d := by simp [dsAt, dsOf]
theorem dsAt_all {d i : Nat} (h : n ≤ i) : dsAt f L G n d i = dsOf f L G n (d + 1) := by
  unfold dsAt dsOf
  refine List.map_congr_left fun q hq => ?_
  have := List.mem_range.1 hq
  rw [if_pos (by omega)]
theorem dsAt_length (d i : Nat) : (dsAt f L G n d i).length = n := by simp [dsAt]
theorem dsOf_length (d : Nat) : (dsOf f L G n d).length = n := by simp [dsOf]
theorem dsAt_get {d i : Nat} {q : Int} (hq : 0 ≤ q ∧ q < n) : (dsAt f L G n d i).getD q.toNat 0 = if q.toNat < i then disTo f L G (d + 1) q else disTo f L G d q := by
  have h : q.toNat < n := by omega
  have e : ((q.toNat : Nat) : Int) = q := Int.toNat_of_nonneg hq.1
  simp [dsAt, List.getD_eq_getElem?_getD, h, e]
theorem dsOf_get {d : Nat} {q : Int} (hq : 0 ≤ q ∧ q < n) : (dsOf f L G n d).getD q.toNat 0 = disTo f L G d q := by
  have h : q.toNat < n := by omega
  have e : ((q.toNat : Nat) : Int) = q := Int.toNat_of_nonneg hq.1
  simp [dsOf, List.getD_eq_getElem?_getD, h, e]
theorem dsAt_keep {d i : Nat} (h : disTo f L G (d + 1) (i : Int) = disTo f L G d (i : Int)) : dsAt f L G n d (i + 1) = dsAt f L G n d i := by
  unfold dsAt
  refine List.map_congr_left fun q hq => ?_
  by_cases hi : q = i
  · subst hi
    rw [if_pos (by omega), if_neg (by omega), h]
  · by_cases hl : q < i
    · rw [if_pos (by omega), if_pos hl]
    · rw [if_neg (by omega), if_neg hl]
theorem dsAt_set {d i : Nat} (hi : i < n) : (dsAt f L G n d i).set i (disTo f L G (d + 1) (i : Int)) = dsAt f L G n d (i + 1) := by
  apply List.ext_getElem
  · simp [dsAt]
  · intro j h1 h2
    rw [List.getElem_set]
    by_cases hj : i = j
    · subst hj
      simp [dsAt]
    · by_cases hl : j < i
      · simp [dsAt, hj, hl, Nat.lt_succ_of_lt hl]
      · have hl2 : ¬ j < i + 1 := by omega
        simp [dsAt, hj, hl, hl2]
theorem dis_same {d : Nat} (t : Int) : disTo f L G (d + 1) t = (d : Int) ↔ disTo f L G d t = (d : Int) := by
  rw [disTo_eq, disTo_eq]
  constructor
  · rintro ⟨_, h⟩; exact ⟨Nat.le_refl _, h⟩
  · rintro ⟨_, h⟩; exact ⟨Nat.le_succ _, h⟩
theorem any_same {α : Type} {p q : α → Bool} : ∀ {l : List α}, (∀ x ∈ l, p x = q x) → l.any p = l.any q
  | [], _ => rfl
  | x :: l, h => by rw [List.any_cons, List.any_cons, h x (by simp), any_same fun y hy => h y (by simp [hy])]
def nearX (ds : List Int) (xss : List (List Int)) (d : Int) : Bool := xss.any fun r => r.any fun x => decide (ds.getD x.toNat 0 = d)
theorem near_yes {ds : List Int} {xss : List (List Int)} {d : Int} {k i : Nat} (hk : k < xss.length) (hi : i < (xss.getD k []).length) (h : ds.getD ((xss.getD k []).getD i 0).toNat 0 = d) : nearX ds xss d = true :=
  List.any_eq_true.2 ⟨_, getD_mem hk, List.any_eq_true.2 ⟨_, getD_mem hi, decide_eq_true h⟩⟩
theorem nearX_eq {d i : Nat} (hf : ∀ q l, l ∈ L → 0 ≤ f q l ∧ f q l < n) (q : Int) : nearX (dsAt f L G n d i) (L.map fun x => [f q x]) (d : Int) = near f L G d q := by
  unfold nearX near
  rw [List.any_map]
  have h : ∀ l ∈ L, ((fun r => List.any r fun x => decide ((dsAt f L G n d i).getD x.toNat 0 = (d : Int))) ∘ fun x => [f q x]) l = decide (disTo f L G d (f q l) = (d : Int)) := fun l hl => by
    have hl2 := hf q l hl
    simp only [Function.comp, List.any_cons, List.any_nil, Bool.or_false]
    rw [dsAt_get hl2]
    by_cases hi : (f q l).toNat < i
    · rw [if_pos hi]
      by_cases hd : disTo f L G d (f q l) = (d : Int)
      · rw [decide_eq_true hd, decide_eq_true (dis_same _ |>.2 hd)]
      · rw [decide_eq_false hd, decide_eq_false (fun hc => hd (dis_same _ |>.1 hc))]
    · rw [if_neg hi]
  exact any_same h
theorem dsOf_init : dsOf f L G n 0 = (List.range n).map fun (q : Nat) => if G (q : Int) then (0 : Int) else -1 := by
  unfold dsOf
  exact List.map_congr_left fun q _ => disTo_zero
theorem moves_f {q : Int} (hq : 0 ≤ q ∧ q < n) : ((List.range n).map fun (q : Nat) => L.map fun x => [f (q : Int) x]).getD q.toNat [] = L.map fun x => [f q x] := by
  have h : q.toNat < n := by omega
  have e : ((q.toNat : Nat) : Int) = q := Int.toNat_of_nonneg hq.1
  simp [List.getD_eq_getElem?_getD, h, e]
theorem mv_ok (hf : ∀ q l, l ∈ L → 0 ≤ f q l ∧ f q l < n) (hLl : L.length ≤ 100) {d i : Nat} {q : Int} (hq : 0 ≤ q ∧ q < n) : ∀ r ∈ ((List.range n).map fun (q : Nat) => L.map fun x => [f (q : Int) x]).getD q.toNat [], r.length ≤ 1000 ∧ ∀ x ∈ r, 0 ≤ x ∧ x < ((dsAt f L G n d i).length : Int) := by
  rw [moves_f hq, dsAt_length]
  intro r hr
  obtain ⟨x, hx, rfl⟩ := List.mem_map.1 hr
  refine ⟨by simp, fun y hy => ?_⟩
  rw [List.mem_singleton.1 hy]
  exact hf q x hx
theorem dsOf_same {d : Nat} (h : ∀ j : Nat, j < n → disTo f L G (d + 1) (j : Int) = disTo f L G d (j : Int)) : dsOf f L G n (d + 1) = dsOf f L G n d := List.map_congr_left fun q hq => h q (List.mem_range.1 hq)
theorem dis_all {d : Nat} (h : ∀ j : Nat, j < n → disTo f L G (d + 1) (j : Int) = disTo f L G d (j : Int)) : ∀ q, 0 ≤ q ∧ q < (n : Int) → disTo f L G (d + 1) q = disTo f L G d q := fun q hq => by
  have := h q.toNat (by omega)
  rwa [Int.toNat_of_nonneg hq.1] at this
theorem dis_more {d k k' : Nat} {i : Int} (ei : ((k : Nat) : Int) = i) (h : ∀ j : Nat, j < k → disTo f L G (d + 1) (j : Int) = disTo f L G d (j : Int)) (h2 : disTo f L G (d + 1) (k : Int) = disTo f L G d (k : Int)) (e : k' = k + 1) : ∀ j : Nat, j < k' → disTo f L G (d + 1) (j : Int) = disTo f L G d (j : Int) := fun j hj => by
  rcases Nat.lt_or_ge j k with h3 | h3
  · exact h j h3
  · obtain rfl : j = k := by omega
    exact h2
def todo (f : Int → Int → Int) (L : List Int) (G : Int → Bool) (n d i : Nat) : Nat := (dsAt f L G n d i).countP fun x => decide (x < 0)
theorem dsAt_split {d i : Nat} (hi : i < n) : dsAt f L G n d i = (dsAt f L G n d i).take i ++ disTo f L G d (i : Int) :: (dsAt f L G n d i).drop (i + 1) := by
  have h1 : i < (dsAt f L G n d i).length := by rw [dsAt_length]; exact hi
  have e1 : dsAt f L G n d i = (dsAt f L G n d i).take i ++ (dsAt f L G n d i).drop i := (List.take_append_drop i _).symm
  have e2 : (dsAt f L G n d i).drop i = disTo f L G d (i : Int) :: (dsAt f L G n d i).drop (i + 1) := by
    rw [List.drop_eq_getElem_cons h1]
    congr 1
    simp [dsAt]
  rw [← e2]
  exact e1
theorem todo_keep {d i : Nat} (h : disTo f L G (d + 1) (i : Int) = disTo f L G d (i : Int)) : todo f L G n d (i + 1) = todo f L G n d i := by unfold todo; rw [dsAt_keep h]
theorem todo_less {d i : Nat} (hi : i < n) (h : disTo f L G d (i : Int) < 0) (h2 : 0 ≤ disTo f L G (d + 1) (i : Int)) : todo f L G n d (i + 1) + 1 = todo f L G n d i := by
  unfold todo
  have e1 := dsAt_split (f := f) (L := L) (G := G) (d := d) hi
  rw [← dsAt_set hi, e1, List.set_append_right _ _ (by rw [List.length_take, dsAt_length]; omega)]
  rw [List.length_take, dsAt_length, Nat.min_eq_left (by omega), Nat.sub_self, List.set_cons_zero]
  simp only [List.countP_append, List.countP_cons]
  rw [if_neg (by simp; omega), if_pos (by simpa using h)]
  omega
theorem todo_round (d : Nat) (i : Nat) (h : n ≤ i) : todo f L G n d i = todo f L G n (d + 1) 0 := by unfold todo; rw [dsAt_all h, dsAt_zero]
theorem todo_le (d i : Nat) : todo f L G n d i ≤ n := by
  unfold todo
  refine Nat.le_trans List.countP_le_length ?_
  rw [dsAt_length]
  exact Nat.le_refl _
def dsInit (G : Int → Bool) (n i : Nat) : List Int := (List.range n).map fun (q : Nat) => if q < i then (if G (q : Int) then 0 else -1) else 0
theorem dsInit_zero : dsInit G n 0 = List.replicate n 0 := by
  apply List.ext_getElem <;> simp [dsInit]
theorem dsInit_length (i : Nat) : (dsInit G n i).length = n := by simp [dsInit]
theorem dsInit_all {i : Nat} (h : n ≤ i) : dsInit G n i = dsOf f L G n 0 := by
  rw [dsOf_init]
  unfold dsInit
  refine List.map_congr_left fun q hq => ?_
  have := List.mem_range.1 hq
  rw [if_pos (by omega)]
theorem dsInit_set {i : Nat} (hi : i < n) {x : Int} (hx : x = if G (i : Int) then 0 else -1) : (dsInit G n i).set i x = dsInit G n (i + 1) := by
  apply List.ext_getElem
  · simp [dsInit]
  · intro j h1 h2
    rw [List.getElem_set]
    by_cases hj : i = j
    · subst hj
      simp [dsInit, hx]
    · by_cases hl : j < i
      · simp [dsInit, hj, hl, Nat.lt_succ_of_lt hl]
      · have hl2 : ¬ j < i + 1 := by omega
        simp [dsInit, hj, hl, hl2]
theorem dsInit_F {v : Int} {i : Nat} (hi : i < n) (hv : ((i : Nat) : Int) = v) (h : G v = false) : ((dsInit G n i).map (Value.int .i64)).set i (.int .i64 (-1)) = (dsInit G n (i + 1)).map (Value.int .i64) := by
  rw [← List.map_set, dsInit_set hi (by rw [hv, h]; rfl)]
theorem dsInit_T {v : Int} {i : Nat} (hi : i < n) (hv : ((i : Nat) : Int) = v) (h : G v = true) : (((dsInit G n i).map (Value.int .i64)).set i (.int .i64 (-1))).set i (.int .i64 0) = (dsInit G n (i + 1)).map (Value.int .i64) := by
  rw [List.set_set, ← List.map_set, dsInit_set hi (by rw [hv, h]; rfl)]
theorem disTo_next {d n : Nat} {q : Int} (h : disTo f L G d q = ((n + 1 : Nat) : Int)) : ∃ l ∈ L, disTo f L G d (f q l) = (n : Int) := by
  have h1 := disTo_eq.1 h
  obtain ⟨l, hl, hl2⟩ := List.any_eq_true.1 h1.2.1
  refine ⟨l, hl, disTo_eq.2 ⟨by omega, hl2, fun m hm => ?_⟩⟩
  cases hm2 : lev f L G m (f q l) with
  | false => rfl
  | true =>
    have h5 : lev f L G (m + 1) q = true := List.any_eq_true.2 ⟨l, hl, hm2⟩
    rw [h1.2.2 (m + 1) (by omega)] at h5
    cases h5
theorem find_first {α : Type} {p : α → Bool} {d : α} : ∀ {L : List α} {k : Nat}, k < L.length → (∀ j, j < k → p (L.getD j d) = false) → p (L.getD k d) = true → L.find? p = some (L.getD k d)
  | x :: L, 0, _, _, h => by
    have h' : p x = true := h
    rw [List.find?_cons_of_pos h']; rfl
  | x :: L, k + 1, hk, hno, h => by
    have h0 : p x = false := hno 0 (by omega)
    rw [List.find?_cons_of_neg (by rw [h0]; decide)]
    exact find_first (by simpa using hk) (fun j hj => hno (j + 1) (by omega)) h
theorem gre_next {dis : Int → Int} {m k : Nat} {q : Int} (hk : k < L.length) (hno : ∀ j, j < k → ¬ dis (f q (L.getD j 0)) = (m : Int)) (h : dis (f q (L.getD k 0)) = (m : Int)) : gre f L dis (m + 1) q = L.getD k 0 :: gre f L dis m (f q (L.getD k 0)) := by
  rw [gre, find_first (p := fun l => decide (dis (f q l) = (m : Int))) hk (fun j hj => decide_eq_false (hno j hj)) (decide_eq_true h)]
theorem next_lt {d k : Nat} {q e : Int} (hq : disTo f L G d q = e) (he : 0 < e) (hno : ∀ j, j < k → ¬ disTo f L G d (f q (L.getD j 0)) = e - 1) : k < L.length := by
  obtain ⟨m, rfl⟩ : ∃ m : Nat, e = ((m + 1 : Nat) : Int) := ⟨(e - 1).toNat, by omega⟩
  obtain ⟨l, hl, h⟩ := disTo_next hq
  rcases Nat.lt_or_ge k L.length with h1 | h1
  · exact h1
  · obtain ⟨j, hj, rfl⟩ := List.getElem_of_mem hl
    refine absurd ?_ (hno j (by omega))
    rw [List.getD_eq_getElem?_getD, List.getElem?_eq_getElem hj]
    show disTo f L G d (f q L[j]) = _
    rw [h]
    omega
theorem disTo_le {d : Nat} {q : Int} : disTo f L G d q ≤ d := by
  rcases disTo_cases (f := f) (L := L) (G := G) d q with h | ⟨n, h, h2⟩ <;> omega
theorem ord_range {s : Int} (hf : ∀ q l, l ∈ L → 0 ≤ f q l ∧ f q l < (n : Int)) (hs : 0 ≤ s ∧ s < (n : Int)) : (ord f s L).length ≤ n := by
  have h := bfsw_range (f := f) (s := s) (L := L) (n := n) (D := fun q => 0 ≤ q ∧ q < (n : Int)) hs (fun q _ x hx => hf q x hx) (fun q hq => hq) (many 0)
  rw [bfsw_length] at h
  exact h
theorem row_get {q : Int} {k : Nat} (hk : k < L.length) : (L.map fun x => [f q x]).getD k [] = [f q (L.getD k 0)] := by
  simp [List.getD_eq_getElem?_getD, hk]
end
theorem Ret.resW {P : Program} {k : FuncId} {args : Array Value} {w0 : World} {X Y : Option (List Int)} (h : Ret P k args w0 (fun v w => v = Go.Proofs.Ytdejmfkpohgamaa.resW X ∧ Ext w0 w)) (e : X = Y) : Ret P k args w0 (fun v w => v = Go.Proofs.Ytdejmfkpohgamaa.resW Y ∧ Ext w0 w) := by rw [← e]; exact h
section
variable {w : World} {B : Nat} {AU SI I Bo : TypeId} {v nx ac nx' ac' : Value} {a b : A}
theorem NetA.of2 (hW : Wid w B AU 3 v [[.int .i64 a.al, nx, ac], [.int .i64 b.al, nx', ac']]) (h1 : Rows w SI I nx a.next) (h2 : Bools w Bo ac a.acc) (h1' : Rows w SI I nx' b.next) (h2' : Bools w Bo ac' b.acc) : NetA w AU SI I Bo v [a, b] :=
  ⟨B, _, hW, rfl, fun j x hx => by
    match j, hx with
    | 0, hx => obtain rfl : a = x := by simpa using hx
               exact ⟨nx, ac, rfl, h1, h2⟩
    | 1, hx => obtain rfl : b = x := by simpa using hx
               exact ⟨nx', ac', rfl, h1', h2'⟩
    | j + 2, hx => simp at hx⟩
theorem netOk2 (h : validA a = true) (h' : validA b = true) : NetOk [a, b] := ⟨⟨by show 1 ≤ 2; decide, Nat.le_refl _⟩, fun x hx => by
  rcases List.mem_cons.1 hx with rfl | hx
  · exact h
  · rw [List.mem_singleton.1 hx]; exact h'⟩
theorem stOk2 {i j : Int} (h : 0 ≤ i ∧ i < a.next.length) (h' : 0 ≤ j ∧ j < b.next.length) : StOk (szs [a, b]) [i, j] := fun k hk => by
  have : k = 0 ∨ k = 1 := by simp [szs] at hk; omega
  rcases this with rfl | rfl
  · exact h
  · exact h'
theorem dec2 {p : Int × Int} (h : In2 a b p) : decL (szs [a, b]) (enc2 b p) = [p.1, p.2] := by
  show [enc2 b p / ((b.next.length : Int) * 1) % (a.next.length : Int), enc2 b p / 1 % (b.next.length : Int)] = [p.1, p.2]
  rw [Int.mul_one, Int.ediv_one, (enc_div h).1, (enc_div h).2, Int.emod_eq_of_lt h.1.1 h.1.2]
theorem fN2 {p : Int × Int} {l : Int} (h : In2 a b p) : fN [a, b] (enc2 b p) l = enc2 b (step2 a b p l) := by
  unfold fN
  rw [dec2 h]
  show ((0 : Int) * _ + goA a p.1 l) * (b.next.length : Int) + goA b p.2 l = _
  rw [Int.zero_mul, Int.zero_add]
  rfl
theorem net2 {i j : Int} {g : Bool → Bool → Bool} {kd gl : Int} (hv : validA a = true) (hv' : validA b = true) (hp : In2 a b (i, j)) (hG : ∀ p q, foundN kd gl [a, b] [p, q] = g (accA a p) (accA b q)) : firstOf (fN [a, b]) (encTo (szs [a, b]) [i, j] (szs [a, b]).length) (letters a.al) (fun q => foundN kd gl [a, b] (decL (szs [a, b]) q)) = firstAB a b (i, j) g := by
  have e : encTo (szs [a, b]) [i, j] (szs [a, b]).length = enc2 b (i, j) := by
    show ((0 : Int) * _ + i) * (b.next.length : Int) + j = _
    rw [Int.zero_mul, Int.zero_add]; rfl
  rw [e]
  exact firstOf_map (P := In2 a b) (g := enc2 b) enc_inj hp (fun q hq l hl => in2 hv hv' hq ⟨(mem_letters hl).1, (mem_letters hl).2.1⟩) (fun q hq l _ => fN2 hq) (fun q hq => by show foundN kd gl [a, b] (decL (szs [a, b]) (enc2 b q)) = _; rw [dec2 hq, hG])
end
end Go.Proofs.Ytdejmfkpohgamaa
set_option linter.unusedSimpArgs false
set_option linter.unusedVariables false
namespace Go.Proofs.Ytdejmfkpohgamaa
def IsFirst (L : List Int) (G : List Int → Bool) : Option (List Int) → Prop
  | some w => (∀ x ∈ w, x ∈ L) ∧ G w = true ∧ ∀ v : List Int, (∀ x ∈ v, x ∈ L) → G v = true → sle w v
  | none => ∀ v : List Int, (∀ x ∈ v, x ∈ L) → G v = false
theorem IsFirst.uniq {L : List Int} {G G' : List Int → Bool} {o o' : Option (List Int)} (h : IsFirst L G o) (h' : IsFirst L G' o') (hg : ∀ v : List Int, (∀ x ∈ v, x ∈ L) → G v = G' v) : o = o' := by
  cases o with
  | none =>
    cases o' with
    | none => rfl
    | some w =>
      have := h w h'.1
      rw [hg w h'.1, h'.2.1] at this
      cases this
  | some w =>
    cases o' with
    | none =>
      have := h' w h.1
      rw [← hg w h.1, h.2.1] at this
      cases this
    | some w' =>
      have h1 := h.2.2 w' h'.1 (by rw [hg w' h'.1]; exact h'.2.1)
      have h2 := h'.2.2 w h.1 (by rw [← hg w h.1]; exact h.2.1)
      rw [sle_antisymm h1 h2]
theorem IsFirst.isSome {L : List Int} {G : List Int → Bool} {o : Option (List Int)} (h : IsFirst L G o) : o.isSome = true ↔ ∃ v : List Int, (∀ x ∈ v, x ∈ L) ∧ G v = true := by
  cases o with
  | none => exact ⟨fun h' => (by cases h'), fun ⟨v, hv, hg⟩ => by rw [h v hv] at hg; cases hg⟩
  | some w => exact ⟨fun _ => ⟨w, h.1, h.2.1⟩, fun _ => rfl⟩
theorem IsFirst.isNone {L : List Int} {G : List Int → Bool} {o : Option (List Int)} (h : IsFirst L G o) : o.isSome = false ↔ ∀ v : List Int, (∀ x ∈ v, x ∈ L) → G v = false := by
  cases o with
  | none => exact ⟨fun _ => h, fun _ => rfl⟩
  | some w => exact ⟨fun h' => (by cases h'), fun h' => by have := h' w h.1; rw [h.2.1] at this; cases this⟩
section
variable {a b : A}
theorem node2 : ∀ (w : List Int) (p : Int × Int), nodeOf (step2 a b) p w = (run a p.1 w, run b p.2 w)
  | [], p => rfl
  | x :: w, p => node2 w (step2 a b p x)
theorem ord1_le (hv : validA a = true) {s : Int} (hs : 0 ≤ s ∧ s < a.next.length) : (ord (goA a) s (letters a.al)).length ≤ a.next.length := by
  have h := bfsw_range (f := goA a) (s := s) (L := letters a.al) (n := a.next.length) (D := fun q => 0 ≤ q ∧ q < (a.next.length : Int)) hs (fun q hq x hx => goA_in hv hq ⟨(mem_letters hx).1, (mem_letters hx).2.1⟩) (fun q hq => hq) (many 0)
  rw [bfsw_length] at h
  exact h
theorem ord2_le (hv : validA a = true) (hv' : validA b = true) {p : Int × Int} (hp : In2 a b p) {al : Int} : (ord (step2 a b) p (letters al)).length ≤ a.next.length * b.next.length := by
  have h := bfsw_range (f := fP a b) (s := enc2 b p) (L := letters al) (n := a.next.length * b.next.length) (D := InP a b) (inP_enc hp) (fun q hq x hx => fP_in hv hv' hq ⟨(mem_letters hx).1, (mem_letters hx).2.1⟩) (fun q hq => hq) (many 0)
  rw [bfsw_map' (P := In2 a b) enc_inj hp (fun q hq l hl => in2 hv hv' hq ⟨(mem_letters hl).1, (mem_letters hl).2.1⟩) (fun q hq l _ => fP_enc hq l), bfsw_length] at h
  exact h
theorem isFirst_A (hv : validA a = true) {s : Int} (hs : 0 ≤ s ∧ s < a.next.length) (G : Int → Bool) : IsFirst (letters a.al) (fun w => G (run a s w)) (firstA a s G) := by
  have hl : (ord (goA a) s (letters a.al)).length ≤ 200 := by have := ord1_le hv hs; have := (validA_spec.1 hv).2.1; omega
  unfold firstA
  cases h : firstOf (goA a) s (letters a.al) G with
  | none => exact first_none (letters_sorted _) hl h
  | some w =>
    have := first_some (letters_sorted _) hl h
    exact ⟨ordw_over (letters_sorted _) this.1, this.2.1, this.2.2⟩
theorem isFirst_AB (hv : validA a = true) (hv' : validA b = true) {p : Int × Int} (hp : In2 a b p) (g : Bool → Bool → Bool) : IsFirst (letters a.al) (fun w => g (accA a (run a p.1 w)) (accA b (run b p.2 w))) (firstAB a b p g) := by
  have hl : (ord (step2 a b) p (letters a.al)).length ≤ 200 := by have := ord2_le hv hv' hp (al := a.al); have := le144 hv hv'; omega
  unfold firstAB
  cases h : firstOf (step2 a b) p (letters a.al) (fun p => g (accA a p.1) (accA b p.2)) with
  | none =>
    intro v hv
    have := first_none (letters_sorted _) hl h v hv
    rw [node2] at this
    exact this
  | some w =>
    have h1 := first_some (letters_sorted _) hl h
    rw [node2] at h1
    refine ⟨ordw_over (letters_sorted _) h1.1, h1.2.1, fun v hv hg => h1.2.2 v hv ?_⟩
    rw [node2]
    exact hg
theorem isFirst_two (hC : cmp2 a b = true) (g : Bool → Bool → Bool) : IsFirst (letters a.al) (fun w => g (accA a (run a 0 w)) (accA b (run b 0 w))) (fTwo a b g) := by
  have h := cmp2_spec.1 hC
  rw [fTwo, if_pos hC]
  exact isFirst_AB h.1 h.2.1 (in_zero h.1 h.2.1) g
end
end Go.Proofs.Ytdejmfkpohgamaa
