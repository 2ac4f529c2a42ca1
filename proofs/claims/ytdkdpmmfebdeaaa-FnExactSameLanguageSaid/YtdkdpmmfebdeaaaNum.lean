/-
  More laws for the calculus of slots: rows of rows beside a slice of the same kind that grows; what a function that numbers hands back. Nothing of any one program stands here.
-/
import Derived.Test.YtdkdpmmfebdeaaaWide
import Derived.Test.YtdkdpmmfebdeaaaProd
set_option linter.unusedSimpArgs false
set_option linter.unusedVariables false
namespace Go.Proofs.Ytdkdpmmfebdeaaa
open Go.RowKit

def encI (x : Int) : Value := .int .i64 x
/-- Rows of numbers of the call's own; none of them lies where z lies. -/
def OwnRowsZ (w : World) (B U : Nat) (e e' : TypeId) (v : Value) (xss : List (List Int)) (z : Value) : Prop :=
  ∃ rs, Own w B e v rs ∧ rs.length = xss.length ∧ (∀ i r, rs[i]? = some r → Own w B e' r ((xss.getD i []).map (Value.int .i64)) ∧ ∀ k, r.ownBlock = some k → k < U ∧ z.ownBlock ≠ some k) ∧
    ∀ (i j : Nat) (r r' : Value), rs[i]? = some r → rs[j]? = some r' → i ≠ j → ∀ k, r.ownBlock = some k → r'.ownBlock ≠ some k
section
variable {w w' : World} {B U : Nat} {e e' : TypeId} {v z : Value} {xss : List (List Int)}
theorem OwnRowsZ.nil (w : World) (B U : Nat) (e e' : TypeId) (z : Value) : OwnRowsZ w B U e e' (.slice none 0 0) [] z := ⟨[], Own.nil _ _ _, rfl, by simp, by simp⟩
theorem OwnRowsZ.to (h : OwnRowsZ w B U e e' v xss z) : OwnRows w B U e e' v xss := by
  obtain ⟨rs, h1, h2, h3, h4⟩ := h
  exact ⟨rs, h1, h2, fun i r hr => ⟨(h3 i r hr).1, fun k hk => ((h3 i r hr).2 k hk).1⟩, h4⟩
theorem OwnRowsZ.ext (h : OwnRowsZ w B U e e' v xss z) (x : Ext w w') : OwnRowsZ w' B U e e' v xss z := by
  obtain ⟨rs, h1, h2, h3, h4⟩ := h
  exact ⟨rs, h1.ext x, h2, fun i r hr => ⟨(h3 i r hr).1.ext x, (h3 i r hr).2⟩, h4⟩
theorem OwnRowsZ.up {U' : Nat} (h : OwnRowsZ w B U e e' v xss z) (hU : U ≤ U') : OwnRowsZ w B U' e e' v xss z := by
  obtain ⟨rs, h1, h2, h3, h4⟩ := h
  exact ⟨rs, h1, h2, fun i r hr => ⟨(h3 i r hr).1, fun k hk => ⟨Nat.lt_of_lt_of_le ((h3 i r hr).2 k hk).1 hU, ((h3 i r hr).2 k hk).2⟩⟩, h4⟩
theorem OwnRowsZ.now (h : OwnRowsZ w B U e e' v xss z) : OwnRowsZ w B w.heap.size e e' v xss z := by
  obtain ⟨rs, h1, h2, h3, h4⟩ := h
  exact ⟨rs, h1, h2, fun i r hr => ⟨(h3 i r hr).1, fun k hk => ⟨((h3 i r hr).1.lt k hk).2, ((h3 i r hr).2 k hk).2⟩⟩, h4⟩
theorem OwnRowsZ.mapped {κ : Type} {enc : κ → Value} {b : Nat} {xs : List κ} (h : OwnRowsZ w B U e e' v xss z) (hm : MapN enc w b xs) (hg : w.grownBy w' (some b)) : OwnRowsZ w' B U e e' v xss z := by
  obtain ⟨rs, h1, h2, h3, h4⟩ := h
  exact ⟨rs, h1.mapped hm hg, h2, fun i r hr => ⟨(h3 i r hr).1.mapped hm hg, (h3 i r hr).2⟩, h4⟩
/-- A younger row is written. -/
theorem OwnRowsZ.apart {B' : Nat} {u : Value} {us : List Value} (h : OwnRowsZ w B U e e' v xss z) (ho : Own w B' e' u us) (hg : w.grownBy w' u.ownBlock) (hB : U ≤ B') (hne : e' ≠ e) : OwnRowsZ w' B U e e' v xss z := by
  obtain ⟨rs, h1, h2, h3, h4⟩ := h
  refine ⟨rs, h1.owned ho hg hne, h2, fun i r hr => ⟨(h3 i r hr).1.grown hg (fun k hk hc => ?_), (h3 i r hr).2⟩, h4⟩
  have := ((h3 i r hr).2 k hk).1
  have := (ho.lt k hc).1
  omega
/-- z itself is written, and may have moved. -/
theorem OwnRowsZ.grow {B' : Nat} {z' : Value} {us : List Value} (h : OwnRowsZ w B U e e' v xss z) (ho : Own w B' e' z us) (hg : w.grownBy w' z.ownBlock) (hf : ∀ k, z'.ownBlock = some k → z.ownBlock = some k ∨ w.heap.size ≤ k) (hne : e' ≠ e) : OwnRowsZ w' B U e e' v xss z' := by
  obtain ⟨rs, h1, h2, h3, h4⟩ := h
  refine ⟨rs, h1.owned ho hg hne, h2, fun i r hr => ⟨(h3 i r hr).1.grown hg (fun k hk hc => ((h3 i r hr).2 k hk).2 hc), fun k hk => ⟨((h3 i r hr).2 k hk).1, fun hc => ?_⟩⟩, h4⟩
  rcases hf k hc with h5 | h5
  · exact ((h3 i r hr).2 k hk).2 h5
  · have := ((h3 i r hr).1.lt k hk).2; omega
/-- One row more. -/
theorem OwnRowsZ.open (h : OwnRowsZ w B U e e' v xss z) (hne : e ≠ e') : ∃ rs, Own w B e v rs ∧ rs.length = xss.length ∧
    ∀ r xs w1 v' w', Ext w w1 → Own w1 U e' r (xs.map (Value.int .i64)) → Apart z r → B ≤ U → Own w' B e v' (rs ++ [r]) → w1.grownBy w' v.ownBlock → OwnRowsZ w' B w'.heap.size e e' v' (xss ++ [xs]) z := by
  obtain ⟨rs, h1, h2, h3, h4⟩ := h
  refine ⟨rs, h1, h2, fun r xs w1 v' w' x hr ha hBU hv hg => ?_⟩
  have hv1 := h1.ext x
  have hr' := hr.owned hv1 hg hne
  have hrow : ∀ i q, (rs ++ [r])[i]? = some q → (rs[i]? = some q ∧ i < rs.length) ∨ (i = rs.length ∧ q = r) := by
    intro i q hq
    rw [List.getElem?_append] at hq
    split at hq
    · exact .inl ⟨hq, by assumption⟩
    · right
      have : i - rs.length = 0 := by
        rcases Nat.eq_zero_or_pos (i - rs.length) with h | h
        · exact h
        · rw [List.getElem?_eq_none (by simp; omega)] at hq; cases hq
      rw [this] at hq
      simp at hq
      exact ⟨by omega, hq.symm⟩
  refine ⟨rs ++ [r], hv, by simp [h2], fun i q hq => ?_, fun i j q q' hq hq' hij k hk hk' => ?_⟩
  · rcases hrow i q hq with ⟨hq, hlt⟩ | ⟨rfl, rfl⟩
    · have e1 : (xss ++ [xs]).getD i [] = xss.getD i [] := by
        simp [List.getElem?_append, show i < xss.length by omega]
      rw [e1]
      have ho := ((h3 i q hq).1.ext x).owned hv1 hg hne
      exact ⟨ho, fun k hk => ⟨(ho.lt k hk).2, ((h3 i q hq).2 k hk).2⟩⟩
    · have e1 : (xss ++ [xs]).getD rs.length [] = xs := by
        simp [List.getElem?_append, h2]
      rw [e1]
      exact ⟨hr'.mono hBU, fun k hk => ⟨(hr'.lt k hk).2, fun hc => ha k hc hk⟩⟩
  · rcases hrow i q hq with ⟨hq1, _⟩ | ⟨hi1, hq1⟩ <;> rcases hrow j q' hq' with ⟨hq2, _⟩ | ⟨hj1, hq2⟩
    · exact h4 i j q q' hq1 hq2 hij k hk hk'
    · have a1 := ((h3 i q hq1).2 k hk).1
      have a2 := (hr.lt k (hq2 ▸ hk')).1
      omega
    · have a1 := ((h3 j q' hq2).2 k hk').1
      have a2 := (hr.lt k (hq1 ▸ hk)).1
      omega
    · exact hij (by omega)
end
/-- The map's literal: 'insert'. -/
theorem Sq.insert {P : Program} {N : Nat} {ops : Array Oper} {Q : Exit → Act → World → Prop} {rest : List Oper} {l : Slots} {w : World} {ty : TypeId} {pos : String} {after : Array Edge} {g : Option (Nat × Bool)}
    {κ : Type} [DecidableEq κ] {enc : κ → Value} {b : Nat} {xs : List κ} {t : TypeId} {m x y : Operand} {k : κ} {n : Int} (ht : KeyT P t enc) (hm : MapN enc w b xs) (hg : On ops l g) (hx : ev l m = some (.map (some b))) (hk : ev l x = some (enc k)) (hy : ev l y = some (.int .i64 n)) (hn : n = xs.length) (hin : k ∉ xs)
    (h : ∀ w', w.grownBy w' (some b) → MapN enc w' b (xs ++ [k]) → Sq P N ops Q rest l w') : Sq P N ops Q (⟨none, .insert t m x y, ty, pos, after, g⟩ :: rest) l w := by
  obtain ⟨kt, et, kd, h1, h2, h3, h4, h5⟩ := ht.types
  obtain ⟨es, c, hb, hes⟩ := hm
  have hf := findKey_num (P := P) (w := w) h2 h3 k hes
  rw [if_neg hin] at hf
  have hs := MapKept.heap_set (o' := .map (es.push { key := enc k, val := .int .i64 n, born := c }) (c + 1)) hb
  refine .unit (w' := { w with heap := w.heap.setIfInBounds b (.map (es.push { key := enc k, val := .int .i64 n, born := c }) (c + 1)) }) hg rfl (fun a ha => ?_) (h _ ⟨rfl, rfl, rfl, by simp, fun j _ hne => hs.2 j (fun e => hne (congrArg some e))⟩ ⟨_, _, hs.1, ?_⟩)
  · simp [execOp, Instr.mapUpdate, ha.ev hx, ha.ev hk, ha.ev hy, run_underlying h1, MapKept.run_getObj_map hb, MapKept.run_checkKey h2 (h5 k), hf, MapKept.run_setObj_map _ hb, Result.andThen]
  · rw [Array.toList_push, List.map_append, hes, List.zipIdx_append, List.map_append, hn]
    simp
theorem keyI {P : Program} {t kt et : TypeId} (h1 : P.underlying t = some (.map kt et)) (h2 : P.underlying kt = some (.int .i64)) (h3 : ∀ w, (zeroValue et).run P w = .ok (.int .i64 0) w) : KeyT P t encI :=
  ⟨kt, et, .int .i64, h1, h2, fun x y => by simp only [Instr.sameNow, encI, if_true]; first | done | (congr 1; first | done | (rw [Bool.eq_iff_iff]; simp)), h3, fun x => rfl⟩

/-! what a numbering search needs and gives -/
/-- A function value that leaves the world alone and hands back f. -/
def Clo (P : Program) (w0 : World) (fv : Value) (D : Int → Prop) (f : Int → Int → Int) : Prop :=
  ∃ k fn, ∃ cs : List Value, fv = .func (.func k) #[] cs.toArray ∧ Fn P k fn ∧ ∀ w q x, Ext w0 w → D q → 0 ≤ x ∧ x < 6 → Ret P k ([Value.int .i64 q, Value.int .i64 x] ++ cs).toArray w fun v w' => v = .int .i64 (f q x) ∧ Ext w w'
theorem ord_lim {f : Int → Int → Int} {s : Int} {L : List Int} {i k : Nat} {q : Int} {lim : Int} (hq : (bfs f s L i)[i]? = some q) (hi : i + 1 ≤ 200) (hl : (((mid f s L i q k).length : Nat) : Int) = lim) (hk : k < L.length) (hn : f q (L.getD k 0) ∉ mid f s L i q k) : ¬ (((ord f s L).length : Nat) : Int) ≤ lim := by
  have h1 := (mid_prefix (k := k + 1) hq).length_le
  rw [mid_succ hk, addNode_F hn, List.length_append] at h1
  have h2 := (ord_prefix (f := f) (s := s) (L := L) hi).length_le
  simp only [List.length_singleton] at h1
  omega
theorem ord_fin {f : Int → Int → Int} {s : Int} {L : List Int} {i : Nat} {lim : Int} (h : (bfs f s L i).length ≤ i) (hi : i ≤ 200) (hl : (((bfs f s L i).length : Nat) : Int) ≤ lim) : bfs f s L i = ord f s L ∧ ((((ord f s L).length : Nat) : Int) ≤ lim) := by
  have e := ord_done h hi
  exact ⟨e, by rw [← e]; exact hl⟩
theorem rowsAt_fin {f : Int → Int → Int} {s : Int} {L : List Int} {i : Nat} (h : (bfs f s L i).length ≤ i) (hi : i ≤ 200) : rowsAt f L (bfs f s L i) i = (ord f s L).map (rowAt f L (ord f s L)) := by
  rw [ord_done h hi]
  unfold rowsAt
  rw [List.take_of_length_le (by rw [← ord_done h hi]; exact h)]
theorem mid_at {f : Int → Int → Int} {s : Int} {L : List Int} {i k : Nat} {q : Int} (hq : (bfs f s L i)[i]? = some q) : (mid f s L i q k).getD i 0 = q := by
  obtain ⟨t, ht⟩ := mid_prefix0 (f := f) (s := s) (L := L) i q k
  have hi := (List.getElem?_eq_some_iff.1 hq).1
  rw [← ht, List.getD_eq_getElem?_getD, List.getElem?_append_left hi, hq]
  rfl
theorem notin_snoc {xs : List Int} {n : Int} {k : Nat} (hp : n ∉ xs.take k) (hk : k < xs.length) (hne : ¬ xs.getD k 0 = n) : n ∉ xs.take (k + 1) := by
  rw [take_snoc 0 hk]
  simp only [List.mem_append, List.mem_singleton, not_or]
  exact ⟨hp, fun h => hne h.symm⟩
theorem notin_done {xs : List Int} {n : Int} {k : Nat} (hp : n ∉ xs.take k) (hk : xs.length ≤ k) : n ∉ xs := by rwa [List.take_of_length_le hk] at hp
theorem notin_lt {xs : List Int} {n : Int} {k : Nat} (hm : n ∈ xs) (hp : n ∉ xs.take k) : k < xs.length := by
  rcases Nat.lt_or_ge k xs.length with h | h
  · exact h
  · exact absurd hm (notin_done hp h)
theorem idx_here {xs : List Int} {n : Int} {k : Nat} (hp : n ∉ xs.take k) (hk : k < xs.length) (he : xs.getD k 0 = n) : xs.idxOf n = k := by
  have e : xs = xs.take k ++ xs.drop k := (List.take_append_drop k xs).symm
  have hd : xs.drop k = n :: xs.drop (k + 1) := by
    rw [List.drop_eq_getElem_cons hk]
    congr 1
    rw [List.getD_eq_getElem?_getD, List.getElem?_eq_getElem hk] at he
    exact he
  rw [e, List.idxOf_append, if_neg hp, hd]
  simp
  omega
theorem row_go {a : A} (hv : validA a = true) {q : Nat} (hq : q < a.next.length) {k : Nat} (hk : k < (letters a.al).length) : (a.next.getD q []).getD k 0 = goA a q ((letters a.al).getD k 0) := by
  obtain ⟨h1, h2⟩ := place_at (validA_spec.1 hv).1 hk
  rw [goA_yes h1, h2, Int.toNat_natCast]
theorem rowTo_succ {f : Int → Int → Int} {L ns : List Int} {q : Int} {k : Nat} (hk : k < L.length) : rowTo f L ns q (k + 1) = rowTo f L ns q k ++ [(ns.idxOf (f q (L.getD k 0)) : Int)] := by
  unfold rowTo
  rw [take_snoc 0 hk, List.map_append]
  rfl
theorem Ints.low {w : World} {e : TypeId} {v : Value} {xs : List Int} (h : Ints w e v xs) (hx : 0 < xs.length) : ∀ k, v.ownBlock = some k → k < w.heap.size := by
  intro k hk
  rcases h with ⟨h0, _⟩ | ⟨b, o, c, cur, fr, rfl, hb, _⟩
  · rw [List.map_eq_nil_iff] at h0; subst h0; simp at hx
  · simp [Value.ownBlock] at hk
    subst hk
    exact lt_of_block hb
theorem getD_app {α : Type} {xs ys : List α} {d : α} {k : Nat} (h : k < xs.length) : (xs ++ ys).getD k d = xs.getD k d := by
  rw [List.getD_eq_getElem?_getD, List.getElem?_append_left h, ← List.getD_eq_getElem?_getD]
theorem Small.push2 {n m : Nat} {a : A} {row : List Int} {b : Bool} (h : Small n a) (hm : n + 1 ≤ m) (hr : row.length ≤ m) : Small m ⟨a.al, a.next ++ [row], a.acc ++ [b]⟩ := by
  have h1 := h.2.1
  have h2 := h.2.2.1
  refine ⟨h.1, by simp only [List.length_append, List.length_singleton]; omega, by simp only [List.length_append, List.length_singleton]; omega, fun r hr' => ?_⟩
  rcases List.mem_append.1 hr' with h3 | h3
  · have := h.2.2.2 r h3; omega
  · rw [List.mem_singleton.1 h3]; exact hr
theorem Small.accs {n m : Nat} {a : A} {ys : List Bool} (h : Small n a) (hm : n ≤ m) (hy : ys.length = a.acc.length) : Small m ⟨a.al, a.next, ys⟩ :=
  ⟨h.1, Nat.le_trans h.2.1 hm, by have := h.2.2.1; show ys.length ≤ m; omega, fun r hr => Nat.le_trans (h.2.2.2 r hr) hm⟩
theorem run_loadAgg {P : Program} {b n : Nat} {u : TypeId} {w : World} {cs : List Value} (hb : Blk w b u cs) (hn : cs.length = n) : (loadCells ⟨b, 0, none⟩ n).run P w = .ok cs.toArray w := by
  rw [← hn]
  refine run_loadCells_list _ _ _ fun j v hv => ?_
  rw [addr_add, hb.cell]
  simpa using hv
theorem Eq.retCC {P : Program} {fn : Func} {N t t' b b' n n' : Nat} {ty ty' u u' : TypeId} {l : Slots} {w : World} {cs cs' : List Value} {R : Value → World → Prop} (hr : fn.results = #[.cell t ty, .cell t' ty']) (hv : look l t = some (.pointer (some ⟨b, 0, none⟩))) (hv' : look l t' = some (.pointer (some ⟨b', 0, none⟩))) (h1 : Agg P ty n) (h1' : Agg P ty' n') (hb : Blk w b u cs) (hb' : Blk w b' u' cs') (hn : cs.length = n) (hn' : cs'.length = n') (h : R (.tuple #[.agg cs.toArray, .agg cs'.toArray]) w) :
    Eq N (bodyPost P fn fun e w' => ∃ v, e = .returned v ∧ R v w') .ret l w := fun a ha => by
  have hl := run_loadAgg (P := P) hb hn
  have hl' := run_loadAgg (P := P) hb' hn'
  have hs := ha.slot _ _ hv
  have hs' := ha.slot _ _ hv'
  refine bodyPost_ret (v := .tuple #[.agg cs.toArray, .agg cs'.toArray]) ?_ ha.defers ⟨_, rfl, h⟩
  simp only [results, hr]
  simp only [Array.getD_eq_getD_getElem?] at hs hs'
  simp [hs, hs', asAddr, loadVar, h1.agg, h1.size, h1'.agg, h1'.size, hl, hl']
theorem Eq.retCCT {P : Program} {fn : Func} {N t t' t'' b b' n n' : Nat} {ty ty' u u' : TypeId} {l : Slots} {w : World} {cs cs' : List Value} {v'' : Value} {R : Value → World → Prop} (hr : fn.results = #[.cell t ty, .cell t' ty', .tmp t'']) (hv : look l t = some (.pointer (some ⟨b, 0, none⟩))) (hv' : look l t' = some (.pointer (some ⟨b', 0, none⟩))) (hv'' : look l t'' = some v'') (h1 : Agg P ty n) (h1' : Agg P ty' n') (hb : Blk w b u cs) (hb' : Blk w b' u' cs') (hn : cs.length = n) (hn' : cs'.length = n') (h : R (.tuple #[.agg cs.toArray, .agg cs'.toArray, v'']) w) :
    Eq N (bodyPost P fn fun e w' => ∃ v, e = .returned v ∧ R v w') .ret l w := fun a ha => by
  have hl := run_loadAgg (P := P) hb hn
  have hl' := run_loadAgg (P := P) hb' hn'
  have hs := ha.slot _ _ hv
  have hs' := ha.slot _ _ hv'
  have hs'' := ha.slot _ _ hv''
  refine bodyPost_ret (v := .tuple #[.agg cs.toArray, .agg cs'.toArray, v'']) ?_ ha.defers ⟨_, rfl, h⟩
  simp only [results, hr]
  simp only [Array.getD_eq_getD_getElem?] at hs hs' hs''
  simp [hs, hs', hs'', asAddr, loadVar, h1.agg, h1.size, h1'.agg, h1'.size, hl, hl']
section three
variable {P : Program} {N : Nat} {ops : Array Oper} {Q : Exit → Act → World → Prop} {S : World → Prop} {k fuel : Nat} {listed : Array Bool} {l : Slots} {w : World}
/-- Three may come up. -/
theorem Gq.three {o o' o'' : Oper} (i j m : Nat) (hi : ops[i]? = some o) (hj : ops[j]? = some o') (hm : ops[m]? = some o'') (hr : (Region.ready .any ops listed == [i, j, m]) = true) (h : Sq P N ops (AfterG P ops Q S k fuel i listed) [o] l w) (h' : Sq P N ops (AfterG P ops Q S k fuel j listed) [o'] l w) (h'' : Sq P N ops (AfterG P ops Q S k fuel m listed) [o''] l w) : Gq P N ops Q S k (fuel + 1) listed l w := by
  intro a ha
  have hr' : Region.ready .any ops listed = [i, j, m] := by simpa using hr
  refine ⟨fun h0 => absurd (hr' ▸ h0) (by simp), fun n hn => ?_⟩
  rw [hr'] at hn
  rcases List.mem_cons.1 hn with rfl | hn
  · exact wpOp_of_list (Q' := AfterG P ops Q S k fuel _ listed) hi (fun _ _ => rfl) (fun _ _ _ => rfl) (fun _ _ => rfl) (h a ha)
  · rcases List.mem_cons.1 hn with rfl | hn
    · exact wpOp_of_list (Q' := AfterG P ops Q S k fuel _ listed) hj (fun _ _ => rfl) (fun _ _ _ => rfl) (fun _ _ => rfl) (h' a ha)
    · obtain rfl : n = m := by simpa using hn
      exact wpOp_of_list (Q' := AfterG P ops Q S k fuel _ listed) hm (fun _ _ => rfl) (fun _ _ _ => rfl) (fun _ _ => rfl) (h'' a ha)
end three
theorem Eq.ret3 {P : Program} {fn : Func} {N t u x : Nat} {l : Slots} {w : World} {v v' v'' : Value} {R : Value → World → Prop} (hr : fn.results = #[.tmp t, .tmp u, .tmp x]) (hv : look l t = some v) (hv' : look l u = some v') (hv'' : look l x = some v'') (h : R (.tuple #[v, v', v'']) w) :
    Eq N (bodyPost P fn fun e w' => ∃ v, e = .returned v ∧ R v w') .ret l w := fun a ha =>
  bodyPost_ret (v := .tuple #[v, v', v'']) (by
    have e : (results fn a.tmps).run P w = .ok (.tuple #[a.tmps.getD t undef, a.tmps.getD u undef, a.tmps.getD x undef]) w := by simp [results, hr]
    rw [e, ha.slot _ _ hv, ha.slot _ _ hv', ha.slot _ _ hv'']) ha.defers ⟨_, rfl, h⟩
/-! lists of pairs -/
def rows2 (ps : List (Int × Int)) : List (List Value) := ps.map fun p => [Value.int .i64 p.1, Value.int .i64 p.2]
theorem rows2_length (ps : List (Int × Int)) : (rows2 ps).length = ps.length := List.length_map _
theorem rows2_snoc (ps : List (Int × Int)) (p : Int × Int) : rows2 (ps ++ [p]) = rows2 ps ++ [[Value.int .i64 p.1, Value.int .i64 p.2]] := by simp [rows2]
def idxG {α : Type} [DecidableEq α] (ps : List α) (p : α) : Nat := ps.idxOf p
theorem idxG_lt {α : Type} [DecidableEq α] {xs : List α} {x : α} (h : x ∈ xs) : idxG xs x < xs.length := List.idxOf_lt_length_iff.2 h
theorem idxG_here {α : Type} [DecidableEq α] {xs ys zs : List α} {n : α} (e : xs = ys ++ n :: zs) (hp : n ∉ ys) : idxG xs n = ys.length := by
  unfold idxG
  rw [e, List.idxOf_append, if_neg hp]
  simp
def findI (ps : List (Int × Int)) (p : Int × Int) : Int := if p ∈ ps then (idxG ps p : Int) else -1
theorem findI_in {ps : List (Int × Int)} {p : Int × Int} (h : p ∈ ps) : findI ps p = (idxG ps p : Int) := if_pos h
theorem findI_out {ps : List (Int × Int)} {p : Int × Int} (h : p ∉ ps) : findI ps p = -1 := if_neg h
theorem findI_neg {ps : List (Int × Int)} {p : Int × Int} (h : findI ps p < 0) : p ∉ ps := fun hc => by rw [findI_in hc] at h; omega
theorem findI_pos {ps : List (Int × Int)} {p : Int × Int} (h : ¬ findI ps p < 0) : p ∈ ps := Classical.byContradiction fun hc => by rw [findI_out hc] at h; omega
theorem findI_le (ps : List (Int × Int)) (p : Int × Int) : -1 ≤ findI ps p ∧ findI ps p ≤ ps.length := by
  by_cases h : p ∈ ps
  · rw [findI_in h]
    have : idxG ps p < ps.length := idxG_lt h
    omega
  · rw [findI_out h]; omega
section wid2
variable {w : World} {B : Nat} {e : TypeId} {v : Value} {ps : List (Int × Int)}
theorem Wid.pair (h : Wid w B e 2 v (rows2 ps)) {i : Int} (h0 : 0 ≤ i) (h1 : i < ps.length) : ∃ g c, v = .slice (some ⟨g, 0, none⟩) ps.length c := by
  obtain ⟨g, c, hv, _⟩ := h.at h0 (by rw [rows2_length]; exact h1)
  rw [rows2_length] at hv
  exact ⟨g, c, hv⟩
theorem Wid.cell2 {g c : Nat} (hv : v = .slice (some ⟨g, 0, none⟩) ps.length c) (h : Wid w B e 2 v (rows2 ps)) {i : Int} (h0 : 0 ≤ i) (h1 : i < ps.length) : w.cell? ⟨g, i.toNat * 2 + 0, none⟩ = some (.int .i64 (ps.getD i.toNat (0, 0)).1) ∧ w.cell? ⟨g, i.toNat * 2 + 1, none⟩ = some (.int .i64 (ps.getD i.toNat (0, 0)).2) := by
  obtain ⟨g', c', hv', _, _, hc⟩ := h.at h0 (by rw [rows2_length]; exact h1)
  rw [hv] at hv'
  injection hv' with hv' _ _
  injection hv' with hv'
  injection hv' with hv' _ _
  subst hv'
  have hr : (rows2 ps).getD i.toNat [] = [Value.int .i64 (ps.getD i.toNat (0, 0)).1, Value.int .i64 (ps.getD i.toNat (0, 0)).2] := by
    have hl : i.toNat < ps.length := by omega
    unfold rows2
    rw [List.getD_eq_getElem?_getD, List.getElem?_map, List.getElem?_eq_getElem hl, List.getD_eq_getElem?_getD, List.getElem?_eq_getElem hl]
    rfl
  rw [hc 0 (by decide), hc 1 (by decide), hr]
  exact ⟨rfl, rfl⟩
theorem Wid.shape {n : Nat} {rows : List (List Value)} (h : Wid w B e n v rows) : ∃ p c, v = .slice p rows.length c := by
  rcases h.cases with ⟨rfl, rfl⟩ | ⟨g, cap, cs, rfl, _⟩
  · exact ⟨none, 0, rfl⟩
  · exact ⟨_, _, rfl⟩
end wid2
section wid3
variable {P : Program} {N : Nat} {ops : Array Oper} {Q : Exit → Act → World → Prop} {rest : List Oper} {l : Slots} {w : World}
variable {d : Nat} {ty : TypeId} {pos : String} {after : Array Edge} {g : Option (Nat × Bool)}
theorem Still.ixV {t e : TypeId} {z : Value} {n gb len c : Nat} {x ix : Operand} {k : IntKind} {i : Int} {v : Value} (hs : SlW P t e z n) (hv : v = .slice (some ⟨gb, 0, none⟩) len c) (hx : ev l x = some v) (hix : ev l ix = some (.int k i)) (hi : 0 ≤ i ∧ i < (len : Int)) :
    Still P N l ⟨some d, .indexAddr t x ix, ty, pos, after, g⟩ (.pointer (some ⟨gb, i.toNat * n, none⟩)) w := Still.ixW hs (by rw [hx, hv]) hix hi
theorem Sq.lenWid {t e : TypeId} {n B : Nat} {x : Operand} {v : Value} {rows : List (List Value)} (hr : Wid w B e n v rows) (hg : On ops l g) (hN : Nat.blt d N = true) (ht : P.underlying t = some (.slice (P.elem t))) (hx : ev l x = some v)
    (h : Sq P N ops Q rest ((d, .int .i64 rows.length) :: l) w) : Sq P N ops Q (⟨some d, .call ⟨.builtin .len, #[x], #[t]⟩, ty, pos, after, g⟩ :: rest) l w := by
  obtain ⟨p, c, rfl⟩ := hr.shape
  exact .len hg hN ht hx h
end wid3
theorem notin_snoc2 {xs : List (Int × Int)} {n : Int × Int} {k : Nat} (hp : n ∉ xs.take k) (hk : k < xs.length) (hne : ¬ xs.getD k (0, 0) = n) : n ∉ xs.take (k + 1) := by
  rw [take_snoc (0, 0) hk]
  simp only [List.mem_append, List.mem_singleton, not_or]
  exact ⟨hp, fun h => hne h.symm⟩
theorem idx_here2 {xs : List (Int × Int)} {n : Int × Int} {k : Nat} (hp : n ∉ xs.take k) (hk : k < xs.length) (he : xs.getD k (0, 0) = n) : findI xs n = k := by
  have e : xs = xs.take k ++ xs.drop k := (List.take_append_drop k xs).symm
  have hd : xs.drop k = n :: xs.drop (k + 1) := by
    rw [List.drop_eq_getElem_cons hk]
    congr 1
    rw [List.getD_eq_getElem?_getD, List.getElem?_eq_getElem hk] at he
    exact he
  have hm : n ∈ xs := he ▸ getD_mem hk
  rw [findI_in hm]
  have : idxG xs n = k := by
    rw [hd] at e
    rw [idxG_here e hp, List.length_take]
    omega
  rw [this]
theorem find_none2 {xs : List (Int × Int)} {n : Int × Int} {k : Nat} (hp : n ∉ xs.take k) (hk : xs.length ≤ k) : findI xs n = -1 := findI_out (by rwa [List.take_of_length_le hk] at hp)
theorem mid_at2 {f : Int × Int → Int → Int × Int} {s : Int × Int} {L : List Int} {i k : Nat} {q : Int × Int} (hq : (bfs f s L i)[i]? = some q) : (mid f s L i q k).getD i (0, 0) = q := by
  obtain ⟨t, ht⟩ := mid_prefix0 (f := f) (s := s) (L := L) i q k
  have hi := (List.getElem?_eq_some_iff.1 hq).1
  rw [← ht, List.getD_eq_getElem?_getD, List.getElem?_append_left hi, hq]
  rfl
theorem addAll_le {α : Type} [DecidableEq α] : ∀ (xs ns : List α), (addAll ns xs).length ≤ ns.length + xs.length
  | [], ns => Nat.le_refl _
  | x :: xs, ns => by
    rw [addAll_cons]
    have h := addAll_le xs (addNode ns x)
    have h2 : (addNode ns x).length ≤ ns.length + 1 := by
      unfold addNode
      split
      · omega
      · simp
    simp only [List.length_cons]
    omega
theorem mid_le {α : Type} [DecidableEq α] {f : α → Int → α} {s : α} {L : List Int} {i k : Nat} {q : α} : (mid f s L i q k).length ≤ (bfs f s L i).length + k := by
  unfold mid
  refine Nat.le_trans (addAll_le _ _) ?_
  rw [List.length_map, List.length_take]
  omega
theorem take_bfs2 {f : Int × Int → Int → Int × Int} {s : Int × Int} {L : List Int} {i : Nat} {q : Int × Int} (hq : (bfs f s L i)[i]? = some q) : (bfs f s L (i + 1)).take (i + 1) = (bfs f s L i).take i ++ [q] := by
  have hi := (List.getElem?_eq_some_iff.1 hq).1
  obtain ⟨t, ht⟩ := bfs_prefix1 (f := f) (s := s) (L := L) i
  rw [← ht, List.take_append_of_le_length (by omega), List.take_succ_eq_append_getElem hi]
  rw [List.getElem?_eq_getElem hi] at hq
  rw [Option.some.inj hq]
theorem rowsAt_fin2 {f : Int × Int → Int → Int × Int} {s : Int × Int} {L : List Int} {i : Nat} (h : (bfs f s L i).length ≤ i) (hi : i ≤ 200) : rowsAt f L (bfs f s L i) i = (ord f s L).map (rowAt f L (ord f s L)) := by
  rw [ord_done h hi]
  unfold rowsAt
  rw [List.take_of_length_le (by rw [← ord_done h hi]; exact h)]
theorem Wid.low {w : World} {B n : Nat} {e : TypeId} {v : Value} {rows : List (List Value)} (h : Wid w B e n v rows) : ∀ k, v.ownBlock = some k → k < w.heap.size := fun k hk => (h.lt k hk).2
theorem Wid.storedN {w w' : World} {B n gb U : Nat} {e : TypeId} {v : Value} {rows : List (List Value)} (h : Wid w B e n v rows) (hg : w.grownBy w' (some gb)) (hl : ∀ k, v.ownBlock = some k → k < U) (hU : U ≤ gb) : Wid w' B e n v rows :=
  h.grown hg fun k hk hc => by injection hc with hc; have := hl k hk; omega
theorem Blk.widN {w w' : World} {b U : Nat} {t : TypeId} {cs : List Value} {v : Value} (h : Blk w b t cs) (hg : w.grownBy w' v.ownBlock) (hl : ∀ k, v.ownBlock = some k → k < U) (hU : U ≤ b) : Blk w' b t cs :=
  h.grown hg fun hc => by have := hl b hc; omega
theorem prodOk_long {a b : A} {k : Int} (h : 12 < (ord (step2 a b) (0, 0) (letters (orI a.al b.al))).length) : prodOk a b k = false := by
  cases hh : prodOk a b k with
  | false => rfl
  | true => exact absurd (prodOk_spec.1 hh).2.2.2 (by unfold ord2; omega)
theorem mul144 {a b : A} (hv : validA a = true) (hv' : validA b = true) : -9223372036854775808 ≤ (a.next.length : Int) * (b.next.length : Int) ∧ (a.next.length : Int) * (b.next.length : Int) ≤ 9223372036854775807 := by
  have h := le144 hv hv'
  have h2 : ((a.next.length * b.next.length : Nat) : Int) ≤ 144 := by omega
  rw [Int.natCast_mul] at h2
  have h3 : 0 ≤ (a.next.length : Int) * (b.next.length : Int) := Int.mul_nonneg (by omega) (by omega)
  omega
theorem prod_statesI {a b : A} {k : Int} (h : prodOk a b k = true) : ((prodA a b k).next.length : Int) ≤ (a.next.length : Int) * (b.next.length : Int) := by
  have := prod_states h
  exact_mod_cast this
end Go.Proofs.Ytdkdpmmfebdeaaa
