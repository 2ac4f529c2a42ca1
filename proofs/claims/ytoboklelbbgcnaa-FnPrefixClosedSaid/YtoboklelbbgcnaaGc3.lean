/-
  The texts of this proof, joined (wip/merge.py): the calculus of slots, plain mathematics, walks.
-/
import Derived.Test.YtoboklelbbgcnaaGc2
set_option linter.unusedSimpArgs false
set_option linter.unusedVariables false
namespace Go.Proofs.Ytoboklelbbgcnaa
open Go.RowKit
section
variable {P : Program} {N : Nat} {ops : Array Oper} {Q : Exit → Act → World → Prop} {rest : List Oper} {l : Slots} {w : World}
variable {d : Nat} {ty : TypeId} {pos : String} {after : Array Edge} {g : Option (Nat × Bool)}
theorem Still.makeFunc {k : FuncId} {xs : List Operand} {vs : List Value} (hx : evs l xs = some vs) : Still P N l ⟨some d, .makeFunc (.func k) #[] xs.toArray, ty, pos, after, g⟩ (.func (.func k) #[] vs.toArray) w := fun a ha => by
  have : xs.toArray.map a.eval = vs.toArray := by rw [List.map_toArray, ha.evs hx]
  simp [execOp, Instr.makeFunc, this, ha.evs hx]
theorem Sq.makeFunc {k : FuncId} {xs : List Operand} {vs : List Value} (hg : On ops l g) (hN : Nat.blt d N = true) (hx : evs l xs = some vs) (h : Sq P N ops Q rest ((d, .func (.func k) #[] vs.toArray) :: l) w) :
    Sq P N ops Q (⟨some d, .makeFunc (.func k) #[] xs.toArray, ty, pos, after, g⟩ :: rest) l w := .val hg rfl hN (Still.makeFunc hx) h
theorem Sq.callC {f : FuncId} {fn : Func} {x : Operand} {xs : List Operand} {ats : Array TypeId} {vs cs : List Value} {R : Value → World → Prop} (hf : Fn P f fn) (hg : On ops l g) (hN : Nat.blt d N = true)
    (hc : ev l x = some (.func (.func f) #[] cs.toArray)) (hx : evs l xs = some vs) (hr : Ret P f (vs ++ cs).toArray w R) (h : ∀ v w', R v w' → Sq P N ops Q rest ((d, v) :: l) w') :
    Sq P N ops Q (⟨some d, .call ⟨.value x, xs.toArray, ats⟩, ty, pos, after, g⟩ :: rest) l w := by
  intro a ha
  refine wpList_step fun K hK => ?_
  rw [if_pos (hg.wanted ha)]
  unfold Oper.wp
  have e1 : xs.toArray.map a.eval = vs.toArray := by rw [List.map_toArray, ha.evs hx]
  have e : execOp a.eval ⟨some d, .call ⟨.value x, xs.toArray, ats⟩, ty, pos, after, g⟩ = callFunc f (vs ++ cs).toArray := by
    show (do let d ← resolve a.eval ⟨.value x, xs.toArray, ats⟩ ty; invoke d.target d.args) = _
    unfold resolve
    simp only [e1, ha.ev hc, Deferred.ofValue]
    show invoke (.fn (.func f) cs.toArray) (#[] ++ vs.toArray) = _
    simp [invoke]
  rw [e, run_callFunc hf, Oper.upon_enter]
  refine Calls.mono hr fun e w' he => ?_
  obtain ⟨v, rfl, hv⟩ := he
  exact hK _ _ (h v w' hv _ (ha.put hN))
def MapN {κ : Type} (enc : κ → Value) (w : World) (b : Nat) (xs : List κ) : Prop := ∃ es clock, w.heap[b]? = some (.map es clock) ∧ es.toList.map (fun e => (e.key, e.val)) = xs.zipIdx.map fun p => (enc p.1, Value.int .i64 (p.2 : Int))
variable {κ : Type} {enc : κ → Value} {w' : World} {b : Nat} {xs : List κ}
theorem MapN.lt (h : MapN enc w b xs) : b < w.heap.size := by
  obtain ⟨es, c, hb, _⟩ := h
  exact (Array.getElem?_eq_some_iff.1 hb).1
theorem MapN.ext (h : MapN enc w b xs) (x : Ext w w') : MapN enc w' b xs := by
  obtain ⟨es, c, hb, hx⟩ := h
  exact ⟨es, c, x.heap hb, hx⟩
theorem MapN.grown {r : Option Nat} (h : MapN enc w b xs) (hg : w.grownBy w' r) (hr : r ≠ some b) : MapN enc w' b xs := by
  obtain ⟨es, c, hb, hx⟩ := h
  exact ⟨es, c, by rw [hg.block b (Array.getElem?_eq_some_iff.1 hb).1 (fun e => hr e.symm)]; exact hb, hx⟩
theorem MapN.stored {gb : Nat} {t : TypeId} {cs : List Value} (h : MapN enc w b xs) (hg : w.grownBy w' (some gb)) (hb : Blk w gb t cs) : MapN enc w' b xs := by
  refine h.grown hg (fun e => ?_)
  injection e with e
  subst e
  obtain ⟨es, c, hb', _⟩ := h
  simp only [Blk] at hb
  rw [hb] at hb'
  cases hb'
theorem MapN.owned {B : Nat} {t : TypeId} {u : Value} {us : List Value} (h : MapN enc w b xs) (ho : Own w B t u us) (hg : w.grownBy w' u.ownBlock) : MapN enc w' b xs := by
  rcases ho.cases with ⟨rfl, rfl⟩ | ⟨gb, cap, cs, rfl, hg', hb, _⟩
  · exact h.ext (Ext.of_grown hg)
  · exact h.stored (gb := gb) hg hb
theorem Blk.mapped {bb : Nat} {t : TypeId} {cs : List Value} (h : Blk w bb t cs) (hm : MapN enc w b xs) (hg : w.grownBy w' (some b)) : Blk w' bb t cs := by
  refine h.grown hg (fun e => ?_)
  injection e with e
  subst e
  obtain ⟨es, c, hb', _⟩ := hm
  simp only [Blk] at h
  rw [h] at hb'
  cases hb'
theorem Row.mapped {e : TypeId} {v : Value} {vs : List Value} (h : Row w e v vs) (hm : MapN enc w b xs) (hg : w.grownBy w' (some b)) : Row w' e v vs := by
  rcases h with h | ⟨b', o, c, cur, fr, hv, hb, hx⟩
  · exact .inl h
  · refine .inr ⟨b', o, c, cur, fr, hv, ?_, hx⟩
    rw [hg.block b' (lt_of_block hb) (fun h => ?_)]
    · exact hb
    · injection h with h
      subst h
      obtain ⟨es, cc, hb', _⟩ := hm
      rw [hb] at hb'
      cases hb'
theorem Own.mapped {B : Nat} {e : TypeId} {v : Value} {vs : List Value} (h : Own w B e v vs) (hm : MapN enc w b xs) (hg : w.grownBy w' (some b)) : Own w' B e v vs := by
  rcases h.cases with ⟨rfl, rfl⟩ | ⟨g', cap, cs, rfl, hg', hb, h3, h4, h5, h6⟩
  · exact Own.nil _ _ _
  · exact Own.mk hg' (hb.mapped hm hg) h3 h4 h5 h6
theorem OwnRows.mapped {B U : Nat} {e e' : TypeId} {v : Value} {xss : List (List Int)} (h : OwnRows w B U e e' v xss) (hm : MapN enc w b xs) (hg : w.grownBy w' (some b)) : OwnRows w' B U e e' v xss := by
  obtain ⟨rs, h1, h2, h3, h4⟩ := h
  exact ⟨rs, h1.mapped hm hg, h2, fun i r hr => ⟨(h3 i r hr).1.mapped hm hg, (h3 i r hr).2⟩, h4⟩
theorem Ext.mapped {w1 : World} (h : Ext w1 w) (hg : w.grownBy w' (some b)) (hB : w1.heap.size ≤ b) : Ext w1 w' := h.grown hg fun k hk => by injection hk with hk; omega
theorem Sq.makeMap {t : TypeId} (enc : κ → Value) (hg : On ops l g) (hN : Nat.blt d N = true) (h : ∀ b w', Ext w w' → MapN enc w' b ([] : List κ) → w.heap.size ≤ b → Sq P N ops Q rest ((d, .map (some b)) :: l) w') :
    Sq P N ops Q (⟨some d, .makeMap t none, ty, pos, after, g⟩ :: rest) l w :=
  .val (w' := w.alloc (.map #[] 0)) hg rfl hN (fun a ha => by simp [execOp, Instr.makeMap, run_makeMap]) (h _ _ (Ext.alloc _ _) ⟨#[], 0, heap_alloc_new w _, rfl⟩ (Nat.le_refl _))
structure KeyT [DecidableEq κ] (P : Program) (t : TypeId) (enc : κ → Value) : Prop where
  types : ∃ kt et kd, P.underlying t = some (.map kt et) ∧ P.underlying kt = some kd ∧ (∀ x y, Instr.sameNow kd (enc x) (enc y) = some (decide (x = y))) ∧ (∀ w, (zeroValue et).run P w = .ok (.int .i64 0) w) ∧ ∀ x, MapKept.IsKey kd (enc x)
variable [DecidableEq κ]
theorem findNow_num {kd : TypeDesc} (hk : ∀ x y, Instr.sameNow kd (enc x) (enc y) = some (decide (x = y))) (k : κ) : ∀ (es : List MapEntry) (xs : List κ) (j s : Nat), es.map (fun e => (e.key, e.val)) = (xs.zipIdx s).map (fun p => (enc p.1, Value.int .i64 (p.2 : Int))) →
    Instr.findNow kd (enc k) es j = some (if k ∈ xs then some (j + xs.idxOf k, .int .i64 ((s + xs.idxOf k : Nat) : Int)) else none)
  | [], xs, j, s, h => by
    have : xs = [] := by cases xs with | nil => rfl | cons x r => simp at h
    subst this
    simp [Instr.findNow]
  | e :: es, xs, j, s, h => by
    cases xs with
    | nil => simp at h
    | cons x r =>
      simp only [List.map_cons, List.zipIdx_cons, List.cons.injEq, Prod.mk.injEq] at h
      obtain ⟨⟨h1, h2⟩, h3⟩ := h
      have ih := findNow_num hk k es r (j + 1) (s + 1) h3
      unfold Instr.findNow
      rw [h1, hk]
      by_cases hx : k = x
      · subst hx
        simp [h2]
      · have hx' : (x == k) = false := by simpa using fun h => hx h.symm
        rw [decide_eq_false hx]
        show Instr.findNow kd (enc k) es (j + 1) = _
        rw [ih]
        by_cases hm : k ∈ r
        · rw [if_pos hm, if_pos (List.mem_cons_of_mem _ hm), List.idxOf_cons, hx']
          simp only [cond_false]
          congr 3
          · omega
          · congr 1; omega
        · rw [if_neg hm, if_neg (by simp [hx, hm])]
theorem findKey_num {kt : TypeId} {kd : TypeDesc} (hd : P.underlying kt = some kd) (hk : ∀ x y, Instr.sameNow kd (enc x) (enc y) = some (decide (x = y))) (k : κ) {es : Array MapEntry} (h : es.toList.map (fun e => (e.key, e.val)) = xs.zipIdx.map (fun p => (enc p.1, Value.int .i64 (p.2 : Int)))) :
    (Instr.findKey kt (enc k) es.toList).run P w = .ok (if k ∈ xs then some (xs.idxOf k, .int .i64 (xs.idxOf k : Int)) else none) w := by
  have := findNow_num hk k es.toList xs 0 0 h
  simp only [Nat.zero_add] at this
  simp [Instr.findKey, run_underlying hd, this]
theorem Still.lookup {t : TypeId} {m x : Operand} {k : κ} (ht : KeyT P t enc) (hm : MapN enc w b xs) (hx : ev l m = some (.map (some b))) (hk : ev l x = some (enc k)) :
    Still P N l ⟨some d, .lookup t m x true, ty, pos, after, g⟩ (.tuple #[.int .i64 (if k ∈ xs then (xs.idxOf k : Int) else 0), .bool (decide (k ∈ xs))]) w := fun a ha => by
  obtain ⟨kt, et, kd, h1, h2, h3, h4, h5⟩ := ht.types
  obtain ⟨es, c, hb, hes⟩ := hm
  have hf := findKey_num (P := P) (w := w) h2 h3 k hes
  by_cases hin : k ∈ xs
  · rw [if_pos hin] at hf
    simp [execOp, Instr.lookup, ha.ev hx, ha.ev hk, run_underlying h1, MapKept.run_getObj_map hb, MapKept.run_checkKey h2 (h5 k), hf, hin, Result.andThen]
  · rw [if_neg hin] at hf
    simp [execOp, Instr.lookup, ha.ev hx, ha.ev hk, run_underlying h1, MapKept.run_getObj_map hb, MapKept.run_checkKey h2 (h5 k), hf, hin, h4, Result.andThen]
theorem Sq.lookup {t : TypeId} {m x : Operand} {k : κ} (ht : KeyT P t enc) (hm : MapN enc w b xs) (hg : On ops l g) (hN : Nat.blt d N = true) (hx : ev l m = some (.map (some b))) (hk : ev l x = some (enc k))
    (h : Sq P N ops Q rest ((d, .tuple #[.int .i64 (if k ∈ xs then (xs.idxOf k : Int) else 0), .bool (decide (k ∈ xs))]) :: l) w) : Sq P N ops Q (⟨some d, .lookup t m x true, ty, pos, after, g⟩ :: rest) l w := .val hg rfl hN (Still.lookup ht hm hx hk) h
theorem Sq.mapUpdate {t : TypeId} {m x y : Operand} {k : κ} {n : Int} (ht : KeyT P t enc) (hm : MapN enc w b xs) (hg : On ops l g) (hx : ev l m = some (.map (some b))) (hk : ev l x = some (enc k)) (hy : ev l y = some (.int .i64 n)) (hn : n = xs.length) (hin : k ∉ xs)
    (h : ∀ w', w.grownBy w' (some b) → MapN enc w' b (xs ++ [k]) → Sq P N ops Q rest l w') : Sq P N ops Q (⟨none, .mapUpdate t m x y, ty, pos, after, g⟩ :: rest) l w := by
  obtain ⟨kt, et, kd, h1, h2, h3, h4, h5⟩ := ht.types
  obtain ⟨es, c, hb, hes⟩ := hm
  have hf := findKey_num (P := P) (w := w) h2 h3 k hes
  rw [if_neg hin] at hf
  have hs := MapKept.heap_set (o' := .map (es.push { key := enc k, val := .int .i64 n, born := c }) (c + 1)) hb
  refine .unit (w' := { w with heap := w.heap.setIfInBounds b (.map (es.push { key := enc k, val := .int .i64 n, born := c }) (c + 1)) }) hg rfl (fun a ha => ?_) (h _ ⟨rfl, rfl, rfl, by simp, fun j _ hne => hs.2 j (fun e => hne (congrArg some e))⟩ ⟨_, _, hs.1, ?_⟩)
  · simp [execOp, Instr.mapUpdate, ha.ev hx, ha.ev hk, ha.ev hy, run_underlying h1, MapKept.run_getObj_map hb, MapKept.run_checkKey h2 (h5 k), hf, MapKept.run_setObj_map _ hb, Result.andThen]
  · rw [Array.toList_push, List.map_append, hes, List.zipIdx_append, List.map_append, hn]
    simp
def Apart (v u : Value) : Prop := ∀ k, v.ownBlock = some k → u.ownBlock ≠ some k
theorem Apart.symm {v u : Value} (h : Apart v u) : Apart u v := fun k hk hc => h k hc hk
theorem Apart.nil (u : Value) : Apart (.slice none 0 0) u := fun k hk => by cases hk
theorem Apart.grow {v v' u : Value} {B : Nat} {e : TypeId} {us : List Value} (h : Apart v u) (ho : Own w B e u us) (hf : ∀ k, v'.ownBlock = some k → v.ownBlock = some k ∨ w.heap.size ≤ k) : Apart v' u := fun k hk hc => by
  rcases hf k hk with h1 | h1
  · exact h k h1 hc
  · have := (ho.lt k hc).2; omega
theorem Own.other {B : Nat} {e : TypeId} {v u : Value} {vs : List Value} (h : Own w B e v vs) (hg : w.grownBy w' u.ownBlock) (ha : Apart u v) : Own w' B e v vs := h.grown hg fun k hk hc => ha k hc hk
theorem fresh_of {B n m size c : Nat} {t e : TypeId} {i : TypeInfo} {z : Value} {v v' : Value} {xs news : List Value} {ad : Addr} {w'' : World} (ht : P.underlying t = some (.slice e)) (hi : P.info? e = some i) (hz : i.zero = some z) (hsize : i.size = size)
    (hown : w.ownsRow B e size v n xs) (hl : news.length = m * size) (hnews : ∀ j u, news[j]? = some u → w.cell? (ad.add j) = some u) (h1 : ∀ u ∈ news, u.oneCell' = true) (h63 : n + m ≤ maxLen) (hbytes : (n + m) * i.bytes ≤ 140737488355328) (hm : 0 < m)
    (hr : (Builtin.append_ #[t, t] ty #[v, .slice (some ad) m c]).run P w = .ok v' w'') : ∀ k, v'.ownBlock = some k → v.ownBlock = some k ∨ w.heap.size ≤ k := by
  subst hsize
  have h63' : n + m ≤ 9223372036854775807 := by simp only [maxLen] at h63; omega
  intro k hk
  rcases hown.2 with ⟨rfl, rfl⟩ | ⟨gb, cap, cur, rfl, hbg, hgg, hnc, hcm, hcs, htake⟩
  · have e2 := run_append_nil (P := P) w t ty e i z ht hi hz ad m c news hl hnews (by omega) (by omega) (Nat.le_trans (by simpa using hbytes) (by decide : 140737488355328 ≤ 281474976710656))
    rw [e2] at hr
    injection hr with hv _
    subst hv
    simp [Value.ownBlock] at hk
    omega
  · by_cases hroom : n + m ≤ cap
    · have hfit : n * i.size + news.length ≤ cur.size := by rw [hl, hcs, ← Nat.add_mul]; exact Nat.mul_le_mul_right _ hroom
      have e2 := run_append_room (P := P) w t ty e i ht hi gb n cap cur hgg ad m c news hl hnews h1 hroom hfit
      rw [e2] at hr
      injection hr with hv _
      subst hv
      exact .inl hk
    · have holds : ∀ j u, xs[j]? = some u → w.cell? ((⟨gb, 0, none⟩ : Addr).add j) = some u := hown.cells (g := gb) rfl
      have e2 := run_append_grow (P := P) w t ty e i z ht hi hz ⟨gb, 0, none⟩ n cap xs hown.1 holds ad m c news hl hnews (by omega) (by omega) (growslice_fits (by omega) hbytes)
      rw [e2] at hr
      injection hr with hv _
      subst hv
      simp [Value.ownBlock] at hk
      omega
end
end Go.Proofs.Ytoboklelbbgcnaa
set_option linter.unusedSimpArgs false
set_option linter.unusedVariables false
namespace Go.Proofs.Ytoboklelbbgcnaa
open Go.RowKit
structure SlW (P : Program) (t e : TypeId) (z : Value) (n : Nat) : Prop where
  und : P.underlying t = some (.slice e)
  info : ∃ i, P.info? e = some i ∧ i.zero = some z ∧ i.size = n ∧ i.bytes ≤ 1024
  cells : z.cells.size = n
  pos : 0 < n
theorem SlW.elem {P : Program} {t e : TypeId} {z : Value} {n : Nat} (h : SlW P t e z n) : P.elem t = e := by simp [Program.elem, h.und]
theorem SlW.sizeOf {P : Program} {t e : TypeId} {z : Value} {n : Nat} (h : SlW P t e z n) (w : World) : (sizeOf e).run P w = .ok n w := by
  obtain ⟨i, hi, _, hs, _⟩ := h.info
  simp [Go.sizeOf, typeInfo, hi, hs]
theorem SlW.of {P : Program} {t e : TypeId} {z : Value} (h : SlT P t e z) : SlW P t e z 1 := by
  obtain ⟨i, h1, h2, h3, h4⟩ := h.info
  refine ⟨h.und, ⟨i, h1, h2, h3, by omega⟩, ?_, by decide⟩
  have := h.one
  cases z <;> simp_all [Value.cells, Value.oneCell']
def Wid (w : World) (B : Nat) (e : TypeId) (n : Nat) (v : Value) (rows : List (List Value)) : Prop :=
  (∀ r ∈ rows, r.length = n ∧ ∀ u ∈ r, u.oneCell' = true) ∧ w.ownsRow B e n v rows.length rows.flatten
theorem flat_len {n : Nat} : ∀ {rows : List (List Value)}, (∀ r ∈ rows, r.length = n) → rows.flatten.length = rows.length * n
  | [], _ => by simp
  | r :: rows, h => by
    rw [List.flatten_cons, List.length_append, h r (by simp), flat_len (fun q hq => h q (by simp [hq])), List.length_cons, Nat.add_mul]
    omega
theorem flat_at {n : Nat} : ∀ {rows : List (List Value)} {i j : Nat}, (∀ r ∈ rows, r.length = n) → i < rows.length → j < n → rows.flatten[i * n + j]? = (rows.getD i [])[j]?
  | r :: rows, 0, j, h, _, hj => by
    rw [List.flatten_cons, Nat.zero_mul, Nat.zero_add, List.getElem?_append_left (by rw [h r (by simp)]; exact hj)]; rfl
  | r :: rows, i + 1, j, h, hi, hj => by
    have hr := h r (by simp)
    rw [List.flatten_cons, List.getElem?_append_right (by rw [hr, Nat.add_mul]; omega), hr, show (i + 1) * n + j - n = i * n + j by rw [Nat.add_mul]; omega]
    exact flat_at (fun q hq => h q (by simp [hq])) (by simpa using hi) hj
section
variable {w w' : World} {B n : Nat} {e : TypeId} {v : Value} {rows : List (List Value)}
theorem Wid.nil (w : World) (B : Nat) (e : TypeId) (n : Nat) : Wid w B e n (.slice none 0 0) [] := ⟨by simp, World.ownsRow_nil w B e n⟩
theorem Wid.cases (h : Wid w B e n v rows) : (v = .slice none 0 0 ∧ rows = []) ∨ ∃ g cap cs, v = .slice (some ⟨g, 0, none⟩) rows.length cap ∧ B ≤ g ∧ Blk w g e cs ∧ rows.length ≤ cap ∧ cap ≤ maxLen ∧ cs.length = cap * n ∧ cs.take (rows.length * n) = rows.flatten := by
  rcases h.2.2 with ⟨h1, h2⟩ | ⟨g, cap, cur, h1, h2, h3, h4, h5, h6, h7⟩
  · exact .inl ⟨h1, List.eq_nil_of_length_eq_zero h2⟩
  · exact .inr ⟨g, cap, cur.toList, h1, h2, by simpa [Blk] using h3, h4, h5, by simpa using h6, h7⟩
theorem Wid.mk' {g cap : Nat} {cs : List Value} (hr : ∀ r ∈ rows, r.length = n ∧ ∀ u ∈ r, u.oneCell' = true) (h2 : B ≤ g) (h3 : Blk w g e cs) (h4 : rows.length ≤ cap) (h5 : cap ≤ maxLen) (h6 : cs.length = cap * n) (h7 : cs.take (rows.length * n) = rows.flatten) : Wid w B e n (.slice (some ⟨g, 0, none⟩) rows.length cap) rows :=
  ⟨hr, flat_len (fun r h => (hr r h).1), .inr ⟨g, cap, cs.toArray, rfl, h2, h3, h4, h5, by simpa using h6, by simpa using h7⟩⟩
theorem Wid.ext (h : Wid w B e n v rows) (x : Ext w w') : Wid w' B e n v rows := by
  rcases h.cases with ⟨rfl, rfl⟩ | ⟨g, cap, cs, rfl, h2, h3, h4, h5, h6, h7⟩
  · exact Wid.nil _ _ _ _
  · exact Wid.mk' h.1 h2 (h3.ext x) h4 h5 h6 h7
theorem Wid.mono {B' : Nat} (h : Wid w B e n v rows) (hB : B' ≤ B) : Wid w B' e n v rows := by
  rcases h.cases with ⟨rfl, rfl⟩ | ⟨g, cap, cs, rfl, h2, h3, h4, h5, h6, h7⟩
  · exact Wid.nil _ _ _ _
  · exact Wid.mk' h.1 (Nat.le_trans hB h2) h3 h4 h5 h6 h7
theorem Wid.lt (h : Wid w B e n v rows) : ∀ k, v.ownBlock = some k → B ≤ k ∧ k < w.heap.size := by
  rcases h.cases with ⟨rfl, rfl⟩ | ⟨g, cap, cs, rfl, h2, h3, h4, h5, h6, h7⟩
  · intro k hk; cases hk
  · intro k hk
    simp [Value.ownBlock] at hk
    subst hk
    exact ⟨h2, h3.lt⟩
theorem Wid.grown {r : Option Nat} (h : Wid w B e n v rows) (hg : w.grownBy w' r) (hne : ∀ k, v.ownBlock = some k → r ≠ some k) : Wid w' B e n v rows := by
  rcases h.cases with ⟨rfl, rfl⟩ | ⟨g, cap, cs, rfl, h2, h3, h4, h5, h6, h7⟩
  · exact Wid.nil _ _ _ _
  · exact Wid.mk' h.1 h2 (h3.grown hg (hne g rfl)) h4 h5 h6 h7
theorem Wid.stored {g : Nat} {t : TypeId} {cs : List Value} (h : Wid w B e n v rows) (hg : w.grownBy w' (some g)) (hb : Blk w g t cs) (hne : t ≠ e) : Wid w' B e n v rows := by
  refine h.grown hg fun k hk hc => ?_
  injection hc with hc
  subst hc
  rcases h.cases with ⟨rfl, rfl⟩ | ⟨g', cap, cs', rfl, h2, h3, _⟩
  · cases hk
  · simp [Value.ownBlock] at hk
    subst hk
    exact hb.ne h3 hne rfl
theorem Wid.owned {B' : Nat} {t : TypeId} {u : Value} {us : List Value} (h : Wid w B e n v rows) (ho : Own w B' t u us) (hg : w.grownBy w' u.ownBlock) (hne : t ≠ e) : Wid w' B e n v rows := by
  rcases ho.cases with ⟨rfl, rfl⟩ | ⟨g, cap, cs, rfl, hg', hb, _⟩
  · exact h.ext (Ext.of_grown hg)
  · exact h.stored (g := g) hg hb hne
theorem Wid.mapped {κ : Type} {enc : κ → Value} {b : Nat} {xs : List κ} (h : Wid w B e n v rows) (hm : MapN enc w b xs) (hg : w.grownBy w' (some b)) : Wid w' B e n v rows := by
  rcases h.cases with ⟨rfl, rfl⟩ | ⟨g, cap, cs, rfl, h2, h3, h4, h5, h6, h7⟩
  · exact Wid.nil _ _ _ _
  · exact Wid.mk' h.1 h2 (h3.mapped hm hg) h4 h5 h6 h7
variable (ho : Wid w B e n v rows) (hg : w.grownBy w' v.ownBlock)
theorem Row.wid {e' : TypeId} {u : Value} {us : List Value} (h : Row w e' u us) (ho : Wid w B e n v rows) (hg : w.grownBy w' v.ownBlock) (hne : e ≠ e') : Row w' e' u us := by
  rcases ho.cases with ⟨rfl, rfl⟩ | ⟨g, cap, cs, rfl, h2, hb, _⟩
  · exact h.ext (Ext.of_grown hg)
  · exact h.grown (g := g) hg hb hne
theorem Own.wid {B' : Nat} {e' : TypeId} {u : Value} {us : List Value} (h : Own w B' e' u us) (ho : Wid w B e n v rows) (hg : w.grownBy w' v.ownBlock) (hne : e ≠ e') : Own w' B' e' u us := by
  rcases ho.cases with ⟨rfl, rfl⟩ | ⟨g, cap, cs, rfl, h2, hb, _⟩
  · exact h.ext (Ext.of_grown hg)
  · exact h.stored (g := g) hg hb hne
theorem OwnRows.wid {B' U : Nat} {e' e'' : TypeId} {u : Value} {xss : List (List Int)} (h : OwnRows w B' U e' e'' u xss) (ho : Wid w B e n v rows) (hg : w.grownBy w' v.ownBlock) (hne : e ≠ e') (hne' : e ≠ e'') : OwnRows w' B' U e' e'' u xss := by
  rcases ho.cases with ⟨rfl, rfl⟩ | ⟨g, cap, cs, rfl, h2, hb, _⟩
  · exact h.ext (Ext.of_grown hg)
  · exact h.stored (g := g) hg hb hne hne'
theorem Blk.wid {b : Nat} {e' : TypeId} {cs : List Value} (h : Blk w b e' cs) (ho : Wid w B e n v rows) (hg : w.grownBy w' v.ownBlock) (hne : e ≠ e') : Blk w' b e' cs := by
  rcases ho.cases with ⟨rfl, rfl⟩ | ⟨g, cap, cs', rfl, h2, hb, _⟩
  · exact h.ext (Ext.of_grown hg)
  · exact h.grown hg (fun e2 => hb.ne h hne (by simpa [Value.ownBlock] using e2))
theorem Wid.wid {B' n' : Nat} {e' : TypeId} {u : Value} {rows' : List (List Value)} (h : Wid w B' e' n' u rows') (ho : Wid w B e n v rows) (hg : w.grownBy w' v.ownBlock) (hne : e ≠ e') : Wid w' B' e' n' u rows' := by
  rcases ho.cases with ⟨rfl, rfl⟩ | ⟨g, cap, cs, rfl, h2, hb, _⟩
  · exact h.ext (Ext.of_grown hg)
  · exact h.stored (g := g) hg hb hne
theorem MapN.wid {κ : Type} {enc : κ → Value} {b : Nat} {xs : List κ} (h : MapN enc w b xs) (ho : Wid w B e n v rows) (hg : w.grownBy w' v.ownBlock) : MapN enc w' b xs := by
  rcases ho.cases with ⟨rfl, rfl⟩ | ⟨g, cap, cs, rfl, h2, hb, _⟩
  · exact h.ext (Ext.of_grown hg)
  · exact h.stored (gb := g) hg hb
theorem Ext.wid {a : World} (h : Ext a w) (ho : Wid w B e n v rows) (hg : w.grownBy w' v.ownBlock) (hB : a.heap.size ≤ B) : Ext a w' := h.grown hg fun k hk => Nat.le_trans hB (ho.lt k hk).1
theorem Wid.at (h : Wid w B e n v rows) {i : Int} (h0 : 0 ≤ i) (h1 : i < rows.length) : ∃ g c, v = .slice (some ⟨g, 0, none⟩) rows.length c ∧ B ≤ g ∧ g < w.heap.size ∧ ∀ j, j < n → w.cell? ⟨g, i.toNat * n + j, none⟩ = (rows.getD i.toNat [])[j]? := by
  rcases h.cases with ⟨rfl, rfl⟩ | ⟨g, cap, cs, rfl, h2, h3, h4, h5, h6, h7⟩
  · simp at h1; omega
  · refine ⟨g, cap, rfl, h2, h3.lt, fun j hj => ?_⟩
    have hlt : i.toNat < rows.length := by omega
    rw [h3.cell, ← flat_at (fun r hr => (h.1 r hr).1) hlt hj, ← h7, List.getElem?_take, if_pos]
    have : (i.toNat + 1) * n ≤ rows.length * n := Nat.mul_le_mul_right _ hlt
    rw [Nat.add_mul] at this
    omega
end
section
variable {P : Program} {N : Nat} {ops : Array Oper} {Q : Exit → Act → World → Prop} {rest : List Oper} {l : Slots} {w : World}
variable {d : Nat} {ty : TypeId} {pos : String} {after : Array Edge} {g : Option (Nat × Bool)}
theorem Still.ixW {t e : TypeId} {z : Value} {n gb len c : Nat} {x ix : Operand} {k : IntKind} {i : Int} (hs : SlW P t e z n) (hx : ev l x = some (.slice (some ⟨gb, 0, none⟩) len c)) (hix : ev l ix = some (.int k i)) (hi : 0 ≤ i ∧ i < (len : Int)) :
    Still P N l ⟨some d, .indexAddr t x ix, ty, pos, after, g⟩ (.pointer (some ⟨gb, i.toNat * n, none⟩)) w := fun a ha => by
  have := run_indexAt_slice (P := P) (w := w) t ⟨gb, 0, none⟩ len c k i (by rw [hs.elem]; exact hs.und)
  rw [hs.elem, hs.sizeOf] at this
  simp [execOp, ha.ev hx, ha.ev hix, this, hi, addr_add]
theorem fold_cells (off : Nat) : ∀ (vs : List Value) (j : Nat) (zs : Array Value), off + j + vs.length ≤ zs.size →
    ((vs.zipIdx j).foldl (fun (cs : Array Value) (p : Value × Nat) => cs.setIfInBounds (off + p.2) p.1) zs).toList = zs.toList.take (off + j) ++ vs ++ zs.toList.drop (off + j + vs.length)
  | [], j, zs, h => by simp
  | v :: vs, j, zs, h => by
    simp only [List.length_cons] at h
    rw [List.zipIdx_cons, List.foldl_cons, fold_cells off vs (j + 1) _ (by simp; omega)]
    have hlt : off + j < zs.toList.length := by simp; omega
    have h3 : (zs.toList.set (off + j) v).take (off + (j + 1)) = zs.toList.take (off + j) ++ [v] := by
      rw [show off + (j + 1) = (off + j) + 1 by omega, List.take_succ_eq_append_getElem (by simpa using hlt)]
      simp [List.take_set_of_le (Nat.le_refl (off + j))]
    have h4 : (zs.toList.set (off + j) v).drop (off + (j + 1) + vs.length) = zs.toList.drop (off + j + (vs.length + 1)) := by
      rw [List.drop_set_of_lt (by omega)]
      congr 1
      omega
    simp only [Array.toList_setIfInBounds, h3, h4, List.length_cons]
    simp
theorem fill_wide {n : Nat} : ∀ (rows : List (List Value)) (k : Nat) (zs : Array Value), (∀ r ∈ rows, r.length = n) → (k + rows.length) * n ≤ zs.size →
    ∃ cs, Instr.fill (fun i => some (i * n, n)) zs ((List.range' k rows.length).zip (rows.map fun r => Value.agg r.toArray)) = some cs ∧ cs.toList = zs.toList.take (k * n) ++ rows.flatten ++ zs.toList.drop ((k + rows.length) * n)
  | [], k, zs, _, _ => ⟨zs, by simp [Instr.fill], by simp⟩
  | r :: rows, k, zs, h, hk => by
    have hr := h r (by simp)
    simp only [List.length_cons] at hk
    have e1 : (k + (rows.length + 1)) * n = k * n + n + rows.length * n := by rw [Nat.add_mul, Nat.add_mul]; omega
    have e2 : (k + 1) * n = k * n + n := by rw [Nat.add_mul]; omega
    have hf := fold_cells (k * n) r 0 zs (by omega)
    have hsz : ((r.zipIdx 0).foldl (fun (cs : Array Value) (p : Value × Nat) => cs.setIfInBounds (k * n + p.2) p.1) zs).size = zs.size := by
      rw [← Array.length_toList, hf]; simp; omega
    obtain ⟨cs, f1, f2⟩ := fill_wide rows (k + 1) _ (fun q hq => h q (by simp [hq])) (by rw [hsz, Nat.add_mul, e2]; omega)
    refine ⟨cs, ?_, ?_⟩
    · have h1 : ¬ zs.size < k * n + r.length := by omega
      simp only [List.length_cons, List.range'_succ, List.map_cons, List.zip_cons_cons, Instr.fill, Value.cells]
      simp only [List.size_toArray, hr]
      rw [if_neg (by simp; omega)]
      have e3 : (r.toArray.zipIdx.foldl (fun (cs : Array Value) (p : Value × Nat) => cs.setIfInBounds (k * n + p.2) p.1) zs) = ((r.zipIdx 0).foldl (fun (cs : Array Value) (p : Value × Nat) => cs.setIfInBounds (k * n + p.2) p.1) zs) := by simp
      exact e3 ▸ f1
    · rw [f2, hf]
      simp only [Nat.add_zero, List.flatten_cons, List.length_cons]
      have e4 : (k + 1 + rows.length) * n = k * n + n + rows.length * n := by rw [Nat.add_mul, e2]
      have t1 : (zs.toList.take (k * n) ++ r ++ zs.toList.drop (k * n + r.length)).take ((k + 1) * n) = zs.toList.take (k * n) ++ r := by
        rw [e2, List.take_append_of_le_length (by simp; omega), List.take_of_length_le (by simp; omega)]
      have t2 : (zs.toList.take (k * n) ++ r ++ zs.toList.drop (k * n + r.length)).drop ((k + 1 + rows.length) * n) = zs.toList.drop ((k + (rows.length + 1)) * n) := by
        rw [e4, e1, List.drop_append, List.drop_of_length_le (by simp; omega), List.nil_append, List.drop_drop]
        congr 1
        simp
        omega
      rw [t1, t2]
      simp
theorem Sq.litW {t e : TypeId} {z : Value} {n m : Nat} {parts : List (Nat × Operand)} {rows : List (List Value)} (hs : SlW P t e z n) (hp : parts.map (·.1) = List.range m) (hm : rows.length = m) (hn : m * n ≤ 1000) (hg : On ops l g) (hN : Nat.blt d N = true)
    (hx : evs l (parts.map (·.2)) = some (rows.map fun r => Value.agg r.toArray)) (h1 : ∀ r ∈ rows, r.length = n ∧ ∀ u ∈ r, u.oneCell' = true)
    (h : ∀ b w', Ext w w' → w.heap.size ≤ b → (∀ B, B ≤ w.heap.size → Wid w' B e n (.slice (some ⟨b, 0, none⟩) m m) rows) → Blk w' b e rows.flatten → Sq P N ops Q rest ((d, .slice (some ⟨b, 0, none⟩) m m) :: l) w') :
    Sq P N ops Q (⟨some d, .buildSlice t m parts.toArray, ty, pos, after, g⟩ :: rest) l w := by
  obtain ⟨i, hi, hz, hsz, hby⟩ := hs.info
  have hfl := flat_len (fun r hr => (h1 r hr).1)
  have hbn := Blk.new w e rows.flatten
  refine .val (w' := w.alloc (.cells rows.flatten.toArray e)) hg rfl hN (fun a ha => ?_) (h _ _ (Ext.alloc _ _) (Nat.le_refl _) (fun B hB => ?_) hbn)
  · obtain ⟨cs, f1, f2⟩ := fill_wide (n := n) rows 0 ((Array.range (m * n)).map (fun j => z.cells[j % z.cells.size]!)) (fun r hr => (h1 r hr).1) (by simp [hm])
    have f3 : cs = rows.flatten.toArray := by
      have : cs.toList = rows.flatten := by
        rw [f2, hm]
        simp
      rw [← this]
    subst f3
    have e1 : (parts.toArray.map fun (i, x) => (i, a.eval x)) = ((List.range m).zip (rows.map fun r => Value.agg r.toArray)).toArray := by
      rw [← hp, ← ha.evs hx]
      simp [List.zip_map', List.map_map]
    have hlim : ¬ 16777216 < m * n := by omega
    rw [List.range_eq_range'] at e1
    rw [hm] at f1
    simp only [execOp]
    rw [e1]
    by_cases h0 : m * n = 0
    · have hm0 : m = 0 := by
        rcases Nat.mul_eq_zero.1 h0 with h | h
        · exact h
        · have := hs.pos; omega
      subst hm0
      obtain rfl : rows = [] := List.eq_nil_of_length_eq_zero hm
      have hr0 : Array.map (fun j : Nat => z.cells[j % z.cells.size]!) (Array.range 0) = #[] := by apply Array.ext <;> simp
      have hr1 : Array.map (fun _ : Nat => (default : Value)) (Array.range 0) = #[] := by apply Array.ext <;> simp
      simp [Instr.buildSlice, run_underlying hs.und, hs.sizeOf, newRow, Instr.fill, hr0, hr1]
    · simp [Instr.buildSlice, run_underlying hs.und, hs.sizeOf, newRow, zeroValue, typeInfo, hi, hz, hlim, h0, f1]
  · have := Wid.mk' (w := w.alloc (.cells rows.flatten.toArray e)) (B := B) (e := e) (n := n) (rows := rows) (g := w.heap.size) (cap := m) (cs := rows.flatten) h1 hB hbn (by omega) (by unfold maxLen; have := Nat.le_mul_of_pos_right m hs.pos; omega) (by rw [hfl, hm]) (by rw [List.take_of_length_le (by rw [hfl]; exact Nat.le_refl _)])
    rw [hm] at this
    exact this
theorem Sq.appS {t e : TypeId} {z : Value} {n b c : Nat} {s x : Operand} {v : Value} {r : List Value} {rows : List (List Value)} {B : Nat}
    (hs : SlW P t e z n) (ho : Wid w B e n v rows) (hB : B ≤ w.heap.size) (hlen : rows.length < 1048576) (hb : Blk w b e r) (hr : r.length = n ∧ ∀ u ∈ r, u.oneCell' = true) (hg : On ops l g) (hN : Nat.blt d N = true) (hsv : ev l s = some v) (hxv : ev l x = some (.slice (some ⟨b, 0, none⟩) 1 c))
    (h : ∀ v' w', Wid w' B e n v' (rows ++ [r]) → w.grownBy w' v.ownBlock → (∀ k, v'.ownBlock = some k → v.ownBlock = some k ∨ w.heap.size ≤ k) → v' ≠ .slice none 0 0 → Sq P N ops Q rest ((d, v') :: l) w') :
    Sq P N ops Q (⟨some d, .call ⟨.builtin .append, #[s, x], #[t, t]⟩, ty, pos, after, g⟩ :: rest) l w := by
  obtain ⟨i, hi, hz, hsz, hby⟩ := hs.info
  have hnews : ∀ j u, r[j]? = some u → w.cell? ((⟨b, 0, none⟩ : Addr).add j) = some u := fun j u hj => by rw [addr_add, hb.cell]; simpa using hj
  have hl : r.length = 1 * n := by rw [hr.1, Nat.one_mul]
  have h63 : rows.length + 1 ≤ maxLen := by unfold maxLen; omega
  have hby' : (rows.length + 1) * i.bytes ≤ 140737488355328 := Nat.le_trans (Nat.mul_le_mul (show rows.length + 1 ≤ 1048576 by omega) hby) (by decide)
  obtain ⟨v', w', hrun, r1, r2, r3⟩ := run_append_own (P := P) w B t ty e i z n i.bytes hs.und hi hz hsz rfl hs.cells hs.pos v rows.length rows.flatten ho.2 ⟨b, 0, none⟩ 1 c r hl hnews hr.2 h63 hby' hB
  have hf := fresh_of (P := P) (ty := ty) hs.und hi hz hsz ho.2 hl hnews hr.2 h63 hby' (by decide) hrun
  have hW : Wid w' B e n v' (rows ++ [r]) := ⟨fun q hq => by
    rcases List.mem_append.1 hq with h | h
    · exact ho.1 q h
    · rw [List.mem_singleton.1 h]; exact hr, by simpa using r1⟩
  refine .val (w' := w') hg rfl hN (fun a ha => ?_) (h v' w' hW r2 hf (fun hc => by simpa using r3.1 hc))
  rw [BigFrame.execOp_builtin, BigFrame.builtin_append]
  simp only [List.map_toArray, List.map_cons, List.map_nil, ha.ev hsv, ha.ev hxv, Sem.run_bind, hrun, Result.andThen, Sem.run_pure]
def ones (vs : List Value) : List (List Value) := vs.map fun v => [v]
theorem ones_flat (vs : List Value) : (ones vs).flatten = vs := by
  unfold ones
  induction vs with
  | nil => rfl
  | cons v r ih => rw [List.map_cons, List.flatten_cons, ih]; rfl
theorem Wid.of_own {B : Nat} {e : TypeId} {v : Value} {vs : List Value} (h : Own w B e v vs) (h1 : ∀ u ∈ vs, u.oneCell' = true) : Wid w B e 1 v (ones vs) := by
  refine ⟨fun r hr => ?_, ?_⟩
  · obtain ⟨u, hu, rfl⟩ := List.mem_map.1 hr
    exact ⟨rfl, fun y hy => by rw [List.mem_singleton.1 hy]; exact h1 u hu⟩
  · rw [ones_flat]
    have : (ones vs).length = vs.length := List.length_map _
    rw [this]
    exact h
theorem Wid.to_own {B : Nat} {e : TypeId} {v : Value} {vs : List Value} (h : Wid w B e 1 v (ones vs)) : Own w B e v vs := by
  have h2 := h.2
  rw [ones_flat] at h2
  have : (ones vs).length = vs.length := List.length_map _
  rw [this] at h2
  exact h2
theorem Sq.app1F {t e : TypeId} {z : Value} {b c : Nat} {s x : Operand} {v u : Value} {vs : List Value} {B : Nat}
    (hs : SlT P t e z) (ho : Own w B e v vs) (h1 : ∀ u ∈ vs, u.oneCell' = true) (hB : B ≤ w.heap.size) (hlen : vs.length < 1048576) (hb : Blk w b e [u]) (hu : u.oneCell' = true) (hg : On ops l g) (hN : Nat.blt d N = true) (hsv : ev l s = some v) (hxv : ev l x = some (.slice (some ⟨b, 0, none⟩) 1 c))
    (h : ∀ v' w', Own w' B e v' (vs ++ [u]) → w.grownBy w' v.ownBlock → (∀ k, v'.ownBlock = some k → v.ownBlock = some k ∨ w.heap.size ≤ k) → v' ≠ .slice none 0 0 → Sq P N ops Q rest ((d, v') :: l) w') :
    Sq P N ops Q (⟨some d, .call ⟨.builtin .append, #[s, x], #[t, t]⟩, ty, pos, after, g⟩ :: rest) l w :=
  Sq.appS (SlW.of hs) (Wid.of_own ho h1) hB (by simpa [ones] using hlen) hb ⟨rfl, by simpa using hu⟩ hg hN hsv hxv fun v' w' g1 g2 g3 g4 => h v' w' (Wid.to_own (by simpa [ones] using g1)) g2 g3 g4
end
end Go.Proofs.Ytoboklelbbgcnaa
set_option linter.unusedSimpArgs false
set_option linter.unusedVariables false
namespace Go.Proofs.Ytoboklelbbgcnaa
def addTo (row : List Int) (c : Int) (k : Nat) (v : List Int) : List Int := (row.take k).foldl (fun v t => v.set t.toNat (v.getD t.toNat 0 + c)) v
theorem addTo_zero (row : List Int) (c : Int) (v : List Int) : addTo row c 0 v = v := rfl
theorem addTo_succ {row : List Int} {c : Int} {k : Nat} {v : List Int} (h : k < row.length) : addTo row c (k + 1) v = (addTo row c k v).set (row.getD k 0).toNat ((addTo row c k v).getD (row.getD k 0).toNat 0 + c) := by
  unfold addTo
  rw [take_snoc 0 h, List.foldl_append]
  rfl
theorem addTo_length (row : List Int) (c : Int) (k : Nat) (v : List Int) : (addTo row c k v).length = v.length := by
  unfold addTo
  generalize row.take k = l
  induction l generalizing v with
  | nil => rfl
  | cons t l ih => rw [List.foldl_cons, ih, List.length_set]
def stepTo (a : A) (cs : List Int) (q : Nat) : List Int := (List.range q).foldl (fun v i => addTo (a.next.getD i []) (cs.getD i 0) (a.next.getD i []).length v) (List.replicate a.next.length 0)
theorem stepTo_zero (a : A) (cs : List Int) : stepTo a cs 0 = List.replicate a.next.length 0 := rfl
theorem stepTo_succ (a : A) (cs : List Int) (q : Nat) : stepTo a cs (q + 1) = addTo (a.next.getD q []) (cs.getD q 0) (a.next.getD q []).length (stepTo a cs q) := by
  unfold stepTo
  rw [List.range_succ, List.foldl_append]
  rfl
theorem stepTo_length (a : A) (cs : List Int) (q : Nat) : (stepTo a cs q).length = a.next.length := by
  induction q with
  | zero => simp [stepTo_zero]
  | succ q ih => rw [stepTo_succ, addTo_length, ih]
def sumTo (a : A) (cs : List Int) (q : Nat) : Int := (List.range q).foldl (fun s i => if a.acc.getD i false then s + cs.getD i 0 else s) 0
theorem sumTo_succ (a : A) (cs : List Int) (q : Nat) : sumTo a cs (q + 1) = if a.acc.getD q false then sumTo a cs q + cs.getD q 0 else sumTo a cs q := by
  unfold sumTo
  rw [List.range_succ, List.foldl_append]
  rfl
def cnt (a : A) : Nat → List Int → Int
  | 0, cs => sumTo a cs a.next.length
  | m + 1, cs => sumTo a cs a.next.length + cnt a m (stepTo a cs a.next.length)
def start (a : A) : List Int := (List.replicate a.next.length (0 : Int)).set 0 1
def count (a : A) (n : Int) : Int := if validA a = true ∧ 0 ≤ n ∧ n ≤ 7 then cnt a n.toNat (start a) else -1
def InB (v : List Int) (b : Int) : Prop := ∀ x ∈ v, 0 ≤ x ∧ x ≤ b
theorem InB.at {v : List Int} {b : Int} (h : InB v b) (hb : 0 ≤ b) (k : Nat) : 0 ≤ v.getD k 0 ∧ v.getD k 0 ≤ b := by
  rcases Nat.lt_or_ge k v.length with hk | hk
  · exact h _ (getD_mem hk)
  · simp [hk, hb]
theorem InB.mono {v : List Int} {b b' : Int} (h : InB v b) (hb : b ≤ b') : InB v b' := fun x hx => ⟨(h x hx).1, Int.le_trans (h x hx).2 hb⟩
theorem InB.add {v : List Int} {b c m : Int} (h : InB v b) (hb : 0 ≤ b) (hc : 0 ≤ c ∧ c ≤ m) (k : Nat) : InB (v.set k (v.getD k 0 + c)) (b + m) := by
  intro x hx
  have hv := h.at hb k
  rcases List.mem_or_eq_of_mem_set hx with h1 | h1
  · have := h x h1; omega
  · subst h1; omega
theorem InB.addTo {row v : List Int} {c b m : Int} (hv : InB v b) (hb : 0 ≤ b) (hc : 0 ≤ c ∧ c ≤ m) (k : Nat) (hk : k ≤ row.length) : InB (addTo row c k v) (b + k * m) := by
  induction k with
  | zero => simpa [addTo_zero] using hv
  | succ k ih =>
    rw [addTo_succ (by omega)]
    have h1 := ih (by omega)
    have hm : 0 ≤ (k : Int) * m := Int.mul_nonneg (by omega) (by omega)
    have := InB.add h1 (by omega) hc (row.getD k 0).toNat
    rw [show b + ((k + 1 : Nat) : Int) * m = b + (k : Int) * m + m by rw [Int.natCast_add, Int.add_mul]; omega]
    exact this
theorem InB.stepTo {a : A} {cs : List Int} {m : Int} (hv : validA a = true) (h : InB cs m) (hm : 0 ≤ m) (q : Nat) : InB (stepTo a cs q) (q * (6 * m)) := by
  induction q with
  | zero => intro x hx; rw [stepTo_zero] at hx; have := List.eq_of_mem_replicate hx; omega
  | succ q ih =>
    rw [stepTo_succ]
    have h0 : 0 ≤ (q : Int) * (6 * m) := Int.mul_nonneg (by omega) (by omega)
    have h1 := InB.addTo ih h0 (h.at hm q) (a.next.getD q []).length (Nat.le_refl _)
    have h6 := valid_row6 hv (k := q)
    have h2 : (((a.next.getD q []).length : Nat) : Int) * m ≤ 6 * m := Int.mul_le_mul_of_nonneg_right (by omega) hm
    refine h1.mono ?_
    rw [Int.natCast_add, Int.add_mul]
    omega
theorem start_length (a : A) : (start a).length = a.next.length := by simp [start]
theorem count_good {a : A} {n : Int} (hv : validA a = true) (hn : 0 ≤ n ∧ n ≤ 7) : count a n = cnt a n.toNat (start a) := if_pos ⟨hv, hn⟩
def dot : List Int → (Nat → Int) → Int
  | [], _ => 0
  | x :: xs, f => x * f 0 + dot xs fun i => f (i + 1)
theorem dot_set {v : List Int} {f : Nat → Int} {t : Nat} {c : Int} (h : t < v.length) : dot (v.set t (v.getD t 0 + c)) f = dot v f + c * f t := by
  induction v generalizing f t with
  | nil => simp at h
  | cons x v ih =>
    cases t with
    | zero => simp [dot, Int.add_mul]; omega
    | succ t =>
      have := ih (f := fun i => f (i + 1)) (t := t) (by simpa using h)
      simp only [List.set_cons_succ, dot, List.getD_cons_succ, this]
      omega
theorem dot_snoc (v : List Int) (f : Nat → Int) (x : Int) : dot (v ++ [x]) f = dot v f + x * f v.length := by
  induction v generalizing f with
  | nil => simp [dot]
  | cons y v ih => simp only [List.cons_append, dot, ih, List.length_cons]; omega
theorem dot_add (v : List Int) (f g : Nat → Int) : dot v f + dot v g = dot v fun i => f i + g i := by
  induction v generalizing f g with
  | nil => rfl
  | cons x v ih => simp only [dot, ← ih, Int.mul_add]; omega
theorem dot_replicate (n : Nat) (f : Nat → Int) : dot (List.replicate n 0) f = 0 := by
  induction n generalizing f with
  | zero => rfl
  | succ n ih => simp only [List.replicate_succ, dot, ih]; simp
def wAcc (a : A) : Nat → Nat → Int
  | 0, q => if a.acc.getD q false then 1 else 0
  | m + 1, q => (if a.acc.getD q false then 1 else 0) + ((a.next.getD q []).map fun t => wAcc a m t.toNat).sum
theorem dot_addTo {row v : List Int} {c : Int} {f : Nat → Int} (h : ∀ t ∈ row, t.toNat < v.length) (k : Nat) (hk : k ≤ row.length) : dot (addTo row c k v) f = dot v f + c * ((row.take k).map fun t => f t.toNat).sum := by
  induction k with
  | zero => simp [addTo_zero]
  | succ k ih =>
    rw [addTo_succ (by omega), dot_set (by rw [addTo_length]; exact h _ (getD_mem (by omega))), ih (by omega), take_snoc 0 (by omega), List.map_append, List.sum_append]
    simp [Int.mul_add]
    omega
theorem dot_stepTo {a : A} {cs : List Int} {f : Nat → Int} (hv : validA a = true) (hl : cs.length = a.next.length) (q : Nat) (hq : q ≤ a.next.length) :
    dot (stepTo a cs q) f = dot (cs.take q) fun i => ((a.next.getD i []).map fun t => f t.toNat).sum := by
  induction q with
  | zero => simp [stepTo_zero, dot_replicate, dot]
  | succ q ih =>
    have hr := rowOk_at (validA_rows hv) (k := q) (by omega)
    rw [stepTo_succ, dot_addTo (fun t ht => by rw [stepTo_length]; have := hr.2 t ht; omega) _ (Nat.le_refl _), ih (by omega), take_snoc 0 (by omega), dot_snoc, List.take_of_length_le (Nat.le_refl _)]
    have hm : min q cs.length = q := by omega
    simp [hm]
theorem dot_sumTo {a : A} {cs : List Int} (hl : cs.length = a.next.length) (q : Nat) (hq : q ≤ a.next.length) : sumTo a cs q = dot (cs.take q) (wAcc a 0) := by
  induction q with
  | zero => simp [sumTo, dot]
  | succ q ih =>
    have hlen : (cs.take q).length = q := by simp; omega
    rw [sumTo_succ, ih (by omega), take_snoc 0 (by omega), dot_snoc, hlen]
    unfold wAcc
    split <;> simp
theorem cnt_dot {a : A} (hv : validA a = true) (m : Nat) (cs : List Int) (hl : cs.length = a.next.length) : cnt a m cs = dot cs (wAcc a m) := by
  have ht : cs.take a.next.length = cs := List.take_of_length_le (by omega)
  induction m generalizing cs with
  | zero =>
    unfold cnt
    rw [dot_sumTo hl _ (Nat.le_refl _), ht]
  | succ m ih =>
    unfold cnt
    rw [ih _ (stepTo_length _ _ _) (List.take_of_length_le (by rw [stepTo_length]; exact Nat.le_refl _)), dot_stepTo hv hl _ (Nat.le_refl _), dot_sumTo hl _ (Nat.le_refl _), ht, dot_add]
    rfl
end Go.Proofs.Ytoboklelbbgcnaa
set_option linter.unusedSimpArgs false
set_option linter.unusedVariables false
namespace Go.Proofs.Ytoboklelbbgcnaa
def lts (s : ByteArray) : List Int := s.data.toList.map fun b => (b.toNat : Int) - 97
theorem lts_length (s : ByteArray) : (lts s).length = s.size := by
  rw [lts, List.length_map]; rfl
theorem lts_at {s : ByteArray} {k : Nat} (h : k < s.size) : (lts s).getD k 0 = ((s.data.toList.getD k 0).toNat : Int) - 97 := by
  have h1 : k < s.data.toList.length := h
  rw [lts, List.getD_eq_getElem?_getD, List.getElem?_map, List.getElem?_eq_getElem h1, List.getD_eq_getElem?_getD, List.getElem?_eq_getElem h1]
  rfl
def within (s : ByteArray) (al : Int) : Bool := decide (0 ≤ al ∧ al ≤ 63) && (decide ((s.size : Int) ≤ 50000) && (lts s).all (hs al))
theorem within_al {s : ByteArray} {al : Int} (h : ¬ (0 ≤ al ∧ al ≤ 63)) : within s al = false := by simp only [within, decide_eq_false h, Bool.false_and]
theorem within_size {s : ByteArray} {al : Int} (h : ¬ (s.size : Int) ≤ 50000) : within s al = false := by simp only [within, decide_eq_false h, Bool.false_and, Bool.and_false]
theorem within_bad {s : ByteArray} {al : Int} {k : Nat} (h : k < s.size) (hb : hs al ((lts s).getD k 0) = false) : within s al = false := by
  simp only [within, all_bad (l := lts s) (d := 0) (by rw [lts_length]; exact h) hb, Bool.and_false]
theorem within_good {s : ByteArray} {al : Int} {k : Nat} (h1 : 0 ≤ al ∧ al ≤ 63) (h2 : (s.size : Int) ≤ 50000) (hp : ((lts s).take k).all (hs al) = true) (hk : s.size ≤ k) : within s al = true := by
  simp only [within, decide_eq_true h1, decide_eq_true h2, all_done (l := lts s) hp (by rw [lts_length]; exact hk), Bool.and_self]
theorem within_spec {s : ByteArray} {al : Int} : within s al = true ↔ (0 ≤ al ∧ al ≤ 63) ∧ s.size ≤ 50000 ∧ ∀ x ∈ lts s, hs al x = true := by
  simp only [within, Bool.and_eq_true, decide_eq_true_eq, List.all_eq_true]
  constructor
  · rintro ⟨h1, h2, h3⟩; exact ⟨h1, by omega, h3⟩
  · rintro ⟨h1, h2, h3⟩; exact ⟨h1, by omega, h3⟩
theorem hs_small {al x : Int} (h : 0 ≤ al ∧ al ≤ 63) (hx : hs al x = true) : 0 ≤ x ∧ x < 6 := by
  unfold hs at hx
  simp only [Bool.and_eq_true, decide_eq_true_eq] at hx
  refine ⟨hx.1, ?_⟩
  rcases Int.lt_or_le x 6 with h1 | h1
  · exact h1
  · have h2 : al.toNat < 2 ^ 6 := by omega
    have h3 : al.toNat < 2 ^ x.toNat := Nat.lt_of_lt_of_le h2 (Nat.pow_le_pow_right (by decide) (by omega))
    rw [Nat.testBit_lt_two_pow h3] at hx
    cases hx.2
theorem hs63 (x : Int) : hs 63 x = decide (0 ≤ x ∧ x < 6) := by
  by_cases h : 0 ≤ x ∧ x < 6
  · rw [decide_eq_true h]
    obtain ⟨m, rfl⟩ := Int.eq_ofNat_of_zero_le h.1
    have : ∀ m : Fin 6, hs 63 (m.val : Int) = true := by decide
    exact this ⟨m, by omega⟩
  · rw [decide_eq_false h]
    cases hh : hs 63 x with
    | false => rfl
    | true => exact absurd (hs_small (by decide) hh) h
def runTo (a : A) (q : Int) (s : ByteArray) (k : Nat) : Int := ((lts s).take k).foldl (goA a) q
theorem runTo_succ {a : A} {q : Int} {s : ByteArray} {k : Nat} (h : k < s.size) : runTo a q s (k + 1) = goA a (runTo a q s k) ((lts s).getD k 0) := by
  unfold runTo
  rw [take_snoc 0 (by rw [lts_length]; exact h), List.foldl_append]
  rfl
theorem foldl_in {a : A} (hv : validA a = true) : ∀ (w : List Int) (q : Int), (∀ x ∈ w, 0 ≤ x ∧ x < 6) → (0 ≤ q ∧ q < a.next.length) → 0 ≤ w.foldl (goA a) q ∧ w.foldl (goA a) q < a.next.length
  | [], q, _, hq => hq
  | x :: w, q, h, hq => foldl_in hv w _ (fun y hy => h y (by simp [hy])) (goA_in hv hq (h x (by simp)))
theorem runTo_in {a : A} {q : Int} {s : ByteArray} {al : Int} (hv : validA a = true) (hw : within s al = true) (hq : 0 ≤ q ∧ q < a.next.length) (k : Nat) : 0 ≤ runTo a q s k ∧ runTo a q s k < a.next.length := by
  obtain ⟨h1, h2, h3⟩ := within_spec.1 hw
  exact foldl_in hv _ _ (fun x hx => hs_small h1 (h3 x (List.mem_of_mem_take hx))) hq
def after (a : A) (s : ByteArray) : Int := if validA a = true ∧ within s a.al = true then runTo a 0 s s.size else -1
def accepts (a : A) (s : ByteArray) : Bool := decide (0 ≤ after a s) && a.acc.getD (after a s).toNat false
theorem after_good {a : A} {s : ByteArray} (h : validA a = true) (hw : within s a.al = true) {k : Nat} (hk : k = s.size) : after a s = runTo a 0 s k := by rw [after, if_pos ⟨h, hw⟩, hk]
theorem after_bad {a : A} {s : ByteArray} (h : ¬ (validA a = true ∧ within s a.al = true)) : after a s = -1 := if_neg h
theorem after_lt {a : A} {s : ByteArray} (h : 0 ≤ after a s) : (after a s).toNat < a.acc.length := by
  unfold after at h ⊢
  split at h
  · rename_i hc
    rw [if_pos hc]
    have h1 := validA_spec.1 hc.1
    have := runTo_in hc.1 hc.2 (q := 0) (by omega) s.size
    omega
  · omega
theorem accepts_T {a : A} {s : ByteArray} (h : 0 ≤ after a s) : accepts a s = a.acc.getD (after a s).toNat false := by rw [accepts, decide_eq_true h, Bool.true_and]
theorem accepts_F {a : A} {s : ByteArray} (h : ¬ 0 ≤ after a s) : accepts a s = false := by rw [accepts, decide_eq_false h, Bool.false_and]
def clip (x : Int) : Int := if 0 ≤ x ∧ x < 6 then x else -1
theorem clip_in {x : Int} (h : 0 ≤ x ∧ x < 6) : clip x = x := if_pos h
theorem clip_out {x : Int} (h : ¬ (0 ≤ x ∧ x < 6)) : clip x = -1 := if_neg h
theorem hs_clip {al x : Int} (h : 0 ≤ al ∧ al ≤ 63) : hs al (clip x) = hs al x := by
  by_cases hx : 0 ≤ x ∧ x < 6
  · rw [clip_in hx]
  · rw [clip_out hx]
    cases hh : hs al x with
    | false => simp [hs]
    | true => exact absurd (hs_small h hh) hx
theorem within_at {s : ByteArray} {al : Int} (h : within s al = true) {k : Nat} (hk : k < s.size) : clip ((lts s).getD k 0) = (lts s).getD k 0 ∧ 0 ≤ (lts s).getD k 0 ∧ (lts s).getD k 0 < 6 := by
  obtain ⟨h1, _, h3⟩ := within_spec.1 h
  have := hs_small h1 (h3 _ (getD_mem (d := 0) (by rw [lts_length]; exact hk)))
  exact ⟨clip_in this, this⟩
end Go.Proofs.Ytoboklelbbgcnaa
set_option linter.unusedSimpArgs false
set_option linter.unusedVariables false
namespace Go.Proofs.Ytoboklelbbgcnaa
def run (a : A) (q : Int) (w : List Int) : Int := w.foldl (goA a) q
theorem run_cat (a : A) (q : Int) (v w : List Int) : run a q (v ++ w) = run a (run a q v) w := List.foldl_append
theorem runTo_run (a : A) (q : Int) (s : ByteArray) (k : Nat) : runTo a q s k = run a q ((lts s).take k) := rfl
theorem runTo_all (a : A) (q : Int) (s : ByteArray) : runTo a q s s.size = run a q (lts s) := by rw [runTo_run, List.take_of_length_le (by rw [lts_length]; exact Nat.le_refl _)]
theorem after_run {a : A} {s : ByteArray} (h : validA a = true) (hw : within s a.al = true) : after a s = run a 0 (lts s) := by rw [after_good h hw rfl, runTo_all]
theorem word_in {s : ByteArray} {al : Int} (h : within s al = true) : ∀ x ∈ lts s, 0 ≤ x ∧ x < 6 := fun x hx => hs_small (within_spec.1 h).1 ((within_spec.1 h).2.2 x hx)
theorem run_stay {a : A} (hv : validA a = true) {w : List Int} (hw : ∀ x ∈ w, 0 ≤ x ∧ x < 6) {q : Int} (hq : 0 ≤ q ∧ q < a.next.length) : 0 ≤ run a q w ∧ run a q w < a.next.length := foldl_in hv w q hw hq
theorem zero_in {a : A} (hv : validA a = true) : 0 ≤ (0 : Int) ∧ (0 : Int) < a.next.length := by have := (validA_spec.1 hv).2.1; omega
theorem after_ge {a : A} {s : ByteArray} (h : validA a = true) (hw : within s a.al = true) : 0 ≤ after a s ∧ after a s < a.next.length := by
  rw [after_run h hw]; exact run_stay h (word_in hw) (zero_in h)
theorem accepts_run {a : A} {s : ByteArray} (h : validA a = true) (hw : within s a.al = true) : accepts a s = a.acc.getD (run a 0 (lts s)).toNat false := by
  rw [accepts_T (after_ge h hw).1, after_run h hw]
theorem within_nil {al : Int} (h : 0 ≤ al ∧ al ≤ 63) : within ⟨#[]⟩ al = true := within_spec.2 ⟨h, by decide, fun x hx => by cases hx⟩
theorem run_safe {a : A} (hv : validA a = true) : ∀ (w : List Int) (q : Int), (∀ x ∈ w, 0 ≤ x ∧ x < 6) → 0 ≤ q ∧ q < a.next.length →
    (a.acc.getD (run (safe a) q w).toNat false = true ↔ ∀ k ≤ w.length, a.acc.getD (run a q (w.take k)).toNat false = true)
  | [], q, _, _ => by simp [run]
  | x :: w, q, h, hq => by
    have hx := h x (by simp)
    have hg := goA_in hv hq hx
    have e1 : run (safe a) q (x :: w) = run (safe a) (goA (safe a) q x) w := rfl
    have e2 : ∀ k, run a q ((x :: w).take (k + 1)) = run a (goA a q x) (w.take k) := fun k => rfl
    rw [e1, goA_safe hv hq hx]
    cases hac : a.acc.getD q.toNat false with
    | true =>
      rw [if_pos rfl, run_safe hv w _ (fun y hy => h y (by simp [hy])) hg]
      constructor
      · intro hk k hl
        cases k with
        | zero => exact hac
        | succ k => rw [e2]; exact hk k (by simpa using hl)
      · intro hk k hl
        have := hk (k + 1) (by simpa using hl)
        rwa [e2] at this
    | false =>
      rw [if_neg (by simp), run_safe hv w _ (fun y hy => h y (by simp [hy])) hq]
      constructor
      · intro hk
        have := hk 0 (Nat.zero_le _)
        exact absurd (this.symm.trans hac) (by simp)
      · intro hk
        have := hk 0 (Nat.zero_le _)
        exact absurd (this.symm.trans hac) (by simp)
section
variable {P : Program} {N : Nat} {ops : Array Oper} {Q : Exit → Act → World → Prop} {S : World → Prop} {k fuel : Nat} {listed : Array Bool} {l : Slots} {w : World}
theorem Gq.beT {b : Bool} {d : Nat} (e : b = true) (h : Gq P N ops Q S k fuel listed ((d, .bool true) :: l) w) : Gq P N ops Q S k fuel listed ((d, .bool b) :: l) w := by rw [e]; exact h
theorem Gq.beF {b : Bool} {d : Nat} (e : b = false) (h : Gq P N ops Q S k fuel listed ((d, .bool false) :: l) w) : Gq P N ops Q S k fuel listed ((d, .bool b) :: l) w := by rw [e]; exact h
end
theorem Own.setU2 {w : World} {B : Nat} {e : TypeId} {v : Value} {ys : List UInt8} {x y : UInt8} {i j : Nat} (h : Own w B e v (((ys.map fun b => Value.int .u8 (b.toNat : Int)).set i (Value.int .u8 (x.toNat : Int))).set j (Value.int .u8 (y.toNat : Int)))) : Own w B e v (((ys.set i x).set j y).map fun b => Value.int .u8 (b.toNat : Int)) := by
  rw [List.map_set, List.map_set]; exact h
def RevAt (xs : List UInt8) (k : Nat) (ys : List UInt8) : Prop := ys.length = xs.length ∧ ∀ m, m < xs.length → ys.getD m 0 = if m < k ∨ xs.length - 1 - k < m then xs.getD (xs.length - 1 - m) 0 else xs.getD m 0
theorem RevAt.zero (xs : List UInt8) : RevAt xs 0 xs := ⟨rfl, fun m hm => by rw [if_neg (by omega)]⟩
theorem getD_setU (l : List UInt8) (k m : Nat) (x : UInt8) (hk : k < l.length) : (l.set k x).getD m 0 = if k = m then x else l.getD m 0 := by
  rw [List.getD_eq_getElem?_getD, List.getElem?_set]
  by_cases h : k = m
  · subst h; simp [hk]
  · simp [h]
theorem RevAt.step {xs ys : List UInt8} {k : Nat} (h : RevAt xs k ys) (hk : k < xs.length - 1 - k) : RevAt xs (k + 1) ((ys.set k (ys.getD (xs.length - 1 - k) 0)).set (xs.length - 1 - k) (ys.getD k 0)) := by
  obtain ⟨h1, h2⟩ := h
  refine ⟨by simp [h1], fun m hm => ?_⟩
  rw [getD_setU _ _ _ _ (by rw [List.length_set]; omega), getD_setU _ _ _ _ (by omega)]
  by_cases e1 : xs.length - 1 - k = m
  · subst e1
    rw [if_pos rfl, h2 k (by omega), if_neg (by omega), if_pos (by omega)]
    congr 1; omega
  · rw [if_neg e1]
    by_cases e2 : k = m
    · subst e2
      rw [if_pos rfl, h2 _ (by omega), if_neg (by omega), if_pos (by omega)]
    · rw [if_neg e2, h2 m hm]
      by_cases h3 : m < k ∨ xs.length - 1 - k < m
      · rw [if_pos h3, if_pos (by omega)]
      · rw [if_neg h3, if_neg (by omega)]
theorem RevAt.done {xs ys : List UInt8} {k : Nat} (h : RevAt xs k ys) (hk : xs.length - 1 ≤ k + k) : ys = xs.reverse := by
  obtain ⟨h1, h2⟩ := h
  refine List.ext_getElem (by rw [h1, List.length_reverse]) fun m m1 m2 => ?_
  have h3 := h2 m (by omega)
  rw [List.getD_eq_getElem?_getD, List.getElem?_eq_getElem m1] at h3
  rw [List.getElem_reverse]
  have h4 : xs.length - 1 - m < xs.length := by omega
  have e : xs.getD (xs.length - 1 - m) 0 = xs[xs.length - 1 - m] := by rw [List.getD_eq_getElem?_getD, List.getElem?_eq_getElem h4]; rfl
  rw [← e]
  by_cases h5 : m < k ∨ xs.length - 1 - k < m
  · rw [if_pos h5] at h3; exact h3
  · rw [if_neg h5] at h3
    have : xs.length - 1 - m = m := by omega
    rw [this]; exact h3
end Go.Proofs.Ytoboklelbbgcnaa
set_option linter.unusedSimpArgs false
set_option linter.unusedVariables false
namespace Go.Proofs.Ytoboklelbbgcnaa
def many (n : Nat) : Nat := if h : n = 0 then 200 else many (n - 1)
  termination_by n
theorem many_eq : many 0 = 200 := by rw [many]; simp
section bfs
variable {α : Type} [DecidableEq α]
def addNode (ns : List α) (x : α) : List α := if x ∈ ns then ns else ns ++ [x]
def addAll (ns : List α) (xs : List α) : List α := xs.foldl addNode ns
theorem addNode_T {ns : List α} {x : α} (h : x ∈ ns) : addNode ns x = ns := if_pos h
theorem addNode_F {ns : List α} {x : α} (h : x ∉ ns) : addNode ns x = ns ++ [x] := if_neg h
theorem addNode_prefix (ns : List α) (x : α) : ns <+: addNode ns x := by
  unfold addNode
  split
  · exact List.prefix_refl _
  · exact List.prefix_append _ _
theorem mem_addNode {ns : List α} {x y : α} : y ∈ addNode ns x ↔ y ∈ ns ∨ y = x := by
  unfold addNode
  split
  · exact ⟨.inl, fun h => h.elim id (fun h => h ▸ by assumption)⟩
  · simp
theorem nodup_addNode {ns : List α} (h : ns.Nodup) (x : α) : (addNode ns x).Nodup := by
  unfold addNode
  split
  · exact h
  · rename_i hx
    rw [List.nodup_append]
    exact ⟨h, by simp, fun a ha b hb hab => hx (by rw [List.mem_singleton.1 hb] at hab; exact hab ▸ ha)⟩
theorem addAll_snoc (ns xs : List α) (x : α) : addAll ns (xs ++ [x]) = addNode (addAll ns xs) x := by
  unfold addAll
  rw [List.foldl_append]
  rfl
theorem addAll_nil (ns : List α) : addAll ns [] = ns := rfl
theorem addAll_cons (ns : List α) (x : α) (xs : List α) : addAll ns (x :: xs) = addAll (addNode ns x) xs := rfl
theorem addAll_prefix : ∀ (xs ns : List α), ns <+: addAll ns xs
  | [], ns => List.prefix_refl _
  | x :: xs, ns => (addNode_prefix ns x).trans (addAll_prefix xs _)
theorem mem_addAll {y : α} : ∀ {xs ns : List α}, y ∈ addAll ns xs ↔ y ∈ ns ∨ y ∈ xs
  | [], ns => by simp [addAll_nil]
  | x :: xs, ns => by rw [addAll_cons, mem_addAll, mem_addNode, List.mem_cons, or_assoc]
theorem nodup_addAll : ∀ {xs ns : List α}, ns.Nodup → (addAll ns xs).Nodup
  | [], _, h => h
  | x :: xs, _, h => nodup_addAll (xs := xs) (nodup_addNode h x)
def bfs (f : α → Int → α) (s : α) (L : List Int) : Nat → List α
  | 0 => [s]
  | i + 1 => match (bfs f s L i)[i]? with
    | some q => addAll (bfs f s L i) (L.map (f q))
    | none => bfs f s L i
variable {f : α → Int → α} {s : α} {L : List Int}
theorem bfs_succ {i : Nat} {q : α} (h : (bfs f s L i)[i]? = some q) : bfs f s L (i + 1) = addAll (bfs f s L i) (L.map (f q)) := by rw [bfs, h]
theorem bfs_prefix1 (i : Nat) : bfs f s L i <+: bfs f s L (i + 1) := by
  rw [bfs]
  split
  · exact addAll_prefix _ _
  · exact List.prefix_refl _
theorem bfs_prefix {i j : Nat} (h : i ≤ j) : bfs f s L i <+: bfs f s L j := by
  induction j with
  | zero => rw [Nat.le_zero.1 h]; exact List.prefix_refl _
  | succ j ih =>
    rcases Nat.lt_or_ge j i with h1 | h1
    · rw [show i = j + 1 by omega]; exact List.prefix_refl _
    · exact (ih h1).trans (bfs_prefix1 j)
theorem bfs_nodup (i : Nat) : (bfs f s L i).Nodup := by
  induction i with
  | zero => simp [bfs]
  | succ i ih =>
    rw [bfs]
    split
    · exact nodup_addAll ih
    · exact ih
theorem bfs_stop {i : Nat} (h : (bfs f s L i).length ≤ i) {j : Nat} (hj : i ≤ j) : bfs f s L j = bfs f s L i := by
  induction j with
  | zero => rw [Nat.le_zero.1 hj]
  | succ j ih =>
    rcases Nat.lt_or_ge j i with h1 | h1
    · rw [show i = j + 1 by omega]
    · rw [bfs, ih h1, List.getElem?_eq_none (by omega)]
theorem bfs_all {P : α → Prop} (h0 : P s) (hs : ∀ q, P q → ∀ l ∈ L, P (f q l)) (i : Nat) : ∀ q ∈ bfs f s L i, P q := by
  induction i with
  | zero => simp [bfs, h0]
  | succ i ih =>
    rw [bfs]
    split
    · rename_i q hq
      have hq' : q ∈ bfs f s L i := List.mem_of_getElem? hq
      intro y hy
      rcases mem_addAll.1 hy with h | h
      · exact ih y h
      · obtain ⟨l, hl, rfl⟩ := List.mem_map.1 h
        exact hs q (ih q hq') l hl
    · exact ih
theorem bfs_closed {i j : Nat} {q : α} (hj : j < i) (h : (bfs f s L i)[j]? = some q) : ∀ l ∈ L, f q l ∈ bfs f s L i := by
  intro l hl
  have h1 : (bfs f s L (j + 1)) <+: bfs f s L i := bfs_prefix hj
  have h0 : (bfs f s L j) <+: bfs f s L i := bfs_prefix (by omega)
  rcases Nat.lt_or_ge j (bfs f s L j).length with h2 | h2
  · have h3 : (bfs f s L j)[j]? = some q := by
      obtain ⟨t, ht⟩ := h0
      rw [← ht, List.getElem?_append_left h2] at h
      exact h
    rw [bfs_succ h3] at h1
    exact h1.subset (mem_addAll.2 (.inr (List.mem_map.2 ⟨l, hl, rfl⟩)))
  · rw [bfs_stop h2 (by omega), List.getElem?_eq_none h2] at h
    cases h
theorem nodup_len : ∀ {xs U : List α}, xs.Nodup → (∀ q ∈ xs, q ∈ U) → xs.length ≤ U.length
  | [], _, _, _ => Nat.zero_le _
  | x :: xs, U, h, hs => by
    obtain ⟨h1, h2⟩ := List.nodup_cons.1 h
    have hx := hs x (by simp)
    have h3 := nodup_len (U := U.erase x) h2 (fun q hq => (List.mem_erase_of_ne (by rintro rfl; exact h1 hq)).2 (hs q (by simp [hq])))
    rw [List.length_erase_of_mem hx] at h3
    have := List.length_pos_of_mem hx
    simp only [List.length_cons]
    omega
theorem bfs_len {M : Nat} {U : List α} (h0 : s ∈ U) (hs : ∀ q ∈ U, ∀ l ∈ L, f q l ∈ U) (hU : U.length ≤ M) (i : Nat) : (bfs f s L i).length ≤ M :=
  Nat.le_trans (nodup_len (bfs_nodup i) (fun q hq => bfs_all (P := (· ∈ U)) h0 hs i q hq)) hU
def ord (f : α → Int → α) (s : α) (L : List Int) : List α := bfs f s L (many 0)
theorem ord_done {i : Nat} (h : (bfs f s L i).length ≤ i) (hi : i ≤ 200) : bfs f s L i = ord f s L := (bfs_stop h (by rw [many_eq]; exact hi)).symm
theorem ord_prefix {i : Nat} (hi : i ≤ 200) : bfs f s L i <+: ord f s L := bfs_prefix (by rw [many_eq]; exact hi)
theorem ord_nodup : (ord f s L).Nodup := bfs_nodup _
theorem ord_mem0 : s ∈ ord f s L := (bfs_prefix (Nat.zero_le (many 0))).subset (by simp [bfs])
theorem ord_zero : (ord f s L)[0]? = some s := by
  obtain ⟨t, ht⟩ := bfs_prefix (f := f) (s := s) (L := L) (Nat.zero_le (many 0))
  unfold ord
  rw [← ht]; rfl
theorem ord_pos : 0 < (ord f s L).length := List.length_pos_of_mem ord_mem0
theorem ord_closed (h : (ord f s L).length ≤ 200) {q : α} (hq : q ∈ ord f s L) : ∀ l ∈ L, f q l ∈ ord f s L := by
  obtain ⟨j, hj, rfl⟩ := List.mem_iff_getElem.1 hq
  exact bfs_closed (Nat.lt_of_lt_of_le hj (by rw [many_eq]; exact h)) (List.getElem?_eq_getElem hj)
theorem ord_all {P : α → Prop} (h0 : P s) (hs : ∀ q, P q → ∀ l ∈ L, P (f q l)) : ∀ q ∈ ord f s L, P q := bfs_all h0 hs _
theorem ord_zero' (h : (ord f s L).length ≤ 200) : (ord f s L).idxOf s = 0 := by
  have h0 := ord_zero (f := f) (s := s) (L := L)
  cases hl : ord f s L with
  | nil => rw [hl] at h0; cases h0
  | cons x r => rw [hl] at h0; simp at h0; subst h0; simp
theorem idx_prefix {xs ys : List α} (h : xs <+: ys) {x : α} (hx : x ∈ xs) : ys.idxOf x = xs.idxOf x := by
  obtain ⟨t, rfl⟩ := h
  rw [List.idxOf_append, if_pos hx]
theorem idx_new {xs : List α} {x : α} (hx : x ∉ xs) : (addNode xs x).idxOf x = xs.length := by
  rw [addNode_F hx, List.idxOf_append, if_neg hx]
  simp
theorem idx_getElem {xs : List α} (h : xs.Nodup) {i : Nat} {x : α} (hi : xs[i]? = some x) : xs.idxOf x = i := by
  obtain ⟨hl, rfl⟩ := List.getElem?_eq_some_iff.1 hi
  exact h.idxOf_getElem i hl
theorem getElem_idx {xs : List α} {x : α} (h : x ∈ xs) : xs[xs.idxOf x]? = some x := by
  rw [List.getElem?_eq_some_iff]
  exact ⟨List.idxOf_lt_length_iff.2 h, List.getElem_idxOf _⟩
def rowAt (f : α → Int → α) (L : List Int) (ns : List α) (q : α) : List Int := L.map fun l => (ns.idxOf (f q l) : Int)
def rowsAt (f : α → Int → α) (L : List Int) (ns : List α) (i : Nat) : List (List Int) := (ns.take i).map (rowAt f L ns)
theorem rowAt_prefix {ns ms : List α} {q : α} (h : ns <+: ms) (hm : ∀ l ∈ L, f q l ∈ ns) : rowAt f L ms q = rowAt f L ns q :=
  List.map_congr_left fun l hl => by rw [idx_prefix h (hm l hl)]
theorem rowsAt_step {i : Nat} {q : α} (h : (bfs f s L i)[i]? = some q) : rowsAt f L (bfs f s L (i + 1)) (i + 1) = rowsAt f L (bfs f s L i) i ++ [rowAt f L (bfs f s L (i + 1)) q] := by
  have hi := (List.getElem?_eq_some_iff.1 h).1
  have hp := bfs_prefix1 (f := f) (s := s) (L := L) i
  have e1 : (bfs f s L (i + 1)).take (i + 1) = (bfs f s L i).take i ++ [q] := by
    obtain ⟨t, ht⟩ := hp
    rw [← ht, List.take_append_of_le_length (by omega), List.take_succ_eq_append_getElem hi]
    congr 1
    simp only [List.cons.injEq, and_true]
    rw [List.getElem?_eq_getElem hi] at h
    exact Option.some.inj h
  unfold rowsAt
  rw [e1, List.map_append]
  congr 1
  refine List.map_congr_left fun p hp' => rowAt_prefix hp ?_
  obtain ⟨j, hj, rfl⟩ := List.mem_iff_getElem.1 hp'
  rw [List.length_take] at hj
  rw [List.getElem_take]
  exact bfs_closed (by omega) (List.getElem?_eq_getElem (by omega))
theorem rowsAt_length (ns : List α) (i : Nat) (h : i ≤ ns.length) : (rowsAt f L ns i).length = i := by simp [rowsAt]; omega
def rowTo (f : α → Int → α) (L : List Int) (ns : List α) (q : α) (k : Nat) : List Int := (L.take k).map fun l => (ns.idxOf (f q l) : Int)
theorem rowTo_step {ns : List α} {q : α} {k : Nat} (hk : k < L.length) (hm : ∀ l ∈ L.take k, f q l ∈ ns) : rowTo f L (addNode ns (f q (L.getD k 0))) q (k + 1) = rowTo f L ns q k ++ [((addNode ns (f q (L.getD k 0))).idxOf (f q (L.getD k 0)) : Int)] := by
  unfold rowTo
  rw [take_snoc 0 hk, List.map_append]
  congr 1
  exact List.map_congr_left fun l hl => by rw [idx_prefix (addNode_prefix _ _) (hm l hl)]
theorem rowTo_done {ns : List α} {q : α} {k : Nat} (h : L.length ≤ k) : rowTo f L ns q k = rowAt f L ns q := by unfold rowTo; rw [List.take_of_length_le h]; rfl
def mid (f : α → Int → α) (s : α) (L : List Int) (i : Nat) (q : α) (k : Nat) : List α := addAll (bfs f s L i) ((L.take k).map (f q))
theorem mid_succ {i : Nat} {q : α} {k : Nat} (hk : k < L.length) : mid f s L i q (k + 1) = addNode (mid f s L i q k) (f q (L.getD k 0)) := by
  unfold mid
  rw [take_snoc 0 hk, List.map_append]
  exact addAll_snoc _ _ _
theorem mid_done {i : Nat} {q : α} {k : Nat} (h : L.length ≤ k) (hq : (bfs f s L i)[i]? = some q) : mid f s L i q k = bfs f s L (i + 1) := by
  unfold mid
  rw [List.take_of_length_le h, bfs_succ hq]
theorem mid_mem {i : Nat} {q : α} {k : Nat} : ∀ l ∈ L.take k, f q l ∈ mid f s L i q k := fun l hl => mem_addAll.2 (.inr (List.mem_map.2 ⟨l, hl, rfl⟩))
theorem mid_prefix {i : Nat} {q : α} {k : Nat} (hq : (bfs f s L i)[i]? = some q) : mid f s L i q k <+: bfs f s L (i + 1) := by
  rw [bfs_succ hq]
  unfold mid
  have : L.map (f q) = (L.take k).map (f q) ++ (L.drop k).map (f q) := by rw [← List.map_append, List.take_append_drop]
  rw [this]
  unfold addAll
  rw [List.foldl_append]
  exact addAll_prefix _ _
theorem mid_prefix0 (i : Nat) (q : α) (k : Nat) : bfs f s L i <+: mid f s L i q k := addAll_prefix _ _
end bfs
section maps
variable {α β : Type} [DecidableEq α] [DecidableEq β] {f : α → Int → α} {s : α} {L : List Int} {f' : β → Int → β} {g : α → β} {P : α → Prop}
end maps
def num {α : Type} [DecidableEq α] (al : Int) (f : α → Int → α) (s : α) (acc : α → Bool) : A :=
  ⟨al, (ord f s (letters al)).map (rowAt f (letters al) (ord f s (letters al))), (ord f s (letters al)).map acc⟩
section num
variable {α : Type} [DecidableEq α] {al : Int} {f : α → Int → α} {s : α} {acc : α → Bool}
theorem num_len : (num al f s acc).next.length = (ord f s (letters al)).length := by simp [num]
theorem num_accs : (num al f s acc).acc.length = (ord f s (letters al)).length := by simp [num]
theorem num_valid (hal : 0 ≤ al ∧ al ≤ 63) (h : (ord f s (letters al)).length ≤ 12) : validA (num al f s acc) = true := by
  have h0 := ord_pos (f := f) (s := s) (L := letters al)
  refine validA_spec.2 ⟨hal, by rw [num_len]; omega, by rw [num_accs, num_len], fun row hr => ?_⟩
  obtain ⟨q, hq, rfl⟩ := List.mem_map.1 hr
  refine ⟨by simp [rowAt, num], fun y hy => ?_⟩
  obtain ⟨l, hl, rfl⟩ := List.mem_map.1 hy
  rw [num_len]
  have := List.idxOf_lt_length_iff.2 (ord_closed (by omega) hq l hl)
  omega
theorem goA_num (hal : 0 ≤ al ∧ al ≤ 63) {q : α} (hq : q ∈ ord f s (letters al)) {l : Int} (hl : l ∈ letters al) : goA (num al f s acc) ((ord f s (letters al)).idxOf q : Int) l = ((ord f s (letters al)).idxOf (f q l) : Int) := by
  obtain ⟨hx0, hx6, hh⟩ := mem_letters hl
  obtain ⟨p1, p2⟩ := place_lt hal ⟨hx0, hx6⟩ hh
  have hlt := List.idxOf_lt_length_iff.2 hq
  have hh' : hs (num al f s acc).al l = true := hh
  have e0 : (num al f s acc).next = (ord f s (letters al)).map (rowAt f (letters al) (ord f s (letters al))) := rfl
  have e9 : place (num al f s acc).al l = place al l := rfl
  have e2 : ((ord f s (letters al)).map (rowAt f (letters al) (ord f s (letters al)))).getD ((ord f s (letters al)).idxOf q) [] = rowAt f (letters al) (ord f s (letters al)) q := by
    rw [List.getD_eq_getElem?_getD, List.getElem?_map, getElem_idx hq]; rfl
  have e3 : (letters al)[place al l]? = some l := by
    rw [List.getElem?_eq_getElem p1]
    rw [List.getD_eq_getElem?_getD, List.getElem?_eq_getElem p1] at p2
    exact congrArg some p2
  rw [goA_yes hh', e0, e9, Int.toNat_natCast, e2]
  unfold rowAt
  rw [List.getD_eq_getElem?_getD, List.getElem?_map, e3]
  rfl
theorem num_acc : (num al f s acc).acc = (ord f s (letters al)).map acc := rfl
theorem acc_num {q : α} (hq : q ∈ ord f s (letters al)) : (num al f s acc).acc.getD (((ord f s (letters al)).idxOf q : Int)).toNat false = acc q := by
  rw [num_acc, Int.toNat_natCast, List.getD_eq_getElem?_getD, List.getElem?_map, getElem_idx hq]
  rfl
theorem run_num (hal : 0 ≤ al ∧ al ≤ 63) (h : (ord f s (letters al)).length ≤ 200) : ∀ (w : List Int) {q : α}, q ∈ ord f s (letters al) → (∀ x ∈ w, x ∈ letters al) → run (num al f s acc) ((ord f s (letters al)).idxOf q : Int) w = ((ord f s (letters al)).idxOf (w.foldl f q) : Int) ∧ w.foldl f q ∈ ord f s (letters al)
  | [], q, hq, _ => ⟨rfl, hq⟩
  | x :: w, q, hq, hw => by
    have hx := hw x (by simp)
    have hn := ord_closed h hq x hx
    have := run_num hal h w hn (fun y hy => hw y (by simp [hy]))
    refine ⟨?_, this.2⟩
    have e : run (num al f s acc) ((ord f s (letters al)).idxOf q : Int) (x :: w) = run (num al f s acc) (goA (num al f s acc) ((ord f s (letters al)).idxOf q : Int) x) w := rfl
    rw [e, goA_num hal hq hx]
    exact this.1
end num
def accA (a : A) (q : Int) : Bool := a.acc.getD q.toNat false
def trim (a : A) : A := num a.al (goA a) 0 (accA a)
theorem inU {n : Nat} {q : Int} : q ∈ (List.range n).map (fun i : Nat => (i : Int)) ↔ 0 ≤ q ∧ q < n := by
  rw [List.mem_map]
  constructor
  · rintro ⟨i, hi, rfl⟩; have := List.mem_range.1 hi; omega
  · rintro ⟨h1, h2⟩; exact ⟨q.toNat, List.mem_range.2 (by omega), by omega⟩
theorem trim_bfs_len {a : A} (hv : validA a = true) (i : Nat) : (bfs (goA a) 0 (letters a.al) i).length ≤ a.next.length :=
  bfs_len (U := (List.range a.next.length).map (fun i : Nat => (i : Int))) (inU.2 (zero_in hv)) (fun q hq l hl => inU.2 (goA_in hv (inU.1 hq) ⟨(mem_letters hl).1, (mem_letters hl).2.1⟩)) (by simp) i
theorem trim_len {a : A} (hv : validA a = true) : (ord (goA a) 0 (letters a.al)).length ≤ a.next.length := trim_bfs_len hv _
theorem trim_valid {a : A} (hv : validA a = true) : validA (trim a) = true := num_valid (validA_spec.1 hv).1 (by have := trim_len hv; have := (validA_spec.1 hv).2.1; omega)
def step2 (a b : A) (p : Int × Int) (l : Int) : Int × Int := (goA a p.1 l, goA b p.2 l)
theorem in2 {a b : A} (hv : validA a = true) (hv' : validA b = true) {p : Int × Int} (hp : (0 ≤ p.1 ∧ p.1 < a.next.length) ∧ 0 ≤ p.2 ∧ p.2 < b.next.length) {l : Int} (hl : 0 ≤ l ∧ l < 6) : (0 ≤ (step2 a b p l).1 ∧ (step2 a b p l).1 < a.next.length) ∧ 0 ≤ (step2 a b p l).2 ∧ (step2 a b p l).2 < b.next.length :=
  ⟨goA_in hv hp.1 hl, goA_in hv' hp.2 hl⟩
end Go.Proofs.Ytoboklelbbgcnaa
set_option linter.unusedSimpArgs false
set_option linter.unusedVariables false
namespace Go.Proofs.Ytoboklelbbgcnaa
def In2 (a b : A) (p : Int × Int) : Prop := (0 ≤ p.1 ∧ p.1 < a.next.length) ∧ 0 ≤ p.2 ∧ p.2 < b.next.length
theorem in_zero {a b : A} (hv : validA a = true) (hv' : validA b = true) : In2 a b (0, 0) := ⟨zero_in hv, zero_in hv'⟩
theorem le144 {a b : A} (hv : validA a = true) (hv' : validA b = true) : a.next.length * b.next.length ≤ 144 := Nat.mul_le_mul (validA_spec.1 hv).2.1.2 (validA_spec.1 hv').2.1.2
def enc2 (b : A) (p : Int × Int) : Int := p.1 * (b.next.length : Int) + p.2
def fP (a b : A) (q x : Int) : Int := goA a (q / (b.next.length : Int)) x * (b.next.length : Int) + goA b (q % (b.next.length : Int)) x
def InP (a b : A) (q : Int) : Prop := 0 ≤ q ∧ q < ((a.next.length * b.next.length : Nat) : Int)
theorem inP_div {a b : A} {q : Int} (hv' : validA b = true) (h : InP a b q) : In2 a b (q / (b.next.length : Int), q % (b.next.length : Int)) := by
  have hb : 0 < (b.next.length : Int) := (zero_in hv').2
  refine ⟨⟨Int.ediv_nonneg h.1 (Int.le_of_lt hb), ?_⟩, Int.emod_nonneg _ (by omega), Int.emod_lt_of_pos _ hb⟩
  have h2 := h.2
  rw [Int.natCast_mul] at h2
  exact Int.ediv_lt_of_lt_mul hb h2
theorem inP_enc {a b : A} {p : Int × Int} (h : In2 a b p) : InP a b (enc2 b p) := by
  obtain ⟨⟨h1, h2⟩, h3, h4⟩ := h
  have hb : 0 ≤ (b.next.length : Int) := by omega
  have h5 : p.1 * (b.next.length : Int) ≤ ((a.next.length : Int) - 1) * (b.next.length : Int) := Int.mul_le_mul_of_nonneg_right (by omega) hb
  have h6 : 0 ≤ p.1 * (b.next.length : Int) := Int.mul_nonneg h1 hb
  unfold InP enc2
  rw [Int.natCast_mul]
  rw [Int.sub_mul] at h5
  omega
theorem enc_div {a b : A} {p : Int × Int} (h : In2 a b p) : enc2 b p / (b.next.length : Int) = p.1 ∧ enc2 b p % (b.next.length : Int) = p.2 := by
  obtain ⟨⟨h1, h2⟩, h3, h4⟩ := h
  have hb : 0 < (b.next.length : Int) := by omega
  unfold enc2
  constructor
  · rw [Int.add_comm, Int.add_mul_ediv_right _ _ (by omega), Int.ediv_eq_zero_of_lt h3 h4, Int.zero_add]
  · rw [Int.add_comm, Int.add_mul_emod_self_right, Int.emod_eq_of_lt h3 h4]
theorem fP_enc {a b : A} {p : Int × Int} (h : In2 a b p) (x : Int) : fP a b (enc2 b p) x = enc2 b (step2 a b p x) := by
  obtain ⟨h1, h2⟩ := enc_div h
  unfold fP
  rw [h1, h2]
  rfl
theorem fP_in {a b : A} (hv : validA a = true) (hv' : validA b = true) {q : Int} (h : InP a b q) {x : Int} (hx : 0 ≤ x ∧ x < 6) : InP a b (fP a b q x) :=
  inP_enc (p := (goA a (q / (b.next.length : Int)) x, goA b (q % (b.next.length : Int)) x)) (in2 hv hv' (inP_div hv' h) hx)
theorem enc_inj {a b : A} (p q : Int × Int) (hp : In2 a b p) (hq : In2 a b q) (e : enc2 b p = enc2 b q) : p = q := by
  have h1 := enc_div hp
  have h2 := enc_div hq
  rw [e] at h1
  ext
  · rw [← h1.1, h2.1]
  · rw [← h1.2, h2.2]
theorem fP_mul {a b : A} (hv : validA a = true) (hv' : validA b = true) {q : Int} (h : InP a b q) {x : Int} (hx : 0 ≤ x ∧ x < 6) : 0 ≤ goA a (q / (b.next.length : Int)) x * (b.next.length : Int) ∧ goA a (q / (b.next.length : Int)) x * (b.next.length : Int) ≤ 144 := by
  have h1 : 0 ≤ goA a (q / (b.next.length : Int)) x ∧ goA a (q / (b.next.length : Int)) x < a.next.length := goA_in hv (inP_div hv' h).1 hx
  have h2 := (validA_spec.1 hv).2.1
  have h3 := (validA_spec.1 hv').2.1
  refine ⟨Int.mul_nonneg h1.1 (by omega), ?_⟩
  have : goA a (q / (b.next.length : Int)) x * (b.next.length : Int) ≤ 12 * (b.next.length : Int) := Int.mul_le_mul_of_nonneg_right (by omega) (by omega)
  have h4 : (b.next.length : Int) ≤ 12 := by omega
  omega
end Go.Proofs.Ytoboklelbbgcnaa
set_option linter.unusedSimpArgs false
set_option linter.unusedVariables false
namespace Go.Proofs.Ytoboklelbbgcnaa
open Go.RowKit
def encI (x : Int) : Value := .int .i64 x
def OwnRowsZ (w : World) (B U : Nat) (e e' : TypeId) (v : Value) (xss : List (List Int)) (z : Value) : Prop :=
  ∃ rs, Own w B e v rs ∧ rs.length = xss.length ∧ (∀ i r, rs[i]? = some r → Own w B e' r ((xss.getD i []).map (Value.int .i64)) ∧ ∀ k, r.ownBlock = some k → k < U ∧ z.ownBlock ≠ some k) ∧
    ∀ (i j : Nat) (r r' : Value), rs[i]? = some r → rs[j]? = some r' → i ≠ j → ∀ k, r.ownBlock = some k → r'.ownBlock ≠ some k
section
variable {w w' : World} {B U : Nat} {e e' : TypeId} {v z : Value} {xss : List (List Int)}
theorem OwnRowsZ.nil (w : World) (B U : Nat) (e e' : TypeId) (z : Value) : OwnRowsZ w B U e e' (.slice none 0 0) [] z := ⟨[], Own.nil _ _ _, rfl, by simp, by simp⟩
theorem OwnRowsZ.to (h : OwnRowsZ w B U e e' v xss z) : OwnRows w B U e e' v xss := by
  obtain ⟨rs, h1, h2, h3, h4⟩ := h
  exact ⟨rs, h1, h2, fun i r hr => ⟨(h3 i r hr).1, fun k hk => ((h3 i r hr).2 k hk).1⟩, h4⟩
theorem OwnRowsZ.ext (h : OwnRowsZ w B U e e' v xss z) (x : Ext w w') : OwnRowsZ w' B U e e' v xss z := by
  obtain ⟨rs, h1, h2, h3, h4⟩ := h
  exact ⟨rs, h1.ext x, h2, fun i r hr => ⟨(h3 i r hr).1.ext x, (h3 i r hr).2⟩, h4⟩
theorem OwnRowsZ.up {U' : Nat} (h : OwnRowsZ w B U e e' v xss z) (hU : U ≤ U') : OwnRowsZ w B U' e e' v xss z := by
  obtain ⟨rs, h1, h2, h3, h4⟩ := h
  exact ⟨rs, h1, h2, fun i r hr => ⟨(h3 i r hr).1, fun k hk => ⟨Nat.lt_of_lt_of_le ((h3 i r hr).2 k hk).1 hU, ((h3 i r hr).2 k hk).2⟩⟩, h4⟩
theorem OwnRowsZ.now (h : OwnRowsZ w B U e e' v xss z) : OwnRowsZ w B w.heap.size e e' v xss z := by
  obtain ⟨rs, h1, h2, h3, h4⟩ := h
  exact ⟨rs, h1, h2, fun i r hr => ⟨(h3 i r hr).1, fun k hk => ⟨((h3 i r hr).1.lt k hk).2, ((h3 i r hr).2 k hk).2⟩⟩, h4⟩
theorem OwnRowsZ.mapped {κ : Type} {enc : κ → Value} {b : Nat} {xs : List κ} (h : OwnRowsZ w B U e e' v xss z) (hm : MapN enc w b xs) (hg : w.grownBy w' (some b)) : OwnRowsZ w' B U e e' v xss z := by
  obtain ⟨rs, h1, h2, h3, h4⟩ := h
  exact ⟨rs, h1.mapped hm hg, h2, fun i r hr => ⟨(h3 i r hr).1.mapped hm hg, (h3 i r hr).2⟩, h4⟩
theorem OwnRowsZ.apart {B' : Nat} {u : Value} {us : List Value} (h : OwnRowsZ w B U e e' v xss z) (ho : Own w B' e' u us) (hg : w.grownBy w' u.ownBlock) (hB : U ≤ B') (hne : e' ≠ e) : OwnRowsZ w' B U e e' v xss z := by
  obtain ⟨rs, h1, h2, h3, h4⟩ := h
  refine ⟨rs, h1.owned ho hg hne, h2, fun i r hr => ⟨(h3 i r hr).1.grown hg (fun k hk hc => ?_), (h3 i r hr).2⟩, h4⟩
  have := ((h3 i r hr).2 k hk).1
  have := (ho.lt k hc).1
  omega
theorem OwnRowsZ.grow {B' : Nat} {z' : Value} {us : List Value} (h : OwnRowsZ w B U e e' v xss z) (ho : Own w B' e' z us) (hg : w.grownBy w' z.ownBlock) (hf : ∀ k, z'.ownBlock = some k → z.ownBlock = some k ∨ w.heap.size ≤ k) (hne : e' ≠ e) : OwnRowsZ w' B U e e' v xss z' := by
  obtain ⟨rs, h1, h2, h3, h4⟩ := h
  refine ⟨rs, h1.owned ho hg hne, h2, fun i r hr => ⟨(h3 i r hr).1.grown hg (fun k hk hc => ((h3 i r hr).2 k hk).2 hc), fun k hk => ⟨((h3 i r hr).2 k hk).1, fun hc => ?_⟩⟩, h4⟩
  rcases hf k hc with h5 | h5
  · exact ((h3 i r hr).2 k hk).2 h5
  · have := ((h3 i r hr).1.lt k hk).2; omega
theorem OwnRowsZ.open (h : OwnRowsZ w B U e e' v xss z) (hne : e ≠ e') : ∃ rs, Own w B e v rs ∧ rs.length = xss.length ∧
    ∀ r xs w1 v' w', Ext w w1 → Own w1 U e' r (xs.map (Value.int .i64)) → Apart z r → B ≤ U → Own w' B e v' (rs ++ [r]) → w1.grownBy w' v.ownBlock → OwnRowsZ w' B w'.heap.size e e' v' (xss ++ [xs]) z := by
  obtain ⟨rs, h1, h2, h3, h4⟩ := h
  refine ⟨rs, h1, h2, fun r xs w1 v' w' x hr ha hBU hv hg => ?_⟩
  have hv1 := h1.ext x
  have hr' := hr.owned hv1 hg hne
  have hrow : ∀ i q, (rs ++ [r])[i]? = some q → (rs[i]? = some q ∧ i < rs.length) ∨ (i = rs.length ∧ q = r) := by
    intro i q hq
    rw [List.getElem?_append] at hq
    split at hq
    · exact .inl ⟨hq, by assumption⟩
    · right
      have : i - rs.length = 0 := by
        rcases Nat.eq_zero_or_pos (i - rs.length) with h | h
        · exact h
        · rw [List.getElem?_eq_none (by simp; omega)] at hq; cases hq
      rw [this] at hq
      simp at hq
      exact ⟨by omega, hq.symm⟩
  refine ⟨rs ++ [r], hv, by simp [h2], fun i q hq => ?_, fun i j q q' hq hq' hij k hk hk' => ?_⟩
  · rcases hrow i q hq with ⟨hq, hlt⟩ | ⟨rfl, rfl⟩
    · have e1 : (xss ++ [xs]).getD i [] = xss.getD i [] := by
        simp [List.getElem?_append, show i < xss.length by omega]
      rw [e1]
      have ho := ((h3 i q hq).1.ext x).owned hv1 hg hne
      exact ⟨ho, fun k hk => ⟨(ho.lt k hk).2, ((h3 i q hq).2 k hk).2⟩⟩
    · have e1 : (xss ++ [xs]).getD rs.length [] = xs := by
        simp [List.getElem?_append, h2]
      rw [e1]
      exact ⟨hr'.mono hBU, fun k hk => ⟨(hr'.lt k hk).2, fun hc => ha k hc hk⟩⟩
  · rcases hrow i q hq with ⟨hq1, _⟩ | ⟨hi1, hq1⟩ <;> rcases hrow j q' hq' with ⟨hq2, _⟩ | ⟨hj1, hq2⟩
    · exact h4 i j q q' hq1 hq2 hij k hk hk'
    · have a1 := ((h3 i q hq1).2 k hk).1
      have a2 := (hr.lt k (hq2 ▸ hk')).1
      omega
    · have a1 := ((h3 j q' hq2).2 k hk').1
      have a2 := (hr.lt k (hq1 ▸ hk)).1
      omega
    · exact hij (by omega)
end
theorem Sq.insert {P : Program} {N : Nat} {ops : Array Oper} {Q : Exit → Act → World → Prop} {rest : List Oper} {l : Slots} {w : World} {ty : TypeId} {pos : String} {after : Array Edge} {g : Option (Nat × Bool)}
    {κ : Type} [DecidableEq κ] {enc : κ → Value} {b : Nat} {xs : List κ} {t : TypeId} {m x y : Operand} {k : κ} {n : Int} (ht : KeyT P t enc) (hm : MapN enc w b xs) (hg : On ops l g) (hx : ev l m = some (.map (some b))) (hk : ev l x = some (enc k)) (hy : ev l y = some (.int .i64 n)) (hn : n = xs.length) (hin : k ∉ xs)
    (h : ∀ w', w.grownBy w' (some b) → MapN enc w' b (xs ++ [k]) → Sq P N ops Q rest l w') : Sq P N ops Q (⟨none, .insert t m x y, ty, pos, after, g⟩ :: rest) l w := by
  obtain ⟨kt, et, kd, h1, h2, h3, h4, h5⟩ := ht.types
  obtain ⟨es, c, hb, hes⟩ := hm
  have hf := findKey_num (P := P) (w := w) h2 h3 k hes
  rw [if_neg hin] at hf
  have hs := MapKept.heap_set (o' := .map (es.push { key := enc k, val := .int .i64 n, born := c }) (c + 1)) hb
  refine .unit (w' := { w with heap := w.heap.setIfInBounds b (.map (es.push { key := enc k, val := .int .i64 n, born := c }) (c + 1)) }) hg rfl (fun a ha => ?_) (h _ ⟨rfl, rfl, rfl, by simp, fun j _ hne => hs.2 j (fun e => hne (congrArg some e))⟩ ⟨_, _, hs.1, ?_⟩)
  · simp [execOp, Instr.mapUpdate, ha.ev hx, ha.ev hk, ha.ev hy, run_underlying h1, MapKept.run_getObj_map hb, MapKept.run_checkKey h2 (h5 k), hf, MapKept.run_setObj_map _ hb, Result.andThen]
  · rw [Array.toList_push, List.map_append, hes, List.zipIdx_append, List.map_append, hn]
    simp
theorem keyI {P : Program} {t kt et : TypeId} (h1 : P.underlying t = some (.map kt et)) (h2 : P.underlying kt = some (.int .i64)) (h3 : ∀ w, (zeroValue et).run P w = .ok (.int .i64 0) w) : KeyT P t encI :=
  ⟨kt, et, .int .i64, h1, h2, fun x y => by simp only [Instr.sameNow, encI, if_true]; first | done | (congr 1; first | done | (rw [Bool.eq_iff_iff]; simp)), h3, fun x => rfl⟩
def Clo (P : Program) (w0 : World) (fv : Value) (D : Int → Prop) (f : Int → Int → Int) : Prop :=
  ∃ k fn, ∃ cs : List Value, fv = .func (.func k) #[] cs.toArray ∧ Fn P k fn ∧ ∀ w q x, Ext w0 w → D q → 0 ≤ x ∧ x < 6 → Ret P k ([Value.int .i64 q, Value.int .i64 x] ++ cs).toArray w fun v w' => v = .int .i64 (f q x) ∧ Ext w w'
theorem ord_lim {f : Int → Int → Int} {s : Int} {L : List Int} {i k : Nat} {q : Int} {lim : Int} (hq : (bfs f s L i)[i]? = some q) (hi : i + 1 ≤ 200) (hl : (((mid f s L i q k).length : Nat) : Int) = lim) (hk : k < L.length) (hn : f q (L.getD k 0) ∉ mid f s L i q k) : ¬ (((ord f s L).length : Nat) : Int) ≤ lim := by
  have h1 := (mid_prefix (k := k + 1) hq).length_le
  rw [mid_succ hk, addNode_F hn, List.length_append] at h1
  have h2 := (ord_prefix (f := f) (s := s) (L := L) hi).length_le
  simp only [List.length_singleton] at h1
  omega
theorem ord_fin {f : Int → Int → Int} {s : Int} {L : List Int} {i : Nat} {lim : Int} (h : (bfs f s L i).length ≤ i) (hi : i ≤ 200) (hl : (((bfs f s L i).length : Nat) : Int) ≤ lim) : bfs f s L i = ord f s L ∧ ((((ord f s L).length : Nat) : Int) ≤ lim) := by
  have e := ord_done h hi
  exact ⟨e, by rw [← e]; exact hl⟩
theorem rowsAt_fin {f : Int → Int → Int} {s : Int} {L : List Int} {i : Nat} (h : (bfs f s L i).length ≤ i) (hi : i ≤ 200) : rowsAt f L (bfs f s L i) i = (ord f s L).map (rowAt f L (ord f s L)) := by
  rw [ord_done h hi]
  unfold rowsAt
  rw [List.take_of_length_le (by rw [← ord_done h hi]; exact h)]
theorem mid_at {f : Int → Int → Int} {s : Int} {L : List Int} {i k : Nat} {q : Int} (hq : (bfs f s L i)[i]? = some q) : (mid f s L i q k).getD i 0 = q := by
  obtain ⟨t, ht⟩ := mid_prefix0 (f := f) (s := s) (L := L) i q k
  have hi := (List.getElem?_eq_some_iff.1 hq).1
  rw [← ht, List.getD_eq_getElem?_getD, List.getElem?_append_left hi, hq]
  rfl
theorem notin_snoc {xs : List Int} {n : Int} {k : Nat} (hp : n ∉ xs.take k) (hk : k < xs.length) (hne : ¬ xs.getD k 0 = n) : n ∉ xs.take (k + 1) := by
  rw [take_snoc 0 hk]
  simp only [List.mem_append, List.mem_singleton, not_or]
  exact ⟨hp, fun h => hne h.symm⟩
theorem notin_done {xs : List Int} {n : Int} {k : Nat} (hp : n ∉ xs.take k) (hk : xs.length ≤ k) : n ∉ xs := by rwa [List.take_of_length_le hk] at hp
theorem Ints.low {w : World} {e : TypeId} {v : Value} {xs : List Int} (h : Ints w e v xs) (hx : 0 < xs.length) : ∀ k, v.ownBlock = some k → k < w.heap.size := by
  intro k hk
  rcases h with ⟨h0, _⟩ | ⟨b, o, c, cur, fr, rfl, hb, _⟩
  · rw [List.map_eq_nil_iff] at h0; subst h0; simp at hx
  · simp [Value.ownBlock] at hk
    subst hk
    exact lt_of_block hb
theorem getD_app {α : Type} {xs ys : List α} {d : α} {k : Nat} (h : k < xs.length) : (xs ++ ys).getD k d = xs.getD k d := by
  rw [List.getD_eq_getElem?_getD, List.getElem?_append_left h, ← List.getD_eq_getElem?_getD]
theorem Small.push2 {n m : Nat} {a : A} {row : List Int} {b : Bool} (h : Small n a) (hm : n + 1 ≤ m) (hr : row.length ≤ m) : Small m ⟨a.al, a.next ++ [row], a.acc ++ [b]⟩ := by
  have h1 := h.2.1
  have h2 := h.2.2.1
  refine ⟨h.1, by simp only [List.length_append, List.length_singleton]; omega, by simp only [List.length_append, List.length_singleton]; omega, fun r hr' => ?_⟩
  rcases List.mem_append.1 hr' with h3 | h3
  · have := h.2.2.2 r h3; omega
  · rw [List.mem_singleton.1 h3]; exact hr
theorem Small.accs {n m : Nat} {a : A} {ys : List Bool} (h : Small n a) (hm : n ≤ m) (hy : ys.length = a.acc.length) : Small m ⟨a.al, a.next, ys⟩ :=
  ⟨h.1, Nat.le_trans h.2.1 hm, by have := h.2.2.1; show ys.length ≤ m; omega, fun r hr => Nat.le_trans (h.2.2.2 r hr) hm⟩
section three
variable {P : Program} {N : Nat} {ops : Array Oper} {Q : Exit → Act → World → Prop} {S : World → Prop} {k fuel : Nat} {listed : Array Bool} {l : Slots} {w : World}
theorem Gq.three {o o' o'' : Oper} (i j m : Nat) (hi : ops[i]? = some o) (hj : ops[j]? = some o') (hm : ops[m]? = some o'') (hr : (Region.ready .any ops listed == [i, j, m]) = true) (h : Sq P N ops (AfterG P ops Q S k fuel i listed) [o] l w) (h' : Sq P N ops (AfterG P ops Q S k fuel j listed) [o'] l w) (h'' : Sq P N ops (AfterG P ops Q S k fuel m listed) [o''] l w) : Gq P N ops Q S k (fuel + 1) listed l w := by
  intro a ha
  have hr' : Region.ready .any ops listed = [i, j, m] := by simpa using hr
  refine ⟨fun h0 => absurd (hr' ▸ h0) (by simp), fun n hn => ?_⟩
  rw [hr'] at hn
  rcases List.mem_cons.1 hn with rfl | hn
  · exact wpOp_of_list (Q' := AfterG P ops Q S k fuel _ listed) hi (fun _ _ => rfl) (fun _ _ _ => rfl) (fun _ _ => rfl) (h a ha)
  · rcases List.mem_cons.1 hn with rfl | hn
    · exact wpOp_of_list (Q' := AfterG P ops Q S k fuel _ listed) hj (fun _ _ => rfl) (fun _ _ _ => rfl) (fun _ _ => rfl) (h' a ha)
    · obtain rfl : n = m := by simpa using hn
      exact wpOp_of_list (Q' := AfterG P ops Q S k fuel _ listed) hm (fun _ _ => rfl) (fun _ _ _ => rfl) (fun _ _ => rfl) (h'' a ha)
end three
theorem Eq.ret3 {P : Program} {fn : Func} {N t u x : Nat} {l : Slots} {w : World} {v v' v'' : Value} {R : Value → World → Prop} (hr : fn.results = #[.tmp t, .tmp u, .tmp x]) (hv : look l t = some v) (hv' : look l u = some v') (hv'' : look l x = some v'') (h : R (.tuple #[v, v', v'']) w) :
    Eq N (bodyPost P fn fun e w' => ∃ v, e = .returned v ∧ R v w') .ret l w := fun a ha =>
  bodyPost_ret (v := .tuple #[v, v', v'']) (by
    have e : (results fn a.tmps).run P w = .ok (.tuple #[a.tmps.getD t undef, a.tmps.getD u undef, a.tmps.getD x undef]) w := by simp [results, hr]
    rw [e, ha.slot _ _ hv, ha.slot _ _ hv', ha.slot _ _ hv'']) ha.defers ⟨_, rfl, h⟩
section wid2
variable {w : World} {B : Nat} {e : TypeId} {v : Value} {ps : List (Int × Int)}
theorem Wid.shape {n : Nat} {rows : List (List Value)} (h : Wid w B e n v rows) : ∃ p c, v = .slice p rows.length c := by
  rcases h.cases with ⟨rfl, rfl⟩ | ⟨g, cap, cs, rfl, _⟩
  · exact ⟨none, 0, rfl⟩
  · exact ⟨_, _, rfl⟩
end wid2
section wid3
variable {P : Program} {N : Nat} {ops : Array Oper} {Q : Exit → Act → World → Prop} {rest : List Oper} {l : Slots} {w : World}
variable {d : Nat} {ty : TypeId} {pos : String} {after : Array Edge} {g : Option (Nat × Bool)}
theorem Still.ixV {t e : TypeId} {z : Value} {n gb len c : Nat} {x ix : Operand} {k : IntKind} {i : Int} {v : Value} (hs : SlW P t e z n) (hv : v = .slice (some ⟨gb, 0, none⟩) len c) (hx : ev l x = some v) (hix : ev l ix = some (.int k i)) (hi : 0 ≤ i ∧ i < (len : Int)) :
    Still P N l ⟨some d, .indexAddr t x ix, ty, pos, after, g⟩ (.pointer (some ⟨gb, i.toNat * n, none⟩)) w := Still.ixW hs (by rw [hx, hv]) hix hi
theorem Sq.lenWid {t e : TypeId} {n B : Nat} {x : Operand} {v : Value} {rows : List (List Value)} (hr : Wid w B e n v rows) (hg : On ops l g) (hN : Nat.blt d N = true) (ht : P.underlying t = some (.slice (P.elem t))) (hx : ev l x = some v)
    (h : Sq P N ops Q rest ((d, .int .i64 rows.length) :: l) w) : Sq P N ops Q (⟨some d, .call ⟨.builtin .len, #[x], #[t]⟩, ty, pos, after, g⟩ :: rest) l w := by
  obtain ⟨p, c, rfl⟩ := hr.shape
  exact .len hg hN ht hx h
end wid3
theorem Wid.low {w : World} {B n : Nat} {e : TypeId} {v : Value} {rows : List (List Value)} (h : Wid w B e n v rows) : ∀ k, v.ownBlock = some k → k < w.heap.size := fun k hk => (h.lt k hk).2
theorem mul144 {a b : A} (hv : validA a = true) (hv' : validA b = true) : -9223372036854775808 ≤ (a.next.length : Int) * (b.next.length : Int) ∧ (a.next.length : Int) * (b.next.length : Int) ≤ 9223372036854775807 := by
  have h := le144 hv hv'
  have h2 : ((a.next.length * b.next.length : Nat) : Int) ≤ 144 := by omega
  rw [Int.natCast_mul] at h2
  have h3 : 0 ≤ (a.next.length : Int) * (b.next.length : Int) := Int.mul_nonneg (by omega) (by omega)
  omega
end Go.Proofs.Ytoboklelbbgcnaa
set_option linter.unusedSimpArgs false
set_option linter.unusedVariables false
namespace Go.Proofs.Ytoboklelbbgcnaa
set_option maxRecDepth 100000
theorem slw67 : SlW Try.prog 67 26 (.agg #[.int .i64 0, .slice none 0 0, .slice none 0 0]) 3 := ⟨by kernel_rfl, ⟨_, rfl, by kernel_rfl, by kernel_rfl, by decide⟩, by kernel_rfl, by decide⟩
theorem slw106 : SlW Try.prog 106 108 (.agg #[.int .i64 0, .int .i64 0, .slice none 0 0]) 3 := ⟨by kernel_rfl, ⟨_, rfl, by kernel_rfl, by kernel_rfl, by decide⟩, by kernel_rfl, by decide⟩
theorem key118 : KeyT Try.prog 118 encI := keyI (kt := 3) (et := 3) (by kernel_rfl) (by kernel_rfl) zero3
end Go.Proofs.Ytoboklelbbgcnaa
set_option linter.unusedSimpArgs false
set_option linter.unusedVariables false
namespace Go.Proofs.Ytoboklelbbgcnaa
open Go.RowKit
set_option maxRecDepth 100000 in
theorem l4Change_c (w0 : World) (rb : Nat) (bv : Value) (p : Int) (bs : List UInt8) (e0 : TypeId) (hR : Blk w0 rb 79 [bv, .int .i64 p]) (hb : Src w0 e0 bv bs rb) (hbl : bs.length ≤ 2000) (hp : 0 ≤ p ∧ p ≤ 700000000) (a : A) (nx ac : Value) (hnx : Rows w0 55 3 nx a.next) (hac : Bools w0 4 ac a.acc) (N : Nat) (hN : N ≤ 1000) (hsm : Small N a) : Ret Try.prog 49 #[Value.pointer (some ⟨rb, 0, none⟩), Value.agg #[Value.int .i64 a.al, nx, ac]] w0 (fun v w => (∃ p', (p ≤ p' ∧ p' ≤ p + 10) ∧ Blk w rb 79 [bv, .int .i64 p'] ∧ w0.grownBy w (some rb)) ∧ ∃ a', RowsA w v a' ∧ Small (N + 20) a') := by
  have G := World.grownBy.refl w0 (some rb)
  have hlt := hR.lt
  have hsm1 := hsm.2.1
  have hsm2 := hsm.2.2.1
  refine Ret.of (args := [Value.pointer (some ⟨rb, 0, none⟩), Value.agg #[Value.int .i64 a.al, nx, ac]]) Try.func49 rfl rfl rfl ?_
  rintro _ rfl
  show Cq _ _ _ _ [(0, Value.pointer (some ⟨rb, 0, none⟩)), (1, Value.agg #[Value.int .i64 a.al, nx, ac])] _
  refine Cq.seq ?_
  refine Cq.region ?_
  refine Sq.box .plain rfl rfl (fun b1 w2 e3 hB4 hlo5 => ?_)
  have hd6 := Nat.lt_of_lt_of_le hR.lt hlo5
  have hd7 := Nat.le_trans (World.grownBy.size G) hlo5
  have hs8 := Below.size e3
  replace hR := hR.ext e3
  replace G := grown_trans G (Ext.to_grown e3 _)
  replace hnx := hnx.ext e3
  replace hac := hac.ext e3
  refine Sq.alloc zero26 .plain rfl (fun b9 w10 e11 hB12 hlo13 => ?_)
  have hd14 := Nat.lt_of_lt_of_le hR.lt hlo13
  have hd15 := Nat.le_trans (World.grownBy.size G) hlo13
  have hd16 := Nat.lt_of_lt_of_le hB4.lt hlo13
  have hs17 := Below.size e11
  replace hR := hR.ext e11
  replace G := grown_trans G (Ext.to_grown e11 _)
  replace hnx := hnx.ext e11
  replace hac := hac.ext e11
  replace hB4 := hB4.ext e11
  refine Sq.nil ?_
  refine Eq.next ?_
  refine Cq.seq ?_
  refine Cq.region ?_
  refine Sq.loadAgg agg26 .plain rfl rfl hB4 rfl ?_
  have hd25 := hR.lt
  have hd26 := hB4.lt
  have hd27 := hB12.lt
  refine Sq.call fn75 .plain rfl rfl (l3Copy_c _ a _ _ hnx hac (hsm.fit (by omega))) ?_
  rintro _ w19 ⟨⟨nx21, ac22, rfl, hn23, ha24⟩, e20⟩
  have hs28 := World.grownBy.size G
  have hs29 := Below.size e20
  replace hR := hR.ext e20
  replace G := grown_trans G (Ext.to_grown e20 _)
  replace hB4 := hB4.ext e20
  replace hB12 := hB12.ext e20
  refine Sq.alloc zero26 .plain rfl (fun b30 w31 e32 hB33 hlo34 => ?_)
  have hd35 := Nat.lt_of_lt_of_le hR.lt hlo34
  have hd36 := Nat.le_trans (World.grownBy.size G) hlo34
  have hd37 := Nat.lt_of_lt_of_le hB4.lt hlo34
  have hd38 := Nat.lt_of_lt_of_le hB12.lt hlo34
  have hs39 := Below.size e32
  replace hR := hR.ext e32
  replace G := grown_trans G (Ext.to_grown e32 _)
  replace hB12 := hB12.ext e32
  replace hn23 := hn23.ext e32
  replace ha24 := ha24.ext e32
  refine Sq.storeAgg agg26 .plain rfl rfl (one_cons rfl (one_cons (Rows.one (OwnRows.rows hn23)) (one_cons (Row.one (Own.row ha24)) one_nil))) hB33 rfl rfl (fun w40 g41 hB42 => ?_)
  have hs43 := World.grownBy.size g41
  replace hR := hR.grown g41 (by intro h; injection h with h; omega)
  replace G := grown_far G g41 (fun k hk => by injection hk with hk; subst hk; omega)
  replace hB12 := hB12.grown g41 (by intro h; injection h with h; omega)
  replace hn23 := hn23.stored g41 hB33 (by decide) (by decide)
  replace ha24 := ha24.stored g41 hB33 (by decide)
  replace hB33 := hB42
  refine Sq.nil ?_
  refine Eq.next ?_
  refine Cq.seq ?_
  refine Cq.region ?_
  refine Sq.fieldAddr fld26_1 .plain rfl rfl ?_
  refine Sq.loadB one23 .plain rfl rfl hB33 rfl ?_
  refine Sq.lenRows (OwnRows.rows hn23) .plain rfl und23 rfl ?_
  refine Sq.assign .plain rfl rfl ?_
  refine Sq.nil ?_
  refine Eq.next ?_
  refine Cq.seq ?_
  refine Cq.seq ?_
  refine Cq.region ?_
  refine Sq.move .plain rfl rfl ?_
  refine Sq.eql .plain rfl rfl rfl ?_
  refine Sq.part (fun c44 => ?_) (fun c44 => ?_)
  · refine Sq.nil ?_
    refine Eq.next ?_
    refine Cq.thn rfl ?_
    refine Cq.seq ?_
    refine Cq.region ?_
    refine Sq.loadAgg agg26 .plain rfl rfl hB33 rfl ?_
    refine Sq.storeAgg agg26 .plain rfl rfl (one_cons rfl (one_cons (Rows.one (OwnRows.rows hn23)) (one_cons (Row.one (Own.row ha24)) one_nil))) hB12 rfl rfl (fun w45 g46 hB47 => ?_)
    have hs48 := World.grownBy.size g46
    replace hR := hR.grown g46 (by intro h; injection h with h; omega)
    replace G := grown_far G g46 (fun k hk => by injection hk with hk; subst hk; omega)
    replace hn23 := hn23.stored g46 hB12 (by decide) (by decide)
    replace ha24 := ha24.stored g46 hB12 (by decide)
    replace hB12 := hB47
    refine Sq.nil ?_
    refine Eq.next ?_
    refine Cq.ret ?_
    refine Eq.pastRet ?_
    refine Eq.retCell rfl rfl agg26 hB12 rfl ?_
    exact ⟨⟨_, by omega, hR, G⟩, a, ⟨_, _, rfl, (OwnRows.rows hn23), (Own.row ha24)⟩, hsm.mono (by omega)⟩
  refine Sq.nil ?_
  refine Eq.next ?_
  refine Cq.els rfl ?_
  refine Cq.skip ?_
  refine Eq.next ?_
  refine Cq.seq ?_
  refine Cq.region ?_
  refine Sq.move .plain rfl rfl ?_
  refine Sq.move .plain rfl rfl ?_
  refine Sq.call fn48 .plain rfl rfl (pick_c _ _ _ _ _ _ hR (hb.go G) hbl (by omega) (List.length a.next : Int) (by omega)) ?_
  rintro _ w50 ⟨⟨p51, hp54, hB53, g52⟩, ⟨k55, rfl, hk56⟩⟩
  have hs57 := World.grownBy.size g52
  have hs58 := World.grownBy.size G
  have hs59 := World.grownBy.size g52
  replace G := grown_trans G g52
  replace hB12 := hB12.grown g52 (by intro h; injection h with h; omega)
  replace hn23 := hn23.stored g52 hR (by decide) (by decide)
  replace ha24 := ha24.stored g52 hR (by decide)
  replace hB33 := hB33.grown g52 (by intro h; injection h with h; omega)
  replace hR := hB53
  refine Sq.assign .plain rfl rfl ?_
  refine Sq.nil ?_
  refine Eq.next ?_
  refine Cq.seq ?_
  refine Cq.seq ?_
  refine Cq.region ?_
  refine Sq.move .plain rfl rfl ?_
  refine Sq.call fn48 .plain rfl rfl (pick_c _ _ _ _ _ _ hR (hb.go G) hbl (by omega) 4 (by omega)) ?_
  rintro _ w61 ⟨⟨p62, hp65, hB64, g63⟩, ⟨k66, rfl, hk67⟩⟩
  have hs68 := World.grownBy.size g63
  have hs69 := World.grownBy.size G
  have hs70 := World.grownBy.size g63
  replace G := grown_trans G g63
  replace hB12 := hB12.grown g63 (by intro h; injection h with h; omega)
  replace hn23 := hn23.stored g63 hR (by decide) (by decide)
  replace ha24 := ha24.stored g63 hR (by decide)
  replace hB33 := hB33.grown g63 (by intro h; injection h with h; omega)
  replace hR := hB64
  refine Sq.nil ?_
  refine Eq.next ?_
  refine Cq.block ?_
  refine Cq.seq ?_
  refine Cq.region ?_
  refine Sq.eql .plain rfl rfl rfl ?_
  refine Sq.part (fun c71 => ?_) (fun c71 => ?_)
  · refine Sq.assign .plain rfl rfl ?_
    refine Sq.nil ?_
    refine Eq.next ?_
    refine Cq.thn rfl ?_
    refine Cq.seq ?_
    refine Cq.region ?_
    have hrowk := hsm.rowAt (k := k55.toNat)
    refine Sq.fieldAddr fld26_2 .plain rfl rfl ?_
    refine Sq.loadB one24 .plain rfl rfl hB33 rfl ?_
    refine Sq.lenBools (Own.row ha24) .plain rfl und24 rfl ?_
    refine Sq.move .plain rfl rfl ?_
    refine Sq.gtr .plain rfl rfl rfl ?_
    refine Sq.part (fun c72 => ?_) (fun c72 => ?_)
    · refine Sq.nil ?_
      refine Eq.next ?_
      refine Cq.thn rfl ?_
      refine Cq.draw 9 none mixed (fun w73 e74 => ?_)
      have hs75 := Below.size e74
      replace hR := hR.ext e74
      replace G := grown_trans G (Ext.to_grown e74 _)
      replace hB12 := hB12.ext e74
      replace hn23 := hn23.ext e74
      replace ha24 := ha24.ext e74
      replace hB33 := hB33.ext e74
      have ha24_w73 := ha24
      have hB33_w73 := hB33
      refine Gq.st 0 rfl (by kernel_rfl) rfl .plain rfl (fun _ _ _ h => h) (World.grownBy.refl w73 _) (fun w' x => Still.fieldAddr fld26_2 rfl) ?_
      refine Gq.st 1 rfl (by kernel_rfl) rfl .plain rfl (fun _ _ _ h => h) (World.grownBy.refl w73 _) (fun w' x => Still.loadB one24 rfl (hB33_w73.ext (Ext.of_grown x)) rfl) ?_
      refine Gq.st 2 rfl (by kernel_rfl) rfl .plain rfl (fun _ _ _ h => h) (World.grownBy.refl w73 _) (fun w' x => Still.move rfl) ?_
      refine Gq.st 3 rfl (by kernel_rfl) rfl .plain rfl (fun _ _ _ h => h) (World.grownBy.refl w73 _) (fun w' x => Still.fieldAddr fld26_2 rfl) ?_
      refine Gq.st 4 rfl (by kernel_rfl) rfl .plain rfl (fun _ _ _ h => h) (World.grownBy.refl w73 _) (fun w' x => Still.loadB one24 rfl (hB33_w73.ext (Ext.of_grown x)) rfl) ?_
      refine Gq.st 5 rfl (by kernel_rfl) rfl .plain rfl (fun _ _ _ h => h) (World.grownBy.refl w73 _) (fun w' x => Still.move rfl) ?_
      obtain ⟨p76, hp77_w73⟩ := Bools.at (Own.row ha24_w73) (i := k55) (by omega) (by omega)
      have hp77o := AtO.of ha24_w73 hp77_w73
      refine Gq.st 6 rfl (by kernel_rfl) rfl .plain rfl (fun _ _ _ h => h) (World.grownBy.refl w73 _) (fun w' x => Still.at' sl24 hp77_w73 rfl rfl) ?_
      refine Gq.st 7 rfl (by kernel_rfl) rfl .plain rfl (fun _ _ _ h => h) (World.grownBy.refl w73 _) (fun w' x => Still.loadA one4 rfl (hp77_w73.ext (Ext.of_grown x)).1) ?_
      refine Gq.st 8 rfl (by kernel_rfl) rfl .plain rfl (fun _ _ _ h => h) (World.grownBy.refl w73 _) (fun w' x => Still.not rfl) ?_
      refine Gq.one 9 rfl (by kernel_rfl) ?_
      obtain ⟨p78, hp79o⟩ := Own.at ha24 (i := k55) (by omega) (by first | (simp only [List.length_map]; omega) | (simp; omega))
      refine Sq.atO sl24 hp79o .plain rfl rfl rfl ?_
      refine Sq.nil ?_
      refine Eq.goes (fun h => absurd h (by decide)) ?_
      refine Gq.one 10 rfl (by kernel_rfl) ?_
      refine Sq.storeO one4 ha24 hp79o .plain rfl rfl rfl (fun w80 g81 ho82 => ?_)
      have hs83 := World.grownBy.size g81
      replace hR := hR.owned ha24 g81 (by decide)
      replace G := grown_new G ha24 g81 (by omega)
      replace hB12 := hB12.owned ha24 g81 (by decide)
      replace hn23 := hn23.owned ha24 g81 (by decide) (by decide)
      replace hB33 := hB33.owned ha24 g81 (by decide)
      replace ha24 := ho82
      refine Sq.nil ?_
      refine Eq.goes (fun h => absurd h (by decide)) ?_
      refine Gq.done (by kernel_rfl) ?_
      refine Eq.end ?_
      refine Eq.next ?_
      refine Cq.seq ?_
      refine Cq.region ?_
      refine Sq.loadAgg agg26 .plain rfl rfl hB33 rfl ?_
      refine Sq.storeAgg agg26 .plain rfl rfl (one_cons rfl (one_cons (Rows.one (OwnRows.rows hn23)) (one_cons (Row.one (Own.row ha24)) one_nil))) hB12 rfl rfl (fun w84 g85 hB86 => ?_)
      have hs87 := World.grownBy.size g85
      replace hR := hR.grown g85 (by intro h; injection h with h; omega)
      replace G := grown_far G g85 (fun k hk => by injection hk with hk; subst hk; omega)
      replace hn23 := hn23.stored g85 hB12 (by decide) (by decide)
      replace ha24 := ha24.stored g85 hB12 (by decide)
      replace hB12 := hB86
      refine Sq.nil ?_
      refine Eq.next ?_
      refine Cq.ret ?_
      refine Eq.retCell rfl rfl agg26 hB12 rfl ?_
      exact ⟨⟨_, by omega, hR, G⟩, ⟨a.al, a.next, a.acc.set k55.toNat (!(a.acc.getD k55.toNat false))⟩, ⟨_, _, rfl, (OwnRows.rows hn23), (Own.row (Own.setB ha24))⟩, hsm.accs (by omega) (List.length_set ..)⟩
    refine Sq.nil ?_
    refine Eq.next ?_
    refine Cq.els rfl ?_
    refine Cq.skip ?_
    refine Eq.end ?_
    refine Eq.next ?_
    refine Cq.seq ?_
    refine Cq.region ?_
    refine Sq.loadAgg agg26 .plain rfl rfl hB33 rfl ?_
    refine Sq.storeAgg agg26 .plain rfl rfl (one_cons rfl (one_cons (Rows.one (OwnRows.rows hn23)) (one_cons (Row.one (Own.row ha24)) one_nil))) hB12 rfl rfl (fun w88 g89 hB90 => ?_)
    have hs91 := World.grownBy.size g89
    replace hR := hR.grown g89 (by intro h; injection h with h; omega)
    replace G := grown_far G g89 (fun k hk => by injection hk with hk; subst hk; omega)
    replace hn23 := hn23.stored g89 hB12 (by decide) (by decide)
    replace ha24 := ha24.stored g89 hB12 (by decide)
    replace hB12 := hB90
    refine Sq.nil ?_
    refine Eq.next ?_
    refine Cq.ret ?_
    refine Eq.retCell rfl rfl agg26 hB12 rfl ?_
    exact ⟨⟨_, by omega, hR, G⟩, a, ⟨_, _, rfl, (OwnRows.rows hn23), (Own.row ha24)⟩, hsm.mono (by omega)⟩
  refine Sq.assign .plain rfl rfl ?_
  refine Sq.nil ?_
  refine Eq.next ?_
  refine Cq.els rfl ?_
  refine Cq.seq ?_
  refine Cq.region ?_
  have hrowk := hsm.rowAt (k := k55.toNat)
  refine Sq.eql .plain rfl rfl rfl ?_
  refine Sq.part (fun c92 => ?_) (fun c92 => ?_)
  · refine Sq.assign .plain rfl rfl ?_
    refine Sq.nil ?_
    refine Eq.next ?_
    refine Cq.thn rfl ?_
    refine Cq.seq ?_
    refine Cq.region ?_
    refine Sq.fieldAddr fld26_1 .plain rfl rfl ?_
    refine Sq.loadB one23 .plain rfl rfl hB33 rfl ?_
    refine Sq.move .plain rfl rfl ?_
    refine Sq.idxRows sl23 one55 (OwnRows.rows hn23) .plain rfl rfl rfl .plain rfl rfl (by omega) (by omega) (fun r93 hr94 => ?_)
    refine Sq.lenInts hr94 .plain rfl und55 rfl ?_
    refine Sq.gtr .plain rfl rfl rfl ?_
    refine Sq.part (fun c95 => ?_) (fun c95 => ?_)
    · refine Sq.nil ?_
      refine Eq.next ?_
      refine Cq.thn rfl ?_
      obtain ⟨pA, rA, hpA, _⟩ := Rows.at (OwnRows.rows hn23) (i := k55) (by omega) (by omega)
      have hrA := (OwnRows.rowAt hn23 hpA).1
      obtain ⟨_, hoA, _, _⟩ := OwnRows.open hn23 (by decide)
      have hpAo := AtO.of hoA hpA
      refine Cq.drawS 16 (fun w' => Blk w' b30 26 [Value.int .i64 a.al, nx21, ac22] ∧ At w' 55 nx21 k55 pA rA) mixed (⟨hB33, hpA⟩) (fun w96 e97 hS => ?_)
      clear hS
      have hs98 := Below.size e97
      replace hR := hR.ext e97
      replace G := grown_trans G (Ext.to_grown e97 _)
      replace hB12 := hB12.ext e97
      replace hn23 := hn23.ext e97
      replace ha24 := ha24.ext e97
      replace hB33 := hB33.ext e97
      replace hpA := hpA.ext e97
      replace hrA := hrA.ext e97
      refine Gq.st 0 rfl (by kernel_rfl) rfl .plain rfl (fun _ _ _ h => h) ⟨hB33, hpA⟩ (fun w' x => Still.fieldAddr fld26_1 rfl) ?_
      refine Gq.st 1 rfl (by kernel_rfl) rfl .plain rfl (fun _ _ _ h => h) ⟨hB33, hpA⟩ (fun w' x => Still.loadB one23 rfl x.1 rfl) ?_
      refine Gq.st 2 rfl (by kernel_rfl) rfl .plain rfl (fun _ _ _ h => h) ⟨hB33, hpA⟩ (fun w' x => Still.move rfl) ?_
      refine Gq.st 3 rfl (by kernel_rfl) rfl .plain rfl (fun _ _ _ h => h) ⟨hB33, hpA⟩ (fun w' x => Still.at' sl23 hpA rfl rfl) ?_
      refine Gq.st 4 rfl (by kernel_rfl) rfl .plain rfl (fun _ _ _ h => h) ⟨hB33, hpA⟩ (fun w' x => Still.loadA one55 rfl (x.2).1) ?_
      refine Gq.st 5 rfl (by kernel_rfl) rfl .plain rfl (fun _ _ _ h => h) ⟨hB33, hpA⟩ (fun w' x => Still.move rfl) ?_
      refine Gq.st 6 rfl (by kernel_rfl) rfl .plain rfl (fun _ _ _ h => h) ⟨hB33, hpA⟩ (fun w' x => Still.fieldAddr fld26_1 rfl) ?_
      refine Gq.st 7 rfl (by kernel_rfl) rfl .plain rfl (fun _ _ _ h => h) ⟨hB33, hpA⟩ (fun w' x => Still.loadB one23 rfl x.1 rfl) ?_
      refine Gq.st 8 rfl (by kernel_rfl) rfl .plain rfl (fun _ _ _ h => h) ⟨hB33, hpA⟩ (fun w' x => Still.move rfl) ?_
      refine Gq.st 9 rfl (by kernel_rfl) rfl .plain rfl (fun _ _ _ h => h) ⟨hB33, hpA⟩ (fun w' x => Still.at' sl23 hpA rfl rfl) ?_
      refine Gq.st 10 rfl (by kernel_rfl) rfl .plain rfl (fun _ _ _ h => h) ⟨hB33, hpA⟩ (fun w' x => Still.loadA one55 rfl (x.2).1) ?_
      refine Gq.st 13 rfl (by kernel_rfl) rfl .plain rfl (fun _ _ _ h => h) ⟨hB33, hpA⟩ (fun w' x => Still.move rfl) ?_
      refine Gq.st 14 rfl (by kernel_rfl) rfl .plain rfl (fun _ _ _ h => h) ⟨hB33, hpA⟩ (fun w' x => Still.move rfl) ?_
      refine Gq.one 11 rfl (by kernel_rfl) ?_
      refine Sq.lenInts (Own.row hrA) .plain rfl und55 rfl ?_
      refine Sq.nil ?_
      refine Eq.goes (fun _ => ⟨hB33, hpA⟩) ?_
      refine Gq.one 12 rfl (by kernel_rfl) ?_
      refine Sq.call fn48 .plain rfl rfl (pick_c _ _ _ _ _ _ hR (hb.go G) hbl (by omega) ((List.length (a.next.getD k55.toNat []) : Int)) (by omega)) ?_
      rintro _ w100 ⟨⟨p101, hp104, hB103, g102⟩, ⟨k105, rfl, hk106⟩⟩
      have hs107 := World.grownBy.size g102
      have hs108 := World.grownBy.size G
      have hs109 := World.grownBy.size g102
      replace G := grown_trans G g102
      replace hB12 := hB12.grown g102 (by intro h; injection h with h; omega)
      replace hn23 := hn23.stored g102 hR (by decide) (by decide)
      replace ha24 := ha24.stored g102 hR (by decide)
      replace hB33 := hB33.grown g102 (by intro h; injection h with h; omega)
      replace hpA := hpA.stored g102 hR (by decide)
      replace hrA := hrA.stored g102 hR (by decide)
      replace hR := hB103
      refine Sq.nil ?_
      refine Eq.goes (fun _ => ⟨hB33, hpA⟩) ?_
      refine Gq.one 15 rfl (by kernel_rfl) ?_
      refine Sq.call fn48 .plain rfl rfl (pick_c _ _ _ _ _ _ hR (hb.go G) hbl (by omega) (List.length a.next : Int) (by omega)) ?_
      rintro _ w111 ⟨⟨p112, hp115, hB114, g113⟩, ⟨k116, rfl, hk117⟩⟩
      have hs118 := World.grownBy.size g113
      have hs119 := World.grownBy.size G
      have hs120 := World.grownBy.size g113
      replace G := grown_trans G g113
      replace hB12 := hB12.grown g113 (by intro h; injection h with h; omega)
      replace hn23 := hn23.stored g113 hR (by decide) (by decide)
      replace ha24 := ha24.stored g113 hR (by decide)
      replace hB33 := hB33.grown g113 (by intro h; injection h with h; omega)
      replace hpA := hpA.stored g113 hR (by decide)
      replace hrA := hrA.stored g113 hR (by decide)
      replace hR := hB114
      refine Sq.nil ?_
      refine Eq.goes (fun _ => ⟨hB33, hpA⟩) ?_
      refine Gq.one 16 rfl (by kernel_rfl) ?_
      obtain ⟨p121, hp122o⟩ := Own.at hrA (i := k105) (by omega) (by first | (simp only [List.length_map]; omega) | (simp; omega))
      refine Sq.atO sl55 hp122o .plain rfl rfl rfl ?_
      refine Sq.nil ?_
      refine Eq.goes (fun h => absurd h (by decide)) ?_
      refine Gq.one 17 rfl (by kernel_rfl) ?_
      refine Sq.storeO one3 hrA hp122o .plain rfl rfl rfl (fun w123 g124 ho125 => ?_)
      have hs126 := World.grownBy.size g124
      rw [← List.map_set] at ho125
      replace hn23 := (OwnRows.set hn23 (by decide) hpA ho125 g124).1
      replace hR := hR.owned hrA g124 (by decide)
      replace G := grown_new G hrA g124 (by omega)
      replace hB12 := hB12.owned hrA g124 (by decide)
      replace ha24 := ha24.owned hrA g124 (by decide)
      replace hB33 := hB33.owned hrA g124 (by decide)
      refine Sq.nil ?_
      refine Eq.goes (fun h => absurd h (by decide)) ?_
      refine Gq.done (by kernel_rfl) ?_
      refine Eq.end ?_
      refine Eq.next ?_
      refine Cq.seq ?_
      refine Cq.region ?_
      refine Sq.loadAgg agg26 .plain rfl rfl hB33 rfl ?_
      refine Sq.storeAgg agg26 .plain rfl rfl (one_cons rfl (one_cons (Rows.one (OwnRows.rows hn23)) (one_cons (Row.one (Own.row ha24)) one_nil))) hB12 rfl rfl (fun w127 g128 hB129 => ?_)
      have hs130 := World.grownBy.size g128
      replace hR := hR.grown g128 (by intro h; injection h with h; omega)
      replace G := grown_far G g128 (fun k hk => by injection hk with hk; subst hk; omega)
      replace hn23 := hn23.stored g128 hB12 (by decide) (by decide)
      replace ha24 := ha24.stored g128 hB12 (by decide)
      replace hB12 := hB129
      refine Sq.nil ?_
      refine Eq.next ?_
      refine Cq.ret ?_
      refine Eq.retCell rfl rfl agg26 hB12 rfl ?_
      exact ⟨⟨_, by omega, hR, G⟩, ⟨a.al, a.next.set k55.toNat ((a.next.getD k55.toNat []).set k105.toNat k116), a.acc⟩, ⟨_, _, rfl, (OwnRows.rows hn23), (Own.row ha24)⟩, hsm.row (by omega) (by rw [List.length_set]; have := hsm.rowAt (k := k55.toNat); omega)⟩
    refine Sq.nil ?_
    refine Eq.next ?_
    refine Cq.els rfl ?_
    refine Cq.skip ?_
    refine Eq.end ?_
    refine Eq.next ?_
    refine Cq.seq ?_
    refine Cq.region ?_
    refine Sq.loadAgg agg26 .plain rfl rfl hB33 rfl ?_
    refine Sq.storeAgg agg26 .plain rfl rfl (one_cons rfl (one_cons (Rows.one (OwnRows.rows hn23)) (one_cons (Row.one (Own.row ha24)) one_nil))) hB12 rfl rfl (fun w131 g132 hB133 => ?_)
    have hs134 := World.grownBy.size g132
    replace hR := hR.grown g132 (by intro h; injection h with h; omega)
    replace G := grown_far G g132 (fun k hk => by injection hk with hk; subst hk; omega)
    replace hn23 := hn23.stored g132 hB12 (by decide) (by decide)
    replace ha24 := ha24.stored g132 hB12 (by decide)
    replace hB12 := hB133
    refine Sq.nil ?_
    refine Eq.next ?_
    refine Cq.ret ?_
    refine Eq.retCell rfl rfl agg26 hB12 rfl ?_
    exact ⟨⟨_, by omega, hR, G⟩, a, ⟨_, _, rfl, (OwnRows.rows hn23), (Own.row ha24)⟩, hsm.mono (by omega)⟩
  refine Sq.assign .plain rfl rfl ?_
  refine Sq.nil ?_
  refine Eq.next ?_
  refine Cq.els rfl ?_
  refine Cq.seq ?_
  refine Cq.region ?_
  refine Sq.eql .plain rfl rfl rfl ?_
  refine Sq.part (fun c135 => ?_) (fun c135 => ?_)
  · refine Sq.assign .plain rfl rfl ?_
    refine Sq.nil ?_
    refine Eq.next ?_
    refine Cq.thn rfl ?_
    refine Cq.seq ?_
    refine Cq.region ?_
    refine Sq.move .plain rfl rfl ?_
    refine Sq.lss .plain rfl rfl rfl ?_
    refine Sq.part (fun c136 => ?_) (fun c136 => ?_)
    · refine Sq.move .plain rfl rfl ?_
      refine Sq.fieldAddr fld26_2 (.met rfl rfl rfl) rfl rfl ?_
      refine Sq.loadB one24 (.met rfl rfl rfl) rfl rfl hB33 rfl ?_
      refine Sq.lenBools (Own.row ha24) (.met rfl rfl rfl) rfl und24 rfl ?_
      refine Sq.move (.met rfl rfl rfl) rfl rfl ?_
      refine Sq.gtr (.met rfl rfl rfl) rfl rfl rfl ?_
      refine Sq.part (fun c137 => ?_) (fun c137 => ?_)
      · refine Sq.pickT .plain rfl rfl rfl ?_
        refine Sq.move .plain rfl rfl ?_
        refine Sq.fieldAddr fld26_1 (.met rfl rfl rfl) rfl rfl ?_
        refine Sq.loadB one23 (.met rfl rfl rfl) rfl rfl hB33 rfl ?_
        refine Sq.move (.met rfl rfl rfl) rfl rfl ?_
        refine Sq.idxRows sl23 one55 (OwnRows.rows hn23) (.met rfl rfl rfl) rfl rfl rfl (.met rfl rfl rfl) rfl rfl (by omega) (by omega) (fun r138 hr139 => ?_)
        refine Sq.lenInts hr139 (.met rfl rfl rfl) rfl und55 rfl ?_
        refine Sq.gtr (.met rfl rfl rfl) rfl rfl rfl ?_
        refine Sq.part (fun c140 => ?_) (fun c140 => ?_)
        · refine Sq.pickT .plain rfl rfl rfl ?_
          refine Sq.nil ?_
          refine Eq.next ?_
          refine Cq.thn rfl ?_
          refine Cq.seq ?_
          obtain ⟨pA, rA, hpA, _⟩ := Rows.at (OwnRows.rows hn23) (i := k55) (by omega) (by omega)
          have hrA := (OwnRows.rowAt hn23 hpA).1
          obtain ⟨_, hoA, _, _⟩ := OwnRows.open hn23 (by decide)
          have hpAo := AtO.of hoA hpA
          refine Cq.drawS 11 (fun w' => Blk w' b30 26 [Value.int .i64 a.al, nx21, ac22]) mixed (hB33) (fun w141 e142 hS => ?_)
          clear hS
          have hs143 := Below.size e142
          replace hR := hR.ext e142
          replace G := grown_trans G (Ext.to_grown e142 _)
          replace hB12 := hB12.ext e142
          replace hn23 := hn23.ext e142
          replace ha24 := ha24.ext e142
          replace hB33 := hB33.ext e142
          replace hpA := hpA.ext e142
          replace hrA := hrA.ext e142
          refine Gq.st 0 rfl (by kernel_rfl) rfl .plain rfl (fun _ _ _ h => h) hB33 (fun w' x => Still.fieldAddr fld26_1 rfl) ?_
          refine Gq.st 1 rfl (by kernel_rfl) rfl .plain rfl (fun _ _ _ h => h) hB33 (fun w' x => Still.loadB one23 rfl x rfl) ?_
          refine Gq.st 3 rfl (by kernel_rfl) rfl .plain rfl (fun _ _ _ h => h) hB33 (fun w' x => Still.fieldAddr fld26_1 rfl) ?_
          refine Gq.st 4 rfl (by kernel_rfl) rfl .plain rfl (fun _ _ _ h => h) hB33 (fun w' x => Still.loadB one23 rfl x rfl) ?_
          refine Gq.st 5 rfl (by kernel_rfl) rfl .plain rfl (fun _ _ _ h => h) hB33 (fun w' x => Still.move rfl) ?_
          refine Gq.st 6 rfl (by kernel_rfl) rfl .plain rfl (fun _ _ _ h => h) hB33 (fun w' x => Still.at' sl23 hpA rfl rfl) ?_
          refine Gq.two 2 7 rfl rfl (by kernel_rfl) ?_ ?_
          · refine Sq.lit sl55 rfl rfl .plain rfl rfl one_nil (fun b144 w145 e146 hlo147 ho148 _ => ?_)
            replace ho148 := ho148 w141.heap.size (Nat.le_refl _)
            have hs150 := Below.size e146
            replace hR := hR.ext e146
            replace G := grown_trans G (Ext.to_grown e146 _)
            replace hB12 := hB12.ext e146
            replace hn23 := hn23.ext e146
            replace ha24 := ha24.ext e146
            replace hB33 := hB33.ext e146
            replace hpA := hpA.ext e146
            replace hrA := hrA.ext e146
            refine Sq.nil ?_
            refine Eq.goes (fun _ => hB33) ?_
            refine Gq.one 7 rfl (by kernel_rfl) ?_
            refine Sq.val .plain rfl rfl (Still.loadA one55 rfl hpA.1) ?_
            refine Sq.nil ?_
            refine Eq.goes (fun _ => hB33) ?_
            refine Gq.one 8 rfl (by kernel_rfl) ?_
            refine Sq.app sl55 ho148 (by omega) (Own.row hrA) (one_ints _) (by rw [List.length_map]; simp only [List.length_nil, Nat.zero_add]; omega) .plain rfl rfl rfl rfl (fun v151 w152 ho154 g153 => ?_)
            have hs155 := g153.size
            replace hR := hR.owned ho148 g153 (by decide)
            replace G := grown_new G ho148 g153 (by omega)
            replace hB12 := hB12.owned ho148 g153 (by decide)
            replace hn23 := hn23.apart ho148 g153 (by omega) (by decide)
            replace ha24 := ha24.owned ho148 g153 (by decide)
            replace hB33 := hB33.owned ho148 g153 (by decide)
            simp only [List.nil_append] at ho154
            refine Sq.nil ?_
            refine Eq.goes (fun _ => hB33) ?_
            refine Gq.one 9 rfl (by kernel_rfl) ?_
            refine Sq.lit sl23 rfl rfl .plain rfl rfl (one_cons (Row.one (Own.row ho154)) one_nil) (fun b156 w157 e158 hlo159 ho160 _ => ?_)
            replace ho160 := ho160 w152.heap.size (Nat.le_refl _)
            have hs162 := Below.size e158
            replace hR := hR.ext e158
            replace G := grown_trans G (Ext.to_grown e158 _)
            replace hB12 := hB12.ext e158
            replace hn23 := hn23.ext e158
            replace ha24 := ha24.ext e158
            replace hB33 := hB33.ext e158
            replace ho154 := ho154.ext e158
            refine Sq.nil ?_
            refine Eq.goes (fun _ => hB33) ?_
            refine Gq.one 10 rfl (by kernel_rfl) ?_
            obtain ⟨rs167, q168, q169, q170⟩ := OwnRows.open hn23 (by decide)
            have q170x := Ext.refl w157
            refine Sq.app sl23 q168 (by omega) (Own.row ho160) (one_cons (Row.one (Own.row ho154)) one_nil) (by rw [q169]; first | omega | (simp; omega)) .plain rfl rfl rfl rfl (fun v163 w164 ho166 g165 => ?_)
            have hs171 := g165.size
            have ho166r := q170 _ (a.next.getD k55.toNat []) _ _ _ (Ext.refl _) (Own.mono ho154 (by omega)) (by omega) ho166 g165
            replace hR := hR.owned q168 g165 (by decide)
            replace G := grown_new G q168 g165 (by omega)
            replace hB12 := hB12.owned q168 g165 (by decide)
            replace ha24 := ha24.owned q168 g165 (by decide)
            replace hB33 := hB33.owned q168 g165 (by decide)
            refine Sq.nil ?_
            refine Eq.goes (fun _ => hB33) ?_
            refine Gq.one 11 rfl (by kernel_rfl) ?_
            refine Sq.fieldAddr fld26_1 .plain rfl rfl ?_
            refine Sq.nil ?_
            refine Eq.goes (fun h => absurd h (by decide)) ?_
            refine Gq.one 12 rfl (by kernel_rfl) ?_
            refine Sq.store one23 .plain rfl rfl (Rows.one (OwnRows.rows ho166r)) hB33 (by simp) (fun w172 g173 hB174 => ?_)
            have hs175 := World.grownBy.size g173
            replace hR := hR.grown g173 (by intro h; injection h with h; omega)
            replace G := grown_far G g173 (fun k hk => by injection hk with hk; subst hk; omega)
            replace hB12 := hB12.grown g173 (by intro h; injection h with h; omega)
            replace ha24 := ha24.stored g173 hB33 (by decide)
            replace ho166r := ho166r.stored g173 hB33 (by decide) (by decide)
            replace hB33 := hB174
            refine Sq.nil ?_
            refine Eq.goes (fun h => absurd h (by decide)) ?_
            refine Gq.done (by kernel_rfl) ?_
            refine Eq.next ?_
            refine Cq.seq ?_
            refine Cq.drawS 9 (fun w' => Blk w' b30 26 [Value.int .i64 a.al, v163, ac22]) mixed (hB33) (fun w176 e177 hS => ?_)
            clear hS
            have hs178 := Below.size e177
            replace hR := hR.ext e177
            replace G := grown_trans G (Ext.to_grown e177 _)
            replace hB12 := hB12.ext e177
            replace ha24 := ha24.ext e177
            replace hB33 := hB33.ext e177
            replace ho166r := ho166r.ext e177
            refine Gq.st 0 rfl (by kernel_rfl) rfl .plain rfl (fun _ _ _ h => h) hB33 (fun w' x => Still.fieldAddr fld26_2 rfl) ?_
            refine Gq.st 1 rfl (by kernel_rfl) rfl .plain rfl (fun _ _ _ h => h) hB33 (fun w' x => Still.loadB one24 rfl x rfl) ?_
            refine Gq.st 2 rfl (by kernel_rfl) rfl .plain rfl (fun _ _ _ h => h) hB33 (fun w' x => Still.fieldAddr fld26_2 rfl) ?_
            refine Gq.st 3 rfl (by kernel_rfl) rfl .plain rfl (fun _ _ _ h => h) hB33 (fun w' x => Still.loadB one24 rfl x rfl) ?_
            refine Gq.st 4 rfl (by kernel_rfl) rfl .plain rfl (fun _ _ _ h => h) hB33 (fun w' x => Still.move rfl) ?_
            refine Gq.one 5 rfl (by kernel_rfl) ?_
            obtain ⟨p179, hp180⟩ := Bools.at (Own.row ha24) (i := k55) (by omega) (by omega)
            refine Sq.val .plain rfl rfl (Still.at' sl24 hp180 rfl rfl) ?_
            refine Sq.nil ?_
            refine Eq.goes (fun _ => hB33) ?_
            refine Gq.one 6 rfl (by kernel_rfl) ?_
            refine Sq.val .plain rfl rfl (Still.loadA one4 rfl hp180.1) ?_
            refine Sq.nil ?_
            refine Eq.goes (fun _ => hB33) ?_
            refine Gq.one 7 rfl (by kernel_rfl) ?_
            refine Sq.lit sl24 rfl rfl .plain rfl rfl (one_cons rfl one_nil) (fun b181 w182 e183 hlo184 ho185 _ => ?_)
            replace ho185 := ho185 w176.heap.size (Nat.le_refl _)
            have hs187 := Below.size e183
            replace hR := hR.ext e183
            replace G := grown_trans G (Ext.to_grown e183 _)
            replace hB12 := hB12.ext e183
            replace ha24 := ha24.ext e183
            replace hB33 := hB33.ext e183
            replace ho166r := ho166r.ext e183
            refine Sq.nil ?_
            refine Eq.goes (fun _ => hB33) ?_
            refine Gq.one 8 rfl (by kernel_rfl) ?_
            refine Sq.app sl24 ha24 (by omega) (Own.row ho185) (one_cons rfl one_nil) (by first | omega | (simp; omega)) .plain rfl rfl rfl rfl (fun v188 w189 ho191 g190 => ?_)
            have hs192 := g190.size
            replace hR := hR.owned ha24 g190 (by decide)
            replace G := grown_new G ha24 g190 (by omega)
            replace hB12 := hB12.owned ha24 g190 (by decide)
            replace hB33 := hB33.owned ha24 g190 (by decide)
            replace ho166r := ho166r.owned ha24 g190 (by decide) (by decide)
            refine Sq.nil ?_
            refine Eq.goes (fun _ => hB33) ?_
            refine Gq.one 9 rfl (by kernel_rfl) ?_
            refine Sq.fieldAddr fld26_2 .plain rfl rfl ?_
            refine Sq.nil ?_
            refine Eq.goes (fun h => absurd h (by decide)) ?_
            refine Gq.one 10 rfl (by kernel_rfl) ?_
            refine Sq.store one24 .plain rfl rfl (Row.one (Own.row ho191)) hB33 (by simp) (fun w193 g194 hB195 => ?_)
            have hs196 := World.grownBy.size g194
            replace hR := hR.grown g194 (by intro h; injection h with h; omega)
            replace G := grown_far G g194 (fun k hk => by injection hk with hk; subst hk; omega)
            replace hB12 := hB12.grown g194 (by intro h; injection h with h; omega)
            replace ho166r := ho166r.stored g194 hB33 (by decide) (by decide)
            replace ho191 := ho191.stored g194 hB33 (by decide)
            replace hB33 := hB195
            refine Sq.nil ?_
            refine Eq.goes (fun h => absurd h (by decide)) ?_
            refine Gq.done (by kernel_rfl) ?_
            refine Eq.next ?_
            refine Cq.region ?_
            refine Sq.fieldAddr fld26_1 .plain rfl rfl ?_
            refine Sq.loadB one23 .plain rfl rfl hB33 rfl ?_
            refine Sq.move .plain rfl rfl ?_
            obtain ⟨p197, r199, hp198, _⟩ := Rows.at (OwnRows.rows ho166r) (i := k55) (by first | omega | (simp only [List.length_append, List.length_singleton]; omega)) (by first | omega | (simp only [List.length_append, List.length_singleton]; omega))
            have hr200 := (OwnRows.rowAt ho166r hp198).1
            refine Sq.val .plain rfl rfl (Still.at' sl23 hp198 rfl rfl) ?_
            refine Sq.val .plain rfl rfl (Still.loadA one55 rfl hp198.1) ?_
            refine Sq.move .plain rfl rfl ?_
            obtain ⟨p201, hp202o⟩ := Own.at hr200 (i := 0) (by first | omega | (rw [getD_app (by omega)]; omega)) (by first | (simp only [List.length_map]; first | omega | (rw [getD_app (by omega)]; omega)) | (simp; first | omega | (rw [getD_app (by omega)]; omega)))
            refine Sq.atO sl55 hp202o .plain rfl rfl rfl ?_
            refine Sq.storeO one3 hr200 hp202o .plain rfl rfl rfl (fun w203 g204 ho205 => ?_)
            have hs206 := World.grownBy.size g204
            rw [← List.map_set] at ho205
            replace ho166r := (OwnRows.set ho166r (by decide) hp198 ho205 g204).1
            replace hR := hR.owned hr200 g204 (by decide)
            replace G := grown_new G hr200 g204 (by omega)
            replace hB12 := hB12.owned hr200 g204 (by decide)
            replace hB33 := hB33.owned hr200 g204 (by decide)
            replace ho191 := ho191.owned hr200 g204 (by decide)
            refine Sq.nil ?_
            refine Eq.end ?_
            refine Eq.next ?_
            refine Cq.seq ?_
            refine Cq.region ?_
            refine Sq.loadAgg agg26 .plain rfl rfl hB33 rfl ?_
            refine Sq.storeAgg agg26 .plain rfl rfl (one_cons rfl (one_cons (Rows.one (OwnRows.rows ho166r)) (one_cons (Row.one (Own.row ho191)) one_nil))) hB12 rfl rfl (fun w207 g208 hB209 => ?_)
            have hs210 := World.grownBy.size g208
            replace hR := hR.grown g208 (by intro h; injection h with h; omega)
            replace G := grown_far G g208 (fun k hk => by injection hk with hk; subst hk; omega)
            replace ho166r := ho166r.stored g208 hB12 (by decide) (by decide)
            replace ho191 := ho191.stored g208 hB12 (by decide)
            replace hB12 := hB209
            refine Sq.nil ?_
            refine Eq.next ?_
            refine Cq.ret ?_
            refine Eq.retCell rfl rfl agg26 hB12 rfl ?_
            exact ⟨⟨_, by omega, hR, G⟩, ⟨a.al, _, a.acc ++ [a.acc.getD k55.toNat false]⟩, ⟨_, _, rfl, (OwnRows.rows ho166r), (Own.row (Own.snocB ho191))⟩, Small.row (a := ⟨a.al, a.next ++ [a.next.getD k55.toNat []], a.acc ++ [a.acc.getD k55.toNat false]⟩) (hsm.push2 (m := N + 10) (by omega) (by have := hsm.rowAt (k := k55.toNat); omega)) (by omega) (by rw [List.length_set, getD_app (by omega)]; have := hsm.rowAt (k := k55.toNat); omega)⟩
          refine Sq.val .plain rfl rfl (Still.loadA one55 rfl hpA.1) ?_
          refine Sq.nil ?_
          refine Eq.goes (fun _ => hB33) ?_
          refine Gq.one 2 rfl (by kernel_rfl) ?_
          refine Sq.lit sl55 rfl rfl .plain rfl rfl one_nil (fun b211 w212 e213 hlo214 ho215 _ => ?_)
          replace ho215 := ho215 w141.heap.size (Nat.le_refl _)
          have hs217 := Below.size e213
          replace hR := hR.ext e213
          replace G := grown_trans G (Ext.to_grown e213 _)
          replace hB12 := hB12.ext e213
          replace hn23 := hn23.ext e213
          replace ha24 := ha24.ext e213
          replace hB33 := hB33.ext e213
          replace hrA := hrA.ext e213
          refine Sq.nil ?_
          refine Eq.goes (fun _ => hB33) ?_
          refine Gq.one 8 rfl (by kernel_rfl) ?_
          refine Sq.app sl55 ho215 (by omega) (Own.row hrA) (one_ints _) (by rw [List.length_map]; simp only [List.length_nil, Nat.zero_add]; omega) .plain rfl rfl rfl rfl (fun v218 w219 ho221 g220 => ?_)
          have hs222 := g220.size
          replace hR := hR.owned ho215 g220 (by decide)
          replace G := grown_new G ho215 g220 (by omega)
          replace hB12 := hB12.owned ho215 g220 (by decide)
          replace hn23 := hn23.apart ho215 g220 (by omega) (by decide)
          replace ha24 := ha24.owned ho215 g220 (by decide)
          replace hB33 := hB33.owned ho215 g220 (by decide)
          simp only [List.nil_append] at ho221
          refine Sq.nil ?_
          refine Eq.goes (fun _ => hB33) ?_
          refine Gq.one 9 rfl (by kernel_rfl) ?_
          refine Sq.lit sl23 rfl rfl .plain rfl rfl (one_cons (Row.one (Own.row ho221)) one_nil) (fun b223 w224 e225 hlo226 ho227 _ => ?_)
          replace ho227 := ho227 w219.heap.size (Nat.le_refl _)
          have hs229 := Below.size e225
          replace hR := hR.ext e225
          replace G := grown_trans G (Ext.to_grown e225 _)
          replace hB12 := hB12.ext e225
          replace hn23 := hn23.ext e225
          replace ha24 := ha24.ext e225
          replace hB33 := hB33.ext e225
          replace ho221 := ho221.ext e225
          refine Sq.nil ?_
          refine Eq.goes (fun _ => hB33) ?_
          refine Gq.one 10 rfl (by kernel_rfl) ?_
          obtain ⟨rs234, q235, q236, q237⟩ := OwnRows.open hn23 (by decide)
          have q237x := Ext.refl w224
          refine Sq.app sl23 q235 (by omega) (Own.row ho227) (one_cons (Row.one (Own.row ho221)) one_nil) (by rw [q236]; first | omega | (simp; omega)) .plain rfl rfl rfl rfl (fun v230 w231 ho233 g232 => ?_)
          have hs238 := g232.size
          have ho233r := q237 _ (a.next.getD k55.toNat []) _ _ _ (Ext.refl _) (Own.mono ho221 (by omega)) (by omega) ho233 g232
          replace hR := hR.owned q235 g232 (by decide)
          replace G := grown_new G q235 g232 (by omega)
          replace hB12 := hB12.owned q235 g232 (by decide)
          replace ha24 := ha24.owned q235 g232 (by decide)
          replace hB33 := hB33.owned q235 g232 (by decide)
          refine Sq.nil ?_
          refine Eq.goes (fun _ => hB33) ?_
          refine Gq.one 11 rfl (by kernel_rfl) ?_
          refine Sq.fieldAddr fld26_1 .plain rfl rfl ?_
          refine Sq.nil ?_
          refine Eq.goes (fun h => absurd h (by decide)) ?_
          refine Gq.one 12 rfl (by kernel_rfl) ?_
          refine Sq.store one23 .plain rfl rfl (Rows.one (OwnRows.rows ho233r)) hB33 (by simp) (fun w239 g240 hB241 => ?_)
          have hs242 := World.grownBy.size g240
          replace hR := hR.grown g240 (by intro h; injection h with h; omega)
          replace G := grown_far G g240 (fun k hk => by injection hk with hk; subst hk; omega)
          replace hB12 := hB12.grown g240 (by intro h; injection h with h; omega)
          replace ha24 := ha24.stored g240 hB33 (by decide)
          replace ho233r := ho233r.stored g240 hB33 (by decide) (by decide)
          replace hB33 := hB241
          refine Sq.nil ?_
          refine Eq.goes (fun h => absurd h (by decide)) ?_
          refine Gq.done (by kernel_rfl) ?_
          refine Eq.next ?_
          refine Cq.seq ?_
          refine Cq.drawS 9 (fun w' => Blk w' b30 26 [Value.int .i64 a.al, v230, ac22]) mixed (hB33) (fun w243 e244 hS => ?_)
          clear hS
          have hs245 := Below.size e244
          replace hR := hR.ext e244
          replace G := grown_trans G (Ext.to_grown e244 _)
          replace hB12 := hB12.ext e244
          replace ha24 := ha24.ext e244
          replace hB33 := hB33.ext e244
          replace ho233r := ho233r.ext e244
          refine Gq.st 0 rfl (by kernel_rfl) rfl .plain rfl (fun _ _ _ h => h) hB33 (fun w' x => Still.fieldAddr fld26_2 rfl) ?_
          refine Gq.st 1 rfl (by kernel_rfl) rfl .plain rfl (fun _ _ _ h => h) hB33 (fun w' x => Still.loadB one24 rfl x rfl) ?_
          refine Gq.st 2 rfl (by kernel_rfl) rfl .plain rfl (fun _ _ _ h => h) hB33 (fun w' x => Still.fieldAddr fld26_2 rfl) ?_
          refine Gq.st 3 rfl (by kernel_rfl) rfl .plain rfl (fun _ _ _ h => h) hB33 (fun w' x => Still.loadB one24 rfl x rfl) ?_
          refine Gq.st 4 rfl (by kernel_rfl) rfl .plain rfl (fun _ _ _ h => h) hB33 (fun w' x => Still.move rfl) ?_
          refine Gq.one 5 rfl (by kernel_rfl) ?_
          obtain ⟨p246, hp247⟩ := Bools.at (Own.row ha24) (i := k55) (by omega) (by omega)
          refine Sq.val .plain rfl rfl (Still.at' sl24 hp247 rfl rfl) ?_
          refine Sq.nil ?_
          refine Eq.goes (fun _ => hB33) ?_
          refine Gq.one 6 rfl (by kernel_rfl) ?_
          refine Sq.val .plain rfl rfl (Still.loadA one4 rfl hp247.1) ?_
          refine Sq.nil ?_
          refine Eq.goes (fun _ => hB33) ?_
          refine Gq.one 7 rfl (by kernel_rfl) ?_
          refine Sq.lit sl24 rfl rfl .plain rfl rfl (one_cons rfl one_nil) (fun b248 w249 e250 hlo251 ho252 _ => ?_)
          replace ho252 := ho252 w243.heap.size (Nat.le_refl _)
          have hs254 := Below.size e250
          replace hR := hR.ext e250
          replace G := grown_trans G (Ext.to_grown e250 _)
          replace hB12 := hB12.ext e250
          replace ha24 := ha24.ext e250
          replace hB33 := hB33.ext e250
          replace ho233r := ho233r.ext e250
          refine Sq.nil ?_
          refine Eq.goes (fun _ => hB33) ?_
          refine Gq.one 8 rfl (by kernel_rfl) ?_
          refine Sq.app sl24 ha24 (by omega) (Own.row ho252) (one_cons rfl one_nil) (by first | omega | (simp; omega)) .plain rfl rfl rfl rfl (fun v255 w256 ho258 g257 => ?_)
          have hs259 := g257.size
          replace hR := hR.owned ha24 g257 (by decide)
          replace G := grown_new G ha24 g257 (by omega)
          replace hB12 := hB12.owned ha24 g257 (by decide)
          replace hB33 := hB33.owned ha24 g257 (by decide)
          replace ho233r := ho233r.owned ha24 g257 (by decide) (by decide)
          refine Sq.nil ?_
          refine Eq.goes (fun _ => hB33) ?_
          refine Gq.one 9 rfl (by kernel_rfl) ?_
          refine Sq.fieldAddr fld26_2 .plain rfl rfl ?_
          refine Sq.nil ?_
          refine Eq.goes (fun h => absurd h (by decide)) ?_
          refine Gq.one 10 rfl (by kernel_rfl) ?_
          refine Sq.store one24 .plain rfl rfl (Row.one (Own.row ho258)) hB33 (by simp) (fun w260 g261 hB262 => ?_)
          have hs263 := World.grownBy.size g261
          replace hR := hR.grown g261 (by intro h; injection h with h; omega)
          replace G := grown_far G g261 (fun k hk => by injection hk with hk; subst hk; omega)
          replace hB12 := hB12.grown g261 (by intro h; injection h with h; omega)
          replace ho233r := ho233r.stored g261 hB33 (by decide) (by decide)
          replace ho258 := ho258.stored g261 hB33 (by decide)
          replace hB33 := hB262
          refine Sq.nil ?_
          refine Eq.goes (fun h => absurd h (by decide)) ?_
          refine Gq.done (by kernel_rfl) ?_
          refine Eq.next ?_
          refine Cq.region ?_
          refine Sq.fieldAddr fld26_1 .plain rfl rfl ?_
          refine Sq.loadB one23 .plain rfl rfl hB33 rfl ?_
          refine Sq.move .plain rfl rfl ?_
          obtain ⟨p264, r266, hp265, _⟩ := Rows.at (OwnRows.rows ho233r) (i := k55) (by first | omega | (simp only [List.length_append, List.length_singleton]; omega)) (by first | omega | (simp only [List.length_append, List.length_singleton]; omega))
          have hr267 := (OwnRows.rowAt ho233r hp265).1
          refine Sq.val .plain rfl rfl (Still.at' sl23 hp265 rfl rfl) ?_
          refine Sq.val .plain rfl rfl (Still.loadA one55 rfl hp265.1) ?_
          refine Sq.move .plain rfl rfl ?_
          obtain ⟨p268, hp269o⟩ := Own.at hr267 (i := 0) (by first | omega | (rw [getD_app (by omega)]; omega)) (by first | (simp only [List.length_map]; first | omega | (rw [getD_app (by omega)]; omega)) | (simp; first | omega | (rw [getD_app (by omega)]; omega)))
          refine Sq.atO sl55 hp269o .plain rfl rfl rfl ?_
          refine Sq.storeO one3 hr267 hp269o .plain rfl rfl rfl (fun w270 g271 ho272 => ?_)
          have hs273 := World.grownBy.size g271
          rw [← List.map_set] at ho272
          replace ho233r := (OwnRows.set ho233r (by decide) hp265 ho272 g271).1
          replace hR := hR.owned hr267 g271 (by decide)
          replace G := grown_new G hr267 g271 (by omega)
          replace hB12 := hB12.owned hr267 g271 (by decide)
          replace hB33 := hB33.owned hr267 g271 (by decide)
          replace ho258 := ho258.owned hr267 g271 (by decide)
          refine Sq.nil ?_
          refine Eq.end ?_
          refine Eq.next ?_
          refine Cq.seq ?_
          refine Cq.region ?_
          refine Sq.loadAgg agg26 .plain rfl rfl hB33 rfl ?_
          refine Sq.storeAgg agg26 .plain rfl rfl (one_cons rfl (one_cons (Rows.one (OwnRows.rows ho233r)) (one_cons (Row.one (Own.row ho258)) one_nil))) hB12 rfl rfl (fun w274 g275 hB276 => ?_)
          have hs277 := World.grownBy.size g275
          replace hR := hR.grown g275 (by intro h; injection h with h; omega)
          replace G := grown_far G g275 (fun k hk => by injection hk with hk; subst hk; omega)
          replace ho233r := ho233r.stored g275 hB12 (by decide) (by decide)
          replace ho258 := ho258.stored g275 hB12 (by decide)
          replace hB12 := hB276
          refine Sq.nil ?_
          refine Eq.next ?_
          refine Cq.ret ?_
          refine Eq.retCell rfl rfl agg26 hB12 rfl ?_
          exact ⟨⟨_, by omega, hR, G⟩, ⟨a.al, _, a.acc ++ [a.acc.getD k55.toNat false]⟩, ⟨_, _, rfl, (OwnRows.rows ho233r), (Own.row (Own.snocB ho258))⟩, Small.row (a := ⟨a.al, a.next ++ [a.next.getD k55.toNat []], a.acc ++ [a.acc.getD k55.toNat false]⟩) (hsm.push2 (m := N + 10) (by omega) (by have := hsm.rowAt (k := k55.toNat); omega)) (by omega) (by rw [List.length_set, getD_app (by omega)]; have := hsm.rowAt (k := k55.toNat); omega)⟩
        refine Sq.pickT .plain rfl rfl rfl ?_
        refine Sq.nil ?_
        refine Eq.next ?_
        refine Cq.els rfl ?_
        refine Cq.skip ?_
        refine Eq.end ?_
        refine Eq.next ?_
        refine Cq.seq ?_
        refine Cq.region ?_
        refine Sq.loadAgg agg26 .plain rfl rfl hB33 rfl ?_
        refine Sq.storeAgg agg26 .plain rfl rfl (one_cons rfl (one_cons (Rows.one (OwnRows.rows hn23)) (one_cons (Row.one (Own.row ha24)) one_nil))) hB12 rfl rfl (fun w278 g279 hB280 => ?_)
        have hs281 := World.grownBy.size g279
        replace hR := hR.grown g279 (by intro h; injection h with h; omega)
        replace G := grown_far G g279 (fun k hk => by injection hk with hk; subst hk; omega)
        replace hn23 := hn23.stored g279 hB12 (by decide) (by decide)
        replace ha24 := ha24.stored g279 hB12 (by decide)
        replace hB12 := hB280
        refine Sq.nil ?_
        refine Eq.next ?_
        refine Cq.ret ?_
        refine Eq.retCell rfl rfl agg26 hB12 rfl ?_
        exact ⟨⟨_, by omega, hR, G⟩, a, ⟨_, _, rfl, (OwnRows.rows hn23), (Own.row ha24)⟩, hsm.mono (by omega)⟩
      refine Sq.pickT .plain rfl rfl rfl ?_
      refine Sq.move .plain rfl rfl ?_
      refine Sq.off rfl rfl rfl rfl rfl rfl ?_
      refine Sq.off rfl rfl rfl rfl rfl rfl ?_
      refine Sq.off rfl rfl rfl rfl rfl rfl ?_
      refine Sq.off rfl rfl rfl rfl rfl rfl ?_
      refine Sq.off rfl rfl rfl rfl rfl rfl ?_
      refine Sq.off rfl rfl rfl rfl rfl rfl ?_
      refine Sq.off rfl rfl rfl rfl rfl rfl ?_
      refine Sq.pickF .plain rfl rfl rfl ?_
      refine Sq.nil ?_
      refine Eq.next ?_
      refine Cq.els rfl ?_
      refine Cq.skip ?_
      refine Eq.end ?_
      refine Eq.next ?_
      refine Cq.seq ?_
      refine Cq.region ?_
      refine Sq.loadAgg agg26 .plain rfl rfl hB33 rfl ?_
      refine Sq.storeAgg agg26 .plain rfl rfl (one_cons rfl (one_cons (Rows.one (OwnRows.rows hn23)) (one_cons (Row.one (Own.row ha24)) one_nil))) hB12 rfl rfl (fun w282 g283 hB284 => ?_)
      have hs285 := World.grownBy.size g283
      replace hR := hR.grown g283 (by intro h; injection h with h; omega)
      replace G := grown_far G g283 (fun k hk => by injection hk with hk; subst hk; omega)
      replace hn23 := hn23.stored g283 hB12 (by decide) (by decide)
      replace ha24 := ha24.stored g283 hB12 (by decide)
      replace hB12 := hB284
      refine Sq.nil ?_
      refine Eq.next ?_
      refine Cq.ret ?_
      refine Eq.retCell rfl rfl agg26 hB12 rfl ?_
      exact ⟨⟨_, by omega, hR, G⟩, a, ⟨_, _, rfl, (OwnRows.rows hn23), (Own.row ha24)⟩, hsm.mono (by omega)⟩
    refine Sq.move .plain rfl rfl ?_
    refine Sq.off rfl rfl rfl rfl rfl rfl ?_
    refine Sq.off rfl rfl rfl rfl rfl rfl ?_
    refine Sq.off rfl rfl rfl rfl rfl rfl ?_
    refine Sq.off rfl rfl rfl rfl rfl rfl ?_
    refine Sq.off rfl rfl rfl rfl rfl rfl ?_
    refine Sq.pickF .plain rfl rfl rfl ?_
    refine Sq.move .plain rfl rfl ?_
    refine Sq.off rfl rfl rfl rfl rfl rfl ?_
    refine Sq.off rfl rfl rfl rfl rfl rfl ?_
    refine Sq.off rfl rfl rfl rfl rfl rfl ?_
    refine Sq.off rfl rfl rfl rfl rfl rfl ?_
    refine Sq.off rfl rfl rfl rfl rfl rfl ?_
    refine Sq.off rfl rfl rfl rfl rfl rfl ?_
    refine Sq.off rfl rfl rfl rfl rfl rfl ?_
    refine Sq.pickF .plain rfl rfl rfl ?_
    refine Sq.nil ?_
    refine Eq.next ?_
    refine Cq.els rfl ?_
    refine Cq.skip ?_
    refine Eq.end ?_
    refine Eq.next ?_
    refine Cq.seq ?_
    refine Cq.region ?_
    refine Sq.loadAgg agg26 .plain rfl rfl hB33 rfl ?_
    refine Sq.storeAgg agg26 .plain rfl rfl (one_cons rfl (one_cons (Rows.one (OwnRows.rows hn23)) (one_cons (Row.one (Own.row ha24)) one_nil))) hB12 rfl rfl (fun w286 g287 hB288 => ?_)
    have hs289 := World.grownBy.size g287
    replace hR := hR.grown g287 (by intro h; injection h with h; omega)
    replace G := grown_far G g287 (fun k hk => by injection hk with hk; subst hk; omega)
    replace hn23 := hn23.stored g287 hB12 (by decide) (by decide)
    replace ha24 := ha24.stored g287 hB12 (by decide)
    replace hB12 := hB288
    refine Sq.nil ?_
    refine Eq.next ?_
    refine Cq.ret ?_
    refine Eq.retCell rfl rfl agg26 hB12 rfl ?_
    exact ⟨⟨_, by omega, hR, G⟩, a, ⟨_, _, rfl, (OwnRows.rows hn23), (Own.row ha24)⟩, hsm.mono (by omega)⟩
  refine Sq.assign .plain rfl rfl ?_
  refine Sq.nil ?_
  refine Eq.next ?_
  refine Cq.els rfl ?_
  refine Cq.skip ?_
  refine Eq.end ?_
  refine Eq.next ?_
  refine Cq.seq ?_
  refine Cq.region ?_
  refine Sq.loadAgg agg26 .plain rfl rfl hB33 rfl ?_
  refine Sq.storeAgg agg26 .plain rfl rfl (one_cons rfl (one_cons (Rows.one (OwnRows.rows hn23)) (one_cons (Row.one (Own.row ha24)) one_nil))) hB12 rfl rfl (fun w290 g291 hB292 => ?_)
  have hs293 := World.grownBy.size g291
  replace hR := hR.grown g291 (by intro h; injection h with h; omega)
  replace G := grown_far G g291 (fun k hk => by injection hk with hk; subst hk; omega)
  replace hn23 := hn23.stored g291 hB12 (by decide) (by decide)
  replace ha24 := ha24.stored g291 hB12 (by decide)
  replace hB12 := hB292
  refine Sq.nil ?_
  refine Eq.next ?_
  refine Cq.ret ?_
  refine Eq.retCell rfl rfl agg26 hB12 rfl ?_
  exact ⟨⟨_, by omega, hR, G⟩, a, ⟨_, _, rfl, (OwnRows.rows hn23), (Own.row ha24)⟩, hsm.mono (by omega)⟩
end Go.Proofs.Ytoboklelbbgcnaa
set_option linter.unusedSimpArgs false
set_option linter.unusedVariables false
namespace Go.Proofs.Ytoboklelbbgcnaa
open Go.RowKit
set_option maxRecDepth 100000 in
theorem l5Any_c (w0 : World) (rb : Nat) (bv : Value) (p : Int) (bs : List UInt8) (e0 : TypeId) (hR : Blk w0 rb 79 [bv, .int .i64 p]) (hb : Src w0 e0 bv bs rb) (hbl : bs.length ≤ 2000) (hp : 0 ≤ p ∧ p ≤ 450000000) : Ret Try.prog 65 #[Value.pointer (some ⟨rb, 0, none⟩)] w0 (fun v w => (∃ p', (p ≤ p' ∧ p' ≤ p + 500) ∧ Blk w rb 79 [bv, .int .i64 p'] ∧ w0.grownBy w (some rb)) ∧ ∃ a, RowsA w v a ∧ Small 400 a) := by
  have G := World.grownBy.refl w0 (some rb)
  have hlt := hR.lt
  refine Ret.of (args := [Value.pointer (some ⟨rb, 0, none⟩)]) Try.func65 rfl rfl rfl ?_
  rintro _ rfl
  show Cq _ _ _ _ [(0, Value.pointer (some ⟨rb, 0, none⟩))] _
  refine Cq.seq ?_
  refine Cq.region ?_
  refine Sq.alloc zero26 .plain rfl (fun b1 w2 e3 hB4 hlo5 => ?_)
  have hd6 := Nat.lt_of_lt_of_le hR.lt hlo5
  have hd7 := Nat.le_trans (World.grownBy.size G) hlo5
  have hs8 := Below.size e3
  replace hR := hR.ext e3
  replace G := grown_trans G (Ext.to_grown e3 _)
  refine Sq.nil ?_
  refine Eq.next ?_
  refine Cq.seq ?_
  refine Cq.region ?_
  refine Sq.move .plain rfl rfl ?_
  refine Sq.call fn69 .plain rfl rfl (l3Draw_c _ _ _ _ _ _ hR (hb.go G) hbl (by omega) ) ?_
  rintro _ w10 ⟨⟨p11, hp14, hB13, g12⟩, ⟨a15, ⟨nx16, ac17, rfl, hn18, ha19⟩, hv20, hal21⟩⟩
  have hs22 := World.grownBy.size g12
  have hs23 := World.grownBy.size G
  have hs24 := World.grownBy.size g12
  replace G := grown_trans G g12
  replace hB4 := hB4.grown g12 (by intro h; injection h with h; omega)
  replace hR := hB13
  refine Sq.alloc zero26 .plain rfl (fun b25 w26 e27 hB28 hlo29 => ?_)
  have hd30 := Nat.lt_of_lt_of_le hR.lt hlo29
  have hd31 := Nat.le_trans (World.grownBy.size G) hlo29
  have hd32 := Nat.lt_of_lt_of_le hB4.lt hlo29
  have hs33 := Below.size e27
  replace hR := hR.ext e27
  replace G := grown_trans G (Ext.to_grown e27 _)
  replace hB4 := hB4.ext e27
  replace hn18 := hn18.ext e27
  replace ha19 := ha19.ext e27
  refine Sq.storeAgg agg26 .plain rfl rfl (one_cons rfl (one_cons (Rows.one hn18) (one_cons (Row.one ha19) one_nil))) hB28 rfl rfl (fun w34 g35 hB36 => ?_)
  have hs37 := World.grownBy.size g35
  replace hR := hR.grown g35 (by intro h; injection h with h; omega)
  replace G := grown_far G g35 (fun k hk => by injection hk with hk; subst hk; omega)
  replace hB4 := hB4.grown g35 (by intro h; injection h with h; omega)
  replace hn18 := hn18.stored g35 hB28 (by decide) (by decide)
  replace ha19 := ha19.stored g35 hB28 (by decide)
  replace hB28 := hB36
  refine Sq.nil ?_
  refine Eq.next ?_
  refine Cq.seq ?_
  refine Cq.seq ?_
  refine Cq.region ?_
  refine Sq.move .plain rfl rfl ?_
  refine Sq.call fn48 .plain rfl rfl (pick_c _ _ _ _ _ _ hR (hb.go G) hbl (by omega) 3 (by omega)) ?_
  rintro _ w39 ⟨⟨p40, hp43, hB42, g41⟩, ⟨k44, rfl, hk45⟩⟩
  have hs46 := World.grownBy.size g41
  have hs47 := World.grownBy.size G
  have hs48 := World.grownBy.size g41
  replace G := grown_trans G g41
  replace hB4 := hB4.grown g41 (by intro h; injection h with h; omega)
  replace hn18 := hn18.stored g41 hR (by decide) (by decide)
  replace ha19 := ha19.stored g41 hR (by decide)
  replace hB28 := hB28.grown g41 (by intro h; injection h with h; omega)
  replace hR := hB42
  refine Sq.assign .plain rfl rfl ?_
  refine Sq.nil ?_
  refine Eq.next ?_
  refine Cq.block ?_
  refine Cq.loop (fun nn w ls => ∃ (i : Int), ∃ (p1 : Int), ∃ (N1 : Nat), ∃ (A1 : A), ∃ (nxv : Value), ∃ (acv : Value), ls = [(0, Value.pointer (some ⟨rb, 0, none⟩)), (2, Value.pointer (some ⟨b1, 0, none⟩)), (3, Value.pointer (some ⟨b25, 0, none⟩)), (4, Value.int .i64 i)] ∧ (0 ≤ i ∧ i ≤ 2) ∧ (p ≤ p1 ∧ p1 ≤ p + 310 + 10 * (2 - i)) ∧ Blk w rb 79 [bv, Value.int .i64 p1] ∧ Blk w b25 26 [Value.int .i64 A1.al, nxv, acv] ∧ Rows w 55 3 nxv A1.next ∧ Bools w 4 acv A1.acc ∧ (N1 + 20 * i.toNat ≤ 240) ∧ Small N1 A1 ∧ World.grownBy w0 w (some rb) ∧ Blk w b1 26 [Value.int .i64 0, Value.slice none 0 0, Value.slice none 0 0] ∧ nn = i.toNat) _ _ ⟨k44, _, _, _, _, _, rfl, by omega, by omega, hR, hB28, hn18, ha19, by omega, hv20, G, hB4, rfl⟩ (.cons rfl (.cons rfl (.cons rfl (.cons rfl (.nil))))) ?_
  rintro nn wl1 ls ⟨i, p1, N1, A1, nxv, acv, rfl, hi, hp1, hR, hBr, hnr, har, hN1, hsm0, G, hB4, rfl⟩
  have hs49 := World.grownBy.size G
  refine Cq.seq ?_
  refine Cq.seq ?_
  refine Cq.region ?_
  refine Sq.move .plain rfl rfl ?_
  refine Sq.gtr .plain rfl rfl rfl ?_
  refine Sq.part (fun c50 => ?_) (fun c50 => ?_)
  · refine Sq.nil ?_
    refine Eq.next ?_
    refine Cq.thn rfl ?_
    refine Cq.skip ?_
    refine Eq.next ?_
    refine Cq.seq ?_
    refine Cq.block ?_
    refine Cq.region ?_
    refine Sq.move .plain rfl rfl ?_
    refine Sq.loadAgg agg26 .plain rfl rfl hBr rfl ?_
    refine Sq.call fn49 .plain rfl rfl (l4Change_c _ _ _ _ _ _ hR (hb.go G) hbl (by omega) A1 _ _ hnr har _ (by omega) hsm0) ?_
    rintro _ w52 ⟨⟨p53, hp56, hB55, g54⟩, ⟨a57, ⟨nx58, ac59, rfl, hn60, ha61⟩, hv62⟩⟩
    have hs63 := World.grownBy.size g54
    have hs64 := World.grownBy.size G
    have hs65 := World.grownBy.size g54
    replace G := grown_trans G g54
    replace hB4 := hB4.grown g54 (by intro h; injection h with h; omega)
    replace hBr := hBr.grown g54 (by intro h; injection h with h; omega)
    replace hR := hB55
    refine Sq.storeAgg agg26 .plain rfl rfl (one_cons rfl (one_cons (Rows.one hn60) (one_cons (Row.one ha61) one_nil))) hBr rfl rfl (fun w66 g67 hB68 => ?_)
    have hs69 := World.grownBy.size g67
    replace G := grown_far G g67 (fun k hk => by injection hk with hk; subst hk; omega)
    replace hB4 := hB4.grown g67 (by intro h; injection h with h; omega)
    replace hR := hR.grown g67 (by intro h; injection h with h; omega)
    replace hn60 := hn60.stored g67 hBr (by decide) (by decide)
    replace ha61 := ha61.stored g67 hBr (by decide)
    replace hBr := hB68
    refine Sq.nil ?_
    refine Eq.end ?_
    refine Eq.next ?_
    refine Cq.region ?_
    refine Sq.move .plain rfl rfl ?_
    refine Sq.sub .plain rfl rfl rfl (by omega) ?_
    refine Sq.assign .plain rfl rfl ?_
    refine Sq.nil ?_
    refine Eq.round _ _ ⟨_, _, _, _, _, _, rfl, by omega, by omega, hR, hBr, hn60, ha61, by omega, hv62, G, hB4, rfl⟩ (by omega) (.cons rfl (.cons rfl (.cons rfl (.cons rfl (.nil)))))
  refine Sq.nil ?_
  refine Eq.next ?_
  refine Cq.els rfl ?_
  refine Cq.exit ?_
  refine Eq.past ?_
  refine Eq.past ?_
  refine Eq.hit ?_
  refine Eq.next ?_
  refine Cq.seq ?_
  refine Cq.seq ?_
  refine Cq.region ?_
  refine Sq.move .plain rfl rfl ?_
  refine Sq.call fn48 .plain rfl rfl (pick_c _ _ _ _ _ _ hR (hb.go G) hbl (by omega) 10 (by omega)) ?_
  rintro _ w71 ⟨⟨p72, hp75, hB74, g73⟩, ⟨k76, rfl, hk77⟩⟩
  have hs78 := World.grownBy.size g73
  have hs79 := World.grownBy.size G
  have hs80 := World.grownBy.size g73
  replace G := grown_trans G g73
  replace hB4 := hB4.grown g73 (by intro h; injection h with h; omega)
  replace hBr := hBr.grown g73 (by intro h; injection h with h; omega)
  replace hnr := hnr.stored g73 hR (by decide) (by decide)
  replace har := har.stored g73 hR (by decide)
  replace hR := hB74
  refine Sq.eql .plain rfl rfl rfl ?_
  refine Sq.part (fun c81 => ?_) (fun c81 => ?_)
  · refine Sq.nil ?_
    refine Eq.next ?_
    refine Cq.thn rfl ?_
    refine Cq.region ?_
    refine Sq.move .plain rfl rfl ?_
    refine Sq.call fn72 .plain rfl rfl (l3Big_c _ _ _ _ _ _ hR (hb.go G) hbl (by omega) ) ?_
    rintro _ w83 ⟨⟨p84, hp87, hB86, g85⟩, ⟨a88, ⟨nx89, ac90, rfl, hn91, ha92⟩, hv93⟩⟩
    have hs94 := World.grownBy.size g85
    have hs95 := World.grownBy.size G
    have hs96 := World.grownBy.size g85
    replace G := grown_trans G g85
    replace hB4 := hB4.grown g85 (by intro h; injection h with h; omega)
    replace hBr := hBr.grown g85 (by intro h; injection h with h; omega)
    replace hR := hB86
    refine Sq.storeAgg agg26 .plain rfl rfl (one_cons rfl (one_cons (Rows.one (OwnRows.rows hn91)) (one_cons (Row.one (Own.row ha92)) one_nil))) hBr rfl rfl (fun w97 g98 hB99 => ?_)
    have hs100 := World.grownBy.size g98
    replace G := grown_far G g98 (fun k hk => by injection hk with hk; subst hk; omega)
    replace hB4 := hB4.grown g98 (by intro h; injection h with h; omega)
    replace hR := hR.grown g98 (by intro h; injection h with h; omega)
    replace hn91 := hn91.stored g98 hBr (by decide) (by decide)
    replace ha92 := ha92.stored g98 hBr (by decide)
    replace hBr := hB99
    refine Sq.nil ?_
    refine Eq.next ?_
    refine Cq.seq ?_
    refine Cq.seq ?_
    refine Cq.region ?_
    refine Sq.move .plain rfl rfl ?_
    refine Sq.call fn48 .plain rfl rfl (pick_c _ _ _ _ _ _ hR (hb.go G) hbl (by omega) 6 (by omega)) ?_
    rintro _ w102 ⟨⟨p103, hp106, hB105, g104⟩, ⟨k107, rfl, hk108⟩⟩
    have hs109 := World.grownBy.size g104
    have hs110 := World.grownBy.size G
    have hs111 := World.grownBy.size g104
    replace G := grown_trans G g104
    replace hB4 := hB4.grown g104 (by intro h; injection h with h; omega)
    replace hBr := hBr.grown g104 (by intro h; injection h with h; omega)
    replace hn91 := hn91.stored g104 hR (by decide) (by decide)
    replace ha92 := ha92.stored g104 hR (by decide)
    replace hR := hB105
    refine Sq.eql .plain rfl rfl rfl ?_
    refine Sq.part (fun c112 => ?_) (fun c112 => ?_)
    · refine Sq.nil ?_
      refine Eq.next ?_
      refine Cq.thn rfl ?_
      refine Cq.region ?_
      refine Sq.move .plain rfl rfl ?_
      refine Sq.loadAgg agg26 .plain rfl rfl hBr rfl ?_
      refine Sq.call fn71 .plain rfl rfl (l3Wrong_c _ _ _ _ _ _ hR (hb.go G) hbl (by omega) a88 _ _ (OwnRows.rows hn91) (Own.row ha92) _ (by omega) (Small.of hv93)) ?_
      rintro _ w114 ⟨⟨p115, hp118, hB117, g116⟩, ⟨a119, ⟨nx120, ac121, rfl, hn122, ha123⟩, hv124⟩⟩
      have hs125 := World.grownBy.size g116
      have hs126 := World.grownBy.size G
      have hs127 := World.grownBy.size g116
      replace G := grown_trans G g116
      replace hB4 := hB4.grown g116 (by intro h; injection h with h; omega)
      replace hBr := hBr.grown g116 (by intro h; injection h with h; omega)
      replace hR := hB117
      refine Sq.storeAgg agg26 .plain rfl rfl (one_cons rfl (one_cons (Rows.one hn122) (one_cons (Row.one ha123) one_nil))) hBr rfl rfl (fun w128 g129 hB130 => ?_)
      have hs131 := World.grownBy.size g129
      replace G := grown_far G g129 (fun k hk => by injection hk with hk; subst hk; omega)
      replace hB4 := hB4.grown g129 (by intro h; injection h with h; omega)
      replace hR := hR.grown g129 (by intro h; injection h with h; omega)
      replace hn122 := hn122.stored g129 hBr (by decide) (by decide)
      replace ha123 := ha123.stored g129 hBr (by decide)
      replace hBr := hB130
      refine Sq.nil ?_
      refine Eq.next ?_
      refine Cq.seq ?_
      refine Cq.region ?_
      refine Sq.loadAgg agg26 .plain rfl rfl hBr rfl ?_
      refine Sq.storeAgg agg26 .plain rfl rfl (one_cons rfl (one_cons (Rows.one hn122) (one_cons (Row.one ha123) one_nil))) hB4 rfl rfl (fun w132 g133 hB134 => ?_)
      have hs135 := World.grownBy.size g133
      replace G := grown_far G g133 (fun k hk => by injection hk with hk; subst hk; omega)
      replace hR := hR.grown g133 (by intro h; injection h with h; omega)
      replace hn122 := hn122.stored g133 hB4 (by decide) (by decide)
      replace ha123 := ha123.stored g133 hB4 (by decide)
      replace hB4 := hB134
      refine Sq.nil ?_
      refine Eq.next ?_
      refine Cq.ret ?_
      refine Eq.retCell rfl rfl agg26 hB4 rfl ?_
      exact ⟨⟨_, by omega, hR, G⟩, _, ⟨_, _, rfl, hn122, ha123⟩, by first | exact (Small.of hsm0).mono (by omega) | exact Small.mono hsm0 (by omega) | exact (Small.of hv124).mono (by omega) | exact Small.mono hv124 (by omega) | exact (Small.of hv93).mono (by omega) | exact Small.mono hv93 (by omega) | exact (Small.of hv62).mono (by omega) | exact Small.mono hv62 (by omega) | exact (Small.of hv20).mono (by omega) | exact Small.mono hv20 (by omega)⟩
    refine Sq.nil ?_
    refine Eq.next ?_
    refine Cq.els rfl ?_
    refine Cq.skip ?_
    refine Eq.next ?_
    refine Cq.seq ?_
    refine Cq.region ?_
    refine Sq.loadAgg agg26 .plain rfl rfl hBr rfl ?_
    refine Sq.storeAgg agg26 .plain rfl rfl (one_cons rfl (one_cons (Rows.one (OwnRows.rows hn91)) (one_cons (Row.one (Own.row ha92)) one_nil))) hB4 rfl rfl (fun w136 g137 hB138 => ?_)
    have hs139 := World.grownBy.size g137
    replace G := grown_far G g137 (fun k hk => by injection hk with hk; subst hk; omega)
    replace hR := hR.grown g137 (by intro h; injection h with h; omega)
    replace hn91 := hn91.stored g137 hB4 (by decide) (by decide)
    replace ha92 := ha92.stored g137 hB4 (by decide)
    replace hB4 := hB138
    refine Sq.nil ?_
    refine Eq.next ?_
    refine Cq.ret ?_
    refine Eq.retCell rfl rfl agg26 hB4 rfl ?_
    exact ⟨⟨_, by omega, hR, G⟩, _, ⟨_, _, rfl, (OwnRows.rows hn91), (Own.row ha92)⟩, by first | exact (Small.of hsm0).mono (by omega) | exact Small.mono hsm0 (by omega) | exact (Small.of hv124).mono (by omega) | exact Small.mono hv124 (by omega) | exact (Small.of hv93).mono (by omega) | exact Small.mono hv93 (by omega) | exact (Small.of hv62).mono (by omega) | exact Small.mono hv62 (by omega) | exact (Small.of hv20).mono (by omega) | exact Small.mono hv20 (by omega)⟩
  refine Sq.nil ?_
  refine Eq.next ?_
  refine Cq.els rfl ?_
  refine Cq.skip ?_
  refine Eq.next ?_
  refine Cq.seq ?_
  refine Cq.seq ?_
  refine Cq.region ?_
  refine Sq.move .plain rfl rfl ?_
  refine Sq.call fn48 .plain rfl rfl (pick_c _ _ _ _ _ _ hR (hb.go G) hbl (by omega) 6 (by omega)) ?_
  rintro _ w141 ⟨⟨p142, hp145, hB144, g143⟩, ⟨k146, rfl, hk147⟩⟩
  have hs148 := World.grownBy.size g143
  have hs149 := World.grownBy.size G
  have hs150 := World.grownBy.size g143
  replace G := grown_trans G g143
  replace hB4 := hB4.grown g143 (by intro h; injection h with h; omega)
  replace hBr := hBr.grown g143 (by intro h; injection h with h; omega)
  replace hnr := hnr.stored g143 hR (by decide) (by decide)
  replace har := har.stored g143 hR (by decide)
  replace hR := hB144
  refine Sq.eql .plain rfl rfl rfl ?_
  refine Sq.part (fun c151 => ?_) (fun c151 => ?_)
  · refine Sq.nil ?_
    refine Eq.next ?_
    refine Cq.thn rfl ?_
    refine Cq.region ?_
    refine Sq.move .plain rfl rfl ?_
    refine Sq.loadAgg agg26 .plain rfl rfl hBr rfl ?_
    refine Sq.call fn71 .plain rfl rfl (l3Wrong_c _ _ _ _ _ _ hR (hb.go G) hbl (by omega) A1 _ _ hnr har _ (by omega) hsm0) ?_
    rintro _ w153 ⟨⟨p154, hp157, hB156, g155⟩, ⟨a158, ⟨nx159, ac160, rfl, hn161, ha162⟩, hv163⟩⟩
    have hs164 := World.grownBy.size g155
    have hs165 := World.grownBy.size G
    have hs166 := World.grownBy.size g155
    replace G := grown_trans G g155
    replace hB4 := hB4.grown g155 (by intro h; injection h with h; omega)
    replace hBr := hBr.grown g155 (by intro h; injection h with h; omega)
    replace hR := hB156
    refine Sq.storeAgg agg26 .plain rfl rfl (one_cons rfl (one_cons (Rows.one hn161) (one_cons (Row.one ha162) one_nil))) hBr rfl rfl (fun w167 g168 hB169 => ?_)
    have hs170 := World.grownBy.size g168
    replace G := grown_far G g168 (fun k hk => by injection hk with hk; subst hk; omega)
    replace hB4 := hB4.grown g168 (by intro h; injection h with h; omega)
    replace hR := hR.grown g168 (by intro h; injection h with h; omega)
    replace hn161 := hn161.stored g168 hBr (by decide) (by decide)
    replace ha162 := ha162.stored g168 hBr (by decide)
    replace hBr := hB169
    refine Sq.nil ?_
    refine Eq.next ?_
    refine Cq.seq ?_
    refine Cq.region ?_
    refine Sq.loadAgg agg26 .plain rfl rfl hBr rfl ?_
    refine Sq.storeAgg agg26 .plain rfl rfl (one_cons rfl (one_cons (Rows.one hn161) (one_cons (Row.one ha162) one_nil))) hB4 rfl rfl (fun w171 g172 hB173 => ?_)
    have hs174 := World.grownBy.size g172
    replace G := grown_far G g172 (fun k hk => by injection hk with hk; subst hk; omega)
    replace hR := hR.grown g172 (by intro h; injection h with h; omega)
    replace hn161 := hn161.stored g172 hB4 (by decide) (by decide)
    replace ha162 := ha162.stored g172 hB4 (by decide)
    replace hB4 := hB173
    refine Sq.nil ?_
    refine Eq.next ?_
    refine Cq.ret ?_
    refine Eq.retCell rfl rfl agg26 hB4 rfl ?_
    exact ⟨⟨_, by omega, hR, G⟩, _, ⟨_, _, rfl, hn161, ha162⟩, by first | exact (Small.of hsm0).mono (by omega) | exact Small.mono hsm0 (by omega) | exact (Small.of hv163).mono (by omega) | exact Small.mono hv163 (by omega) | exact (Small.of hv124).mono (by omega) | exact Small.mono hv124 (by omega) | exact (Small.of hv93).mono (by omega) | exact Small.mono hv93 (by omega) | exact (Small.of hv62).mono (by omega) | exact Small.mono hv62 (by omega) | exact (Small.of hv20).mono (by omega) | exact Small.mono hv20 (by omega)⟩
  refine Sq.nil ?_
  refine Eq.next ?_
  refine Cq.els rfl ?_
  refine Cq.skip ?_
  refine Eq.next ?_
  refine Cq.seq ?_
  refine Cq.region ?_
  refine Sq.loadAgg agg26 .plain rfl rfl hBr rfl ?_
  refine Sq.storeAgg agg26 .plain rfl rfl (one_cons rfl (one_cons (Rows.one hnr) (one_cons (Row.one har) one_nil))) hB4 rfl rfl (fun w175 g176 hB177 => ?_)
  have hs178 := World.grownBy.size g176
  replace G := grown_far G g176 (fun k hk => by injection hk with hk; subst hk; omega)
  replace hR := hR.grown g176 (by intro h; injection h with h; omega)
  replace hnr := hnr.stored g176 hB4 (by decide) (by decide)
  replace har := har.stored g176 hB4 (by decide)
  replace hB4 := hB177
  refine Sq.nil ?_
  refine Eq.next ?_
  refine Cq.ret ?_
  refine Eq.retCell rfl rfl agg26 hB4 rfl ?_
  exact ⟨⟨_, by omega, hR, G⟩, _, ⟨_, _, rfl, hnr, har⟩, by first | exact (Small.of hsm0).mono (by omega) | exact Small.mono hsm0 (by omega) | exact (Small.of hv163).mono (by omega) | exact Small.mono hv163 (by omega) | exact (Small.of hv124).mono (by omega) | exact Small.mono hv124 (by omega) | exact (Small.of hv93).mono (by omega) | exact Small.mono hv93 (by omega) | exact (Small.of hv62).mono (by omega) | exact Small.mono hv62 (by omega) | exact (Small.of hv20).mono (by omega) | exact Small.mono hv20 (by omega)⟩
end Go.Proofs.Ytoboklelbbgcnaa
set_option linter.unusedSimpArgs false
set_option linter.unusedVariables false
namespace Go.Proofs.Ytoboklelbbgcnaa
open Go.RowKit
set_option maxRecDepth 100000 in
theorem safety_c (w0 : World) (a : A) (nx ac : Value) (hnx : Rows w0 55 3 nx a.next) (hac : Bools w0 4 ac a.acc) : Ret Try.prog 19 #[Value.agg #[Value.int .i64 a.al, nx, ac]] w0 (fun v w => (∃ u, v = .tuple #[u, .bool (validA a)] ∧ OwnA w w0.heap.size u (if validA a then safe a else zeroA)) ∧ Ext w0 w) := by
  have E := Ext.refl w0
  refine Ret.of (args := [Value.agg #[Value.int .i64 a.al, nx, ac]]) Try.func19 rfl rfl rfl ?_
  rintro _ rfl
  show Cq _ _ _ _ [(0, Value.agg #[Value.int .i64 a.al, nx, ac])] _
  refine Cq.seq ?_
  refine Cq.region ?_
  refine Sq.box .plain rfl rfl (fun b1 w2 e3 hB4 hlo5 => ?_)
  have hd6 := Nat.le_trans (Below.size E) hlo5
  have hs7 := Below.size e3
  replace E := E.trans e3
  refine Sq.alloc zero26 .plain rfl (fun b8 w9 e10 hB11 hlo12 => ?_)
  have hd13 := Nat.le_trans (Below.size E) hlo12
  have hd14 := Nat.lt_of_lt_of_le hB4.lt hlo12
  have hs15 := Below.size e10
  replace E := E.trans e10
  replace hB4 := hB4.ext e10
  refine Sq.assign .plain rfl rfl ?_
  refine Sq.nil ?_
  refine Eq.next ?_
  refine Cq.seq ?_
  refine Cq.seq ?_
  refine Cq.region ?_
  refine Sq.loadAgg agg26 .plain rfl rfl hB4 rfl ?_
  have hd19 := hB4.lt
  have hd20 := hB11.lt
  refine Sq.call fn18 .plain rfl rfl (valid_c _ a _ _ (hnx.ext E) (hac.ext E)) ?_
  rintro _ w17 ⟨rfl, e18⟩
  have hs21 := Below.size E
  have hs22 := Below.size e18
  replace E := E.trans e18
  replace hB4 := hB4.ext e18
  replace hB11 := hB11.ext e18
  refine Sq.partB (fun hv => ?_) (fun hv => ?_)
  · refine Sq.notT .plain rfl rfl ?_
    refine Sq.nil ?_
    refine Eq.next ?_
    refine Cq.els rfl ?_
    refine Cq.skip ?_
    refine Eq.next ?_
    refine Cq.seq ?_
    refine Cq.region ?_
    refine Sq.loadAgg agg26 .plain rfl rfl hB4 rfl ?_
    have hd30 := hB4.lt
    have hd31 := hB11.lt
    refine Sq.call fn46 .plain rfl rfl (copyA_c _ a _ _ (hnx.ext E) (hac.ext E) (fit_of_valid hv)) ?_
    rintro _ w24 ⟨⟨nx26, ac27, rfl, hn28, ha29⟩, e25⟩
    have hs32 := Below.size E
    have hs33 := Below.size e25
    replace E := E.trans e25
    replace hB4 := hB4.ext e25
    replace hB11 := hB11.ext e25
    refine Sq.alloc zero26 .plain rfl (fun b34 w35 e36 hB37 hlo38 => ?_)
    have hd39 := Nat.le_trans (Below.size E) hlo38
    have hd40 := Nat.lt_of_lt_of_le hB4.lt hlo38
    have hd41 := Nat.lt_of_lt_of_le hB11.lt hlo38
    have hs42 := Below.size e36
    replace E := E.trans e36
    replace hB4 := hB4.ext e36
    replace hB11 := hB11.ext e36
    replace hn28 := hn28.ext e36
    replace ha29 := ha29.ext e36
    refine Sq.storeAgg agg26 .plain rfl rfl (one_cons rfl (one_cons (Rows.one (OwnRows.rows hn28)) (one_cons (Row.one (Own.row ha29)) one_nil))) hB37 rfl rfl (fun w43 g44 hB45 => ?_)
    have hs46 := World.grownBy.size g44
    replace E := E.grown g44 (fun k hk => by injection hk with hk; subst hk; omega)
    replace hB4 := hB4.grown g44 (by intro h; injection h with h; omega)
    replace hB11 := hB11.grown g44 (by intro h; injection h with h; omega)
    replace hn28 := hn28.stored g44 hB37 (by decide) (by decide)
    replace ha29 := ha29.stored g44 hB37 (by decide)
    replace hB37 := hB45
    refine Sq.nil ?_
    refine Eq.next ?_
    refine Cq.seq ?_
    refine Cq.seq ?_
    refine Cq.region ?_
    refine Sq.fieldAddr fld26_1 .plain rfl rfl ?_
    refine Sq.loadB one23 .plain rfl rfl hB37 rfl ?_
    refine Sq.lenRows (OwnRows.rows hn28) .plain rfl und23 rfl ?_
    refine Sq.move .plain rfl rfl ?_
    refine Sq.nil ?_
    refine Eq.next ?_
    refine Cq.block ?_
    have hvs := validA_spec.1 hv
    have hv1 := hvs.2.1
    have hv2 := hvs.2.2.1
    refine Cq.loop (fun nn w ls => ∃ (i : Int), ∃ (xss : List (List Int)), ls = [(1, Value.pointer (some ⟨b1, 0, none⟩)), (2, Value.pointer (some ⟨b8, 0, none⟩)), (4, Value.pointer (some ⟨b34, 0, none⟩)), (15, nx26), (16, Value.int .i64 (List.length a.next : Int)), (17, Value.int .i64 i)] ∧ (0 ≤ i ∧ i ≤ a.next.length) ∧ OwnRows w w0.heap.size w.heap.size 55 3 nx26 xss ∧ SafeAt a i.toNat 0 xss ∧ Ext w0 w ∧ Blk w b1 26 [Value.int .i64 a.al, nx, ac] ∧ Blk w b8 26 [Value.int .i64 0, Value.slice none 0 0, Value.slice none 0 0] ∧ Blk w b34 26 [Value.int .i64 a.al, nx26, ac27] ∧ Own w w17.heap.size 4 ac27 (a.acc.map Value.bool) ∧ nn = ((a.next.length : Int) - i).toNat) _ _ ⟨0, _, rfl, by omega, OwnRows.mono (OwnRows.now hn28) (by omega), SafeAt.zero a, E, hB4, hB11, hB37, ha29, rfl⟩ (.cons rfl (.cons rfl (.cons rfl (.cons rfl (.cons rfl (.cons rfl (.nil))))))) ?_
    rintro nn wl1 ls ⟨i, xss, rfl, hi, hn28, hsf, E, hB4, hB11, hB37, ha29, rfl⟩
    have hs47 := Below.size E
    have hxl := hsf.1
    have hr6 := valid_row6 hv (k := i.toNat)
    refine Cq.seq ?_
    refine Cq.region ?_
    refine Sq.lss .plain rfl rfl rfl ?_
    refine Sq.part (fun c48 => ?_) (fun c48 => ?_)
    · refine Sq.nil ?_
      refine Eq.next ?_
      refine Cq.seq ?_
      refine Cq.thn rfl ?_
      refine Cq.skip ?_
      refine Eq.next ?_
      refine Cq.seq ?_
      refine Cq.block ?_
      refine Cq.seq ?_
      refine Cq.region ?_
      refine Sq.move .plain rfl rfl ?_
      obtain ⟨pA, rA, hpA, _⟩ := Rows.at (OwnRows.rows hn28) (i := i) (by omega) (by omega)
      refine Sq.val .plain rfl rfl (Still.at' sl23 hpA rfl rfl) ?_
      refine Sq.val .plain rfl rfl (Still.loadA one55 rfl hpA.1) ?_
      refine Sq.assign .plain rfl rfl ?_
      refine Sq.assign .plain rfl rfl ?_
      refine Sq.nil ?_
      refine Eq.next ?_
      refine Cq.seq ?_
      refine Cq.region ?_
      refine Sq.move .plain rfl rfl ?_
      have hrA0 := (OwnRows.rowAt hn28 hpA).1
      have hlen0 := (hsf.2 i.toNat (by omega)).1
      refine Sq.lenInts (Own.row hrA0) .plain rfl und55 rfl ?_
      refine Sq.move .plain rfl rfl ?_
      refine Sq.nil ?_
      refine Eq.next ?_
      refine Cq.block ?_
      refine Cq.loop (fun nn w ls => ∃ (j : Int), ∃ (yss : List (List Int)), ls = [(1, Value.pointer (some ⟨b1, 0, none⟩)), (2, Value.pointer (some ⟨b8, 0, none⟩)), (4, Value.pointer (some ⟨b34, 0, none⟩)), (15, nx26), (16, Value.int .i64 (List.length a.next : Int)), (17, Value.int .i64 i), (5, Value.int .i64 i), (6, rA), (23, Value.int .i64 ((List.length (xss.getD i.toNat []) : Int))), (24, Value.int .i64 j)] ∧ (0 ≤ j ∧ j ≤ (a.next.getD i.toNat []).length) ∧ wl1.heap.size ≤ w.heap.size ∧ OwnRows w w0.heap.size w.heap.size 55 3 nx26 yss ∧ At w 55 nx26 i pA rA ∧ SafeAt a i.toNat j.toNat yss ∧ Ext w0 w ∧ Blk w b1 26 [Value.int .i64 a.al, nx, ac] ∧ Blk w b8 26 [Value.int .i64 0, Value.slice none 0 0, Value.slice none 0 0] ∧ Blk w b34 26 [Value.int .i64 a.al, nx26, ac27] ∧ Own w w17.heap.size 4 ac27 (a.acc.map Value.bool) ∧ nn = (((a.next.getD i.toNat []).length : Int) - j).toNat) _ _ ⟨0, _, rfl, by omega, by omega, OwnRows.now hn28, hpA, hsf, E, hB4, hB11, hB37, ha29, rfl⟩ (.cons rfl (.cons rfl (.cons rfl (.cons rfl (.cons rfl (.cons rfl (.cons rfl (.cons rfl (.cons rfl (.cons rfl (.nil))))))))))) ?_
      rintro nn wl2 ls ⟨j, yss, rfl, hj, hsz, hn28, hpA, hsf2, E, hB4, hB11, hB37, ha29, rfl⟩
      have hs49 := Below.size E
      have hly := (hsf2.2 i.toNat (by omega)).1
      refine Cq.seq ?_
      refine Cq.region ?_
      refine Sq.lss .plain rfl rfl rfl ?_
      refine Sq.part (fun c50 => ?_) (fun c50 => ?_)
      · refine Sq.nil ?_
        refine Eq.next ?_
        refine Cq.seq ?_
        refine Cq.thn rfl ?_
        refine Cq.skip ?_
        refine Eq.next ?_
        refine Cq.seq ?_
        refine Cq.block ?_
        refine Cq.seq ?_
        refine Cq.region ?_
        refine Sq.move .plain rfl rfl ?_
        refine Sq.assign .plain rfl rfl ?_
        refine Sq.nil ?_
        refine Eq.next ?_
        refine Cq.seq ?_
        refine Cq.region ?_
        refine Sq.fieldAddr fld26_2 .plain rfl rfl ?_
        refine Sq.loadB one24 .plain rfl rfl hB4 rfl ?_
        refine Sq.move .plain rfl rfl ?_
        refine Sq.idxBools sl24 one4 (hac.ext E) .plain rfl rfl rfl .plain rfl rfl (by omega) (by omega) ?_
        refine Sq.partB (fun hac => ?_) (fun hac => ?_)
        · refine Sq.notT .plain rfl rfl ?_
          refine Sq.nil ?_
          refine Eq.next ?_
          refine Cq.els rfl ?_
          refine Cq.skip ?_
          refine Eq.end ?_
          refine Eq.next ?_
          refine Cq.region ?_
          refine Sq.add .plain rfl rfl rfl (by omega) ?_
          refine Sq.move .plain rfl rfl ?_
          refine Sq.nil ?_
          have e1 := toNat_succ hj.1
          refine Eq.round _ _ ⟨j + 1, _, rfl, by omega, by omega, OwnRows.now hn28, hpA, by rw [e1]; exact hsf2.skip hac, E, hB4, hB11, hB37, ha29, rfl⟩ (by omega) (.cons rfl (.cons rfl (.cons rfl (.cons rfl (.cons rfl (.cons rfl (.cons rfl (.cons rfl (.cons rfl (.cons rfl (.nil)))))))))))
        refine Sq.notF .plain rfl rfl ?_
        refine Sq.nil ?_
        refine Eq.next ?_
        refine Cq.thn rfl ?_
        refine Cq.region ?_
        refine Sq.move .plain rfl rfl ?_
        refine Sq.move .plain rfl rfl ?_
        refine Sq.move .plain rfl rfl ?_
        have hr51 := (OwnRows.rowAt hn28 hpA).1
        obtain ⟨p52, hp53o⟩ := Own.at hr51 (i := j) (by omega) (by first | (simp only [List.length_map]; omega) | (simp; omega))
        refine Sq.atO sl55 hp53o .plain rfl rfl rfl ?_
        refine Sq.storeO one3 hr51 hp53o .plain rfl rfl rfl (fun w54 g55 ho56 => ?_)
        have hs57 := World.grownBy.size g55
        rw [← List.map_set] at ho56
        obtain ⟨hX1, hA1⟩ := OwnRows.set hn28 (by decide) hpA ho56 g55
        replace hn28 := hX1
        replace hpA := hA1
        replace E := E.owned hr51 g55 (by omega)
        replace hB4 := hB4.owned hr51 g55 (by decide)
        replace hB11 := hB11.owned hr51 g55 (by decide)
        replace hB37 := hB37.owned hr51 g55 (by decide)
        replace ha29 := ha29.owned hr51 g55 (by decide)
        refine Sq.nil ?_
        refine Eq.end ?_
        refine Eq.next ?_
        refine Cq.region ?_
        refine Sq.add .plain rfl rfl rfl (by omega) ?_
        refine Sq.move .plain rfl rfl ?_
        refine Sq.nil ?_
        have e1 := toNat_succ hj.1
        have e2 := hsf2.step (by omega) (by omega) hac
        rw [Int.toNat_of_nonneg hi.1] at e2
        refine Eq.round _ _ ⟨j + 1, _, rfl, by omega, by omega, OwnRows.now hn28, hpA, by rw [e1]; exact e2, E, hB4, hB11, hB37, ha29, rfl⟩ (by omega) (.cons rfl (.cons rfl (.cons rfl (.cons rfl (.cons rfl (.cons rfl (.cons rfl (.cons rfl (.cons rfl (.cons rfl (.nil)))))))))))
      refine Sq.nil ?_
      refine Eq.next ?_
      refine Cq.seq ?_
      refine Cq.els rfl ?_
      refine Cq.exit ?_
      refine Eq.past ?_
      refine Eq.past ?_
      refine Eq.hit ?_
      refine Eq.end ?_
      refine Eq.next ?_
      refine Cq.region ?_
      refine Sq.add .plain rfl rfl rfl (by omega) ?_
      refine Sq.move .plain rfl rfl ?_
      refine Sq.nil ?_
      have e1 := toNat_succ hi.1
      refine Eq.round _ _ ⟨i + 1, _, rfl, by omega, OwnRows.now hn28, by rw [e1]; exact hsf2.next (.inl (by omega)), E, hB4, hB11, hB37, ha29, rfl⟩ (by omega) (.cons rfl (.cons rfl (.cons rfl (.cons rfl (.cons rfl (.cons rfl (.nil)))))))
    refine Sq.nil ?_
    refine Eq.next ?_
    refine Cq.seq ?_
    refine Cq.els rfl ?_
    refine Cq.exit ?_
    refine Eq.past ?_
    refine Eq.past ?_
    refine Eq.hit ?_
    refine Eq.next ?_
    refine Cq.seq ?_
    refine Cq.region ?_
    refine Sq.loadAgg agg26 .plain rfl rfl hB37 rfl ?_
    refine Sq.storeAgg agg26 .plain rfl rfl (one_cons rfl (one_cons (Rows.one (OwnRows.rows hn28)) (one_cons (Row.one (Own.row ha29)) one_nil))) hB11 rfl rfl (fun w58 g59 hB60 => ?_)
    have hs61 := World.grownBy.size g59
    replace E := E.grown g59 (fun k hk => by injection hk with hk; subst hk; omega)
    replace ha29 := ha29.stored g59 hB11 (by decide)
    replace hn28 := hn28.stored g59 hB11 (by decide) (by decide)
    replace hB11 := hB60
    refine Sq.assign .plain rfl rfl ?_
    refine Sq.nil ?_
    refine Eq.next ?_
    refine Cq.ret ?_
    refine Eq.retCell2 rfl rfl agg26 hB11 rfl rfl ?_
    have e := hsf.done (by omega)
    rw [e] at hn28
    exact ⟨⟨_, by rw [hv], by rw [if_pos hv]; exact ⟨_, _, rfl, OwnRows.now (OwnRows.mono hn28 (by omega)), Own.mono ha29 (by omega)⟩⟩, E⟩
  refine Sq.notF .plain rfl rfl ?_
  refine Sq.nil ?_
  refine Eq.next ?_
  refine Cq.thn rfl ?_
  refine Cq.seq ?_
  refine Cq.region ?_
  refine Sq.build st26 rfl rfl .plain rfl rfl one_nil rfl ?_
  refine Sq.storeAgg agg26 .plain rfl rfl (one_cons rfl (one_cons rfl (one_cons rfl one_nil))) hB11 rfl rfl (fun w62 g63 hB64 => ?_)
  have hs65 := World.grownBy.size g63
  replace E := E.grown g63 (fun k hk => by injection hk with hk; subst hk; omega)
  replace hB11 := hB64
  refine Sq.assign .plain rfl rfl ?_
  refine Sq.nil ?_
  refine Eq.next ?_
  refine Cq.ret ?_
  refine Eq.pastRet ?_
  refine Eq.retCell2 rfl rfl agg26 hB11 rfl rfl ?_
  exact ⟨⟨_, by rw [hv], by rw [if_neg (by simp [hv])]; exact ⟨_, _, rfl, OwnRows.nil _ _ _ _ _, Own.nil _ _ _⟩⟩, E⟩
theorem safety_c_T (w0 : World) (a : A) (nx ac : Value) (hnx : Rows w0 55 3 nx a.next) (hac : Bools w0 4 ac a.acc) (hC : (validA a) = true) : Ret Try.prog 19 #[Value.agg #[Value.int .i64 a.al, nx, ac]] w0 (fun v w => (∃ u, v = .tuple #[u, .bool true] ∧ OwnA w w0.heap.size u (safe a)) ∧ Ext w0 w) :=
  (safety_c w0 a nx ac hnx hac).mono fun v w h => by rw [hC, if_pos rfl] at h; exact h
set_option maxRecDepth 100000 in
theorem sSafety_c (w0 : World) (a : A) (nx ac : Value) (hnx : Rows w0 55 3 nx a.next) (hac : Bools w0 4 ac a.acc) : Ret Try.prog 66 #[Value.agg #[Value.int .i64 a.al, nx, ac]] w0 (fun v w => (∃ u, v = .tuple #[u, .bool (validA a)] ∧ OwnA w w0.heap.size u (if validA a then safe a else zeroA)) ∧ Ext w0 w) := by
  have E := Ext.refl w0
  refine Ret.of (args := [Value.agg #[Value.int .i64 a.al, nx, ac]]) Try.func66 rfl rfl rfl ?_
  rintro _ rfl
  show Cq _ _ _ _ [(0, Value.agg #[Value.int .i64 a.al, nx, ac])] _
  refine Cq.seq ?_
  refine Cq.region ?_
  refine Sq.box .plain rfl rfl (fun b1 w2 e3 hB4 hlo5 => ?_)
  have hd6 := Nat.le_trans (Below.size E) hlo5
  have hs7 := Below.size e3
  replace E := E.trans e3
  refine Sq.alloc zero26 .plain rfl (fun b8 w9 e10 hB11 hlo12 => ?_)
  have hd13 := Nat.le_trans (Below.size E) hlo12
  have hd14 := Nat.lt_of_lt_of_le hB4.lt hlo12
  have hs15 := Below.size e10
  replace E := E.trans e10
  replace hB4 := hB4.ext e10
  refine Sq.assign .plain rfl rfl ?_
  refine Sq.nil ?_
  refine Eq.next ?_
  refine Cq.seq ?_
  refine Cq.seq ?_
  refine Cq.region ?_
  refine Sq.loadAgg agg26 .plain rfl rfl hB4 rfl ?_
  have hd19 := hB4.lt
  have hd20 := hB11.lt
  refine Sq.call fn53 .plain rfl rfl (sValid_c _ a _ _ (hnx.ext E) (hac.ext E)) ?_
  rintro _ w17 ⟨rfl, e18⟩
  have hs21 := Below.size E
  have hs22 := Below.size e18
  replace E := E.trans e18
  replace hB4 := hB4.ext e18
  replace hB11 := hB11.ext e18
  refine Sq.partB (fun hv => ?_) (fun hv => ?_)
  · refine Sq.notT .plain rfl rfl ?_
    refine Sq.nil ?_
    refine Eq.next ?_
    refine Cq.els rfl ?_
    refine Cq.skip ?_
    refine Eq.next ?_
    refine Cq.seq ?_
    refine Cq.region ?_
    refine Sq.loadAgg agg26 .plain rfl rfl hB4 rfl ?_
    have hd30 := hB4.lt
    have hd31 := hB11.lt
    refine Sq.call fn75 .plain rfl rfl (l3Copy_c _ a _ _ (hnx.ext E) (hac.ext E) (fit_of_valid hv)) ?_
    rintro _ w24 ⟨⟨nx26, ac27, rfl, hn28, ha29⟩, e25⟩
    have hs32 := Below.size E
    have hs33 := Below.size e25
    replace E := E.trans e25
    replace hB4 := hB4.ext e25
    replace hB11 := hB11.ext e25
    refine Sq.alloc zero26 .plain rfl (fun b34 w35 e36 hB37 hlo38 => ?_)
    have hd39 := Nat.le_trans (Below.size E) hlo38
    have hd40 := Nat.lt_of_lt_of_le hB4.lt hlo38
    have hd41 := Nat.lt_of_lt_of_le hB11.lt hlo38
    have hs42 := Below.size e36
    replace E := E.trans e36
    replace hB4 := hB4.ext e36
    replace hB11 := hB11.ext e36
    replace hn28 := hn28.ext e36
    replace ha29 := ha29.ext e36
    refine Sq.storeAgg agg26 .plain rfl rfl (one_cons rfl (one_cons (Rows.one (OwnRows.rows hn28)) (one_cons (Row.one (Own.row ha29)) one_nil))) hB37 rfl rfl (fun w43 g44 hB45 => ?_)
    have hs46 := World.grownBy.size g44
    replace E := E.grown g44 (fun k hk => by injection hk with hk; subst hk; omega)
    replace hB4 := hB4.grown g44 (by intro h; injection h with h; omega)
    replace hB11 := hB11.grown g44 (by intro h; injection h with h; omega)
    replace hn28 := hn28.stored g44 hB37 (by decide) (by decide)
    replace ha29 := ha29.stored g44 hB37 (by decide)
    replace hB37 := hB45
    refine Sq.nil ?_
    refine Eq.next ?_
    refine Cq.seq ?_
    refine Cq.seq ?_
    refine Cq.region ?_
    refine Sq.assign .plain rfl rfl ?_
    refine Sq.nil ?_
    refine Eq.next ?_
    refine Cq.block ?_
    have hvs := validA_spec.1 hv
    have hv1 := hvs.2.1
    have hv2 := hvs.2.2.1
    refine Cq.loop (fun nn w ls => ∃ (i : Int), ∃ (xss : List (List Int)), ls = [(1, Value.pointer (some ⟨b1, 0, none⟩)), (2, Value.pointer (some ⟨b8, 0, none⟩)), (4, Value.pointer (some ⟨b34, 0, none⟩)), (5, Value.int .i64 i)] ∧ (0 ≤ i ∧ i ≤ a.next.length) ∧ OwnRows w w0.heap.size w.heap.size 55 3 nx26 xss ∧ SafeAt a i.toNat 0 xss ∧ Ext w0 w ∧ Blk w b1 26 [Value.int .i64 a.al, nx, ac] ∧ Blk w b8 26 [Value.int .i64 0, Value.slice none 0 0, Value.slice none 0 0] ∧ Blk w b34 26 [Value.int .i64 a.al, nx26, ac27] ∧ Own w w17.heap.size 4 ac27 (a.acc.map Value.bool) ∧ nn = ((a.next.length : Int) - i).toNat) _ _ ⟨0, _, rfl, by omega, OwnRows.mono (OwnRows.now hn28) (by omega), SafeAt.zero a, E, hB4, hB11, hB37, ha29, rfl⟩ (.cons rfl (.cons rfl (.cons rfl (.cons rfl (.nil))))) ?_
    rintro nn wl1 ls ⟨i, xss, rfl, hi, hn28, hsf, E, hB4, hB11, hB37, ha29, rfl⟩
    have hs47 := Below.size E
    have hxl := hsf.1
    have hr6 := valid_row6 hv (k := i.toNat)
    refine Cq.seq ?_
    refine Cq.seq ?_
    refine Cq.region ?_
    refine Sq.move .plain rfl rfl ?_
    refine Sq.fieldAddr fld26_1 .plain rfl rfl ?_
    refine Sq.loadB one23 .plain rfl rfl hB37 rfl ?_
    refine Sq.lenRows (OwnRows.rows hn28) .plain rfl und23 rfl ?_
    refine Sq.lss .plain rfl rfl rfl ?_
    refine Sq.part (fun c48 => ?_) (fun c48 => ?_)
    · refine Sq.nil ?_
      refine Eq.next ?_
      refine Cq.thn rfl ?_
      refine Cq.skip ?_
      refine Eq.next ?_
      refine Cq.seq ?_
      refine Cq.block ?_
      refine Cq.seq ?_
      refine Cq.region ?_
      refine Sq.assign .plain rfl rfl ?_
      refine Sq.nil ?_
      refine Eq.next ?_
      refine Cq.block ?_
      refine Cq.loop (fun nn w ls => ∃ (j : Int), ∃ (yss : List (List Int)), ls = [(1, Value.pointer (some ⟨b1, 0, none⟩)), (2, Value.pointer (some ⟨b8, 0, none⟩)), (4, Value.pointer (some ⟨b34, 0, none⟩)), (5, Value.int .i64 i), (6, Value.int .i64 j)] ∧ (0 ≤ j ∧ j ≤ (a.next.getD i.toNat []).length) ∧ wl1.heap.size ≤ w.heap.size ∧ OwnRows w w0.heap.size w.heap.size 55 3 nx26 yss ∧ SafeAt a i.toNat j.toNat yss ∧ Ext w0 w ∧ Blk w b1 26 [Value.int .i64 a.al, nx, ac] ∧ Blk w b8 26 [Value.int .i64 0, Value.slice none 0 0, Value.slice none 0 0] ∧ Blk w b34 26 [Value.int .i64 a.al, nx26, ac27] ∧ Own w w17.heap.size 4 ac27 (a.acc.map Value.bool) ∧ nn = (((a.next.getD i.toNat []).length : Int) - j).toNat) _ _ ⟨0, _, rfl, by omega, by omega, OwnRows.now hn28, hsf, E, hB4, hB11, hB37, ha29, rfl⟩ (.cons rfl (.cons rfl (.cons rfl (.cons rfl (.cons rfl (.nil)))))) ?_
      rintro nn wl2 ls ⟨j, yss, rfl, hj, hsz, hn28, hsf2, E, hB4, hB11, hB37, ha29, rfl⟩
      have hs49 := Below.size E
      have hyl := hsf2.1
      have hly := (hsf2.2 i.toNat (by omega)).1
      refine Cq.seq ?_
      refine Cq.seq ?_
      refine Cq.region ?_
      refine Sq.move .plain rfl rfl ?_
      refine Sq.fieldAddr fld26_1 .plain rfl rfl ?_
      refine Sq.loadB one23 .plain rfl rfl hB37 rfl ?_
      refine Sq.move .plain rfl rfl ?_
      refine Sq.idxRows sl23 one55 (OwnRows.rows hn28) .plain rfl rfl rfl .plain rfl rfl (by omega) (by omega) (fun r50 hr51 => ?_)
      refine Sq.lenInts hr51 .plain rfl und55 rfl ?_
      refine Sq.lss .plain rfl rfl rfl ?_
      refine Sq.part (fun hlt => ?_) (fun hlt => ?_)
      · refine Sq.move .plain rfl rfl ?_
        refine Sq.fieldAddr fld26_2 (.met rfl rfl rfl) rfl rfl ?_
        refine Sq.loadB one24 (.met rfl rfl rfl) rfl rfl hB4 rfl ?_
        refine Sq.move (.met rfl rfl rfl) rfl rfl ?_
        refine Sq.idxBools sl24 one4 (hac.ext E) (.met rfl rfl rfl) rfl rfl rfl (.met rfl rfl rfl) rfl rfl (by omega) (by omega) ?_
        refine Sq.partB (fun hac => ?_) (fun hac => ?_)
        · refine Sq.notT (.met rfl rfl rfl) rfl rfl ?_
          refine Sq.pickT .plain rfl rfl rfl ?_
          refine Sq.nil ?_
          refine Eq.next ?_
          refine Cq.els rfl ?_
          refine Cq.exit ?_
          refine Eq.past ?_
          refine Eq.past ?_
          refine Eq.hit ?_
          refine Eq.end ?_
          refine Eq.next ?_
          refine Cq.region ?_
          refine Sq.move .plain rfl rfl ?_
          refine Sq.add .plain rfl rfl rfl (by omega) ?_
          refine Sq.assign .plain rfl rfl ?_
          refine Sq.nil ?_
          have e1 := toNat_succ hi.1
          refine Eq.round _ _ ⟨i + 1, _, rfl, by omega, OwnRows.now hn28, by rw [e1]; exact hsf2.next (.inr hac), E, hB4, hB11, hB37, ha29, rfl⟩ (by omega) (.cons rfl (.cons rfl (.cons rfl (.cons rfl (.nil)))))
        refine Sq.notF (.met rfl rfl rfl) rfl rfl ?_
        refine Sq.pickT .plain rfl rfl rfl ?_
        refine Sq.nil ?_
        refine Eq.next ?_
        refine Cq.thn rfl ?_
        refine Cq.skip ?_
        refine Eq.next ?_
        refine Cq.seq ?_
        refine Cq.block ?_
        refine Cq.region ?_
        refine Sq.fieldAddr fld26_1 .plain rfl rfl ?_
        refine Sq.loadB one23 .plain rfl rfl hB37 rfl ?_
        refine Sq.move .plain rfl rfl ?_
        obtain ⟨p52, r54, hp53, _⟩ := Rows.at (OwnRows.rows hn28) (i := i) (by omega) (by omega)
        have hr55 := (OwnRows.rowAt hn28 hp53).1
        refine Sq.val .plain rfl rfl (Still.at' sl23 hp53 rfl rfl) ?_
        refine Sq.val .plain rfl rfl (Still.loadA one55 rfl hp53.1) ?_
        refine Sq.move .plain rfl rfl ?_
        refine Sq.move .plain rfl rfl ?_
        obtain ⟨p56, hp57o⟩ := Own.at hr55 (i := j) (by omega) (by first | (simp only [List.length_map]; omega) | (simp; omega))
        refine Sq.atO sl55 hp57o .plain rfl rfl rfl ?_
        refine Sq.storeO one3 hr55 hp57o .plain rfl rfl rfl (fun w58 g59 ho60 => ?_)
        have hs61 := World.grownBy.size g59
        rw [← List.map_set] at ho60
        replace hn28 := (OwnRows.set hn28 (by decide) hp53 ho60 g59).1
        replace E := E.owned hr55 g59 (by omega)
        replace hB4 := hB4.owned hr55 g59 (by decide)
        replace hB11 := hB11.owned hr55 g59 (by decide)
        replace hB37 := hB37.owned hr55 g59 (by decide)
        replace ha29 := ha29.owned hr55 g59 (by decide)
        refine Sq.nil ?_
        refine Eq.end ?_
        refine Eq.next ?_
        refine Cq.region ?_
        refine Sq.move .plain rfl rfl ?_
        refine Sq.add .plain rfl rfl rfl (by omega) ?_
        refine Sq.assign .plain rfl rfl ?_
        refine Sq.nil ?_
        have e1 := toNat_succ hj.1
        have e2 := hsf2.step (by omega) (by omega) hac
        rw [Int.toNat_of_nonneg hi.1] at e2
        refine Eq.round _ _ ⟨j + 1, _, rfl, by omega, by omega, OwnRows.now hn28, by rw [e1]; exact e2, E, hB4, hB11, hB37, ha29, rfl⟩ (by omega) (.cons rfl (.cons rfl (.cons rfl (.cons rfl (.cons rfl (.nil))))))
      refine Sq.move .plain rfl rfl ?_
      refine Sq.off rfl rfl rfl rfl rfl rfl ?_
      refine Sq.off rfl rfl rfl rfl rfl rfl ?_
      refine Sq.off rfl rfl rfl rfl rfl rfl ?_
      refine Sq.off rfl rfl rfl rfl rfl rfl ?_
      refine Sq.off rfl rfl rfl rfl rfl rfl ?_
      refine Sq.off rfl rfl rfl rfl rfl rfl ?_
      refine Sq.pickF .plain rfl rfl rfl ?_
      refine Sq.nil ?_
      refine Eq.next ?_
      refine Cq.els rfl ?_
      refine Cq.exit ?_
      refine Eq.past ?_
      refine Eq.past ?_
      refine Eq.hit ?_
      refine Eq.end ?_
      refine Eq.next ?_
      refine Cq.region ?_
      refine Sq.move .plain rfl rfl ?_
      refine Sq.add .plain rfl rfl rfl (by omega) ?_
      refine Sq.assign .plain rfl rfl ?_
      refine Sq.nil ?_
      have e1 := toNat_succ hi.1
      refine Eq.round _ _ ⟨i + 1, _, rfl, by omega, OwnRows.now hn28, by rw [e1]; exact hsf2.next (.inl (by omega)), E, hB4, hB11, hB37, ha29, rfl⟩ (by omega) (.cons rfl (.cons rfl (.cons rfl (.cons rfl (.nil)))))
    refine Sq.nil ?_
    refine Eq.next ?_
    refine Cq.els rfl ?_
    refine Cq.exit ?_
    refine Eq.past ?_
    refine Eq.past ?_
    refine Eq.hit ?_
    refine Eq.next ?_
    refine Cq.seq ?_
    refine Cq.region ?_
    refine Sq.loadAgg agg26 .plain rfl rfl hB37 rfl ?_
    refine Sq.storeAgg agg26 .plain rfl rfl (one_cons rfl (one_cons (Rows.one (OwnRows.rows hn28)) (one_cons (Row.one (Own.row ha29)) one_nil))) hB11 rfl rfl (fun w62 g63 hB64 => ?_)
    have hs65 := World.grownBy.size g63
    replace E := E.grown g63 (fun k hk => by injection hk with hk; subst hk; omega)
    replace ha29 := ha29.stored g63 hB11 (by decide)
    replace hn28 := hn28.stored g63 hB11 (by decide) (by decide)
    replace hB11 := hB64
    refine Sq.assign .plain rfl rfl ?_
    refine Sq.nil ?_
    refine Eq.next ?_
    refine Cq.ret ?_
    refine Eq.retCell2 rfl rfl agg26 hB11 rfl rfl ?_
    have e := hsf.done (by omega)
    rw [e] at hn28
    exact ⟨⟨_, by rw [hv], by rw [if_pos hv]; exact ⟨_, _, rfl, OwnRows.now (OwnRows.mono hn28 (by omega)), Own.mono ha29 (by omega)⟩⟩, E⟩
  refine Sq.notF .plain rfl rfl ?_
  refine Sq.nil ?_
  refine Eq.next ?_
  refine Cq.thn rfl ?_
  refine Cq.seq ?_
  refine Cq.region ?_
  refine Sq.build st26 rfl rfl .plain rfl rfl one_nil rfl ?_
  refine Sq.storeAgg agg26 .plain rfl rfl (one_cons rfl (one_cons rfl (one_cons rfl one_nil))) hB11 rfl rfl (fun w66 g67 hB68 => ?_)
  have hs69 := World.grownBy.size g67
  replace E := E.grown g67 (fun k hk => by injection hk with hk; subst hk; omega)
  replace hB11 := hB68
  refine Sq.assign .plain rfl rfl ?_
  refine Sq.nil ?_
  refine Eq.next ?_
  refine Cq.ret ?_
  refine Eq.pastRet ?_
  refine Eq.retCell2 rfl rfl agg26 hB11 rfl rfl ?_
  exact ⟨⟨_, by rw [hv], by rw [if_neg (by simp [hv])]; exact ⟨_, _, rfl, OwnRows.nil _ _ _ _ _, Own.nil _ _ _⟩⟩, E⟩
theorem sSafety_c_T (w0 : World) (a : A) (nx ac : Value) (hnx : Rows w0 55 3 nx a.next) (hac : Bools w0 4 ac a.acc) (hC : (validA a) = true) : Ret Try.prog 66 #[Value.agg #[Value.int .i64 a.al, nx, ac]] w0 (fun v w => (∃ u, v = .tuple #[u, .bool true] ∧ OwnA w w0.heap.size u (safe a)) ∧ Ext w0 w) :=
  (sSafety_c w0 a nx ac hnx hac).mono fun v w h => by rw [hC, if_pos rfl] at h; exact h
theorem sSafety_c_F (w0 : World) (a : A) (nx ac : Value) (hnx : Rows w0 55 3 nx a.next) (hac : Bools w0 4 ac a.acc) (hC : (validA a) = false) : Ret Try.prog 66 #[Value.agg #[Value.int .i64 a.al, nx, ac]] w0 (fun v w => (∃ u, v = .tuple #[u, .bool false] ∧ OwnA w w0.heap.size u (zeroA)) ∧ Ext w0 w) :=
  (sSafety_c w0 a nx ac hnx hac).mono fun v w h => by rw [hC, if_neg (by decide)] at h; exact h
end Go.Proofs.Ytoboklelbbgcnaa
set_option linter.unusedSimpArgs false
set_option linter.unusedVariables false
namespace Go.Proofs.Ytoboklelbbgcnaa
open Go.RowKit
set_option maxRecDepth 100000 in
theorem drawPC_c (w0 : World) (e : TypeId) (a0 : Option Addr) (c0 : Nat) (cs : List UInt8) (hc : Bytes w0 e (.slice a0 cs.length c0) cs) (hcap : cs.length ≤ c0) : Ret Try.prog 33 #[Value.slice a0 cs.length c0] w0 (fun v w => (∃ a, RowsA w v a ∧ Small 400 a) ∧ Ext w0 w) := by
  have E := Ext.refl w0
  refine Ret.of (args := [Value.slice a0 cs.length c0]) Try.func33 rfl rfl rfl ?_
  rintro _ rfl
  show Cq _ _ _ _ [(0, Value.slice a0 cs.length c0)] _
  refine Cq.seq ?_
  refine Cq.region ?_
  refine Sq.alloc zero26 .plain rfl (fun b1 w2 e3 hB4 hlo5 => ?_)
  have hd6 := Nat.le_trans (Below.size E) hlo5
  have hs7 := Below.size e3
  replace E := E.trans e3
  refine Sq.nil ?_
  refine Eq.next ?_
  refine Cq.seq ?_
  refine Cq.region ?_
  refine Sq.move .plain rfl rfl ?_
  refine Sq.call fn39 .plain rfl rfl (open_c _ _ _ _ _ (hc.ext E) hcap) ?_
  rintro _ w8 ⟨⟨rb, bv, bs, rfl, hrb, hR, hb, hbl⟩, e9⟩
  have hrlt := hR.lt
  have hd10 := Nat.le_trans (Below.size E) hrb
  have hd11 := Nat.lt_of_lt_of_le hB4.lt hrb
  have hs12 := Below.size e9
  replace E := E.trans e9
  replace hB4 := hB4.ext e9
  have G := World.grownBy.refl w8 (some rb)
  refine Sq.assign .plain rfl rfl ?_
  refine Sq.nil ?_
  refine Eq.next ?_
  refine Cq.seq ?_
  refine Cq.region ?_
  refine Sq.move .plain rfl rfl ?_
  refine Sq.call fn65 .plain rfl rfl (l5Any_c _ _ _ _ _ _ hR (hb.go G) hbl (by omega) ) ?_
  rintro _ w14 ⟨⟨p15, hp18, hB17, g16⟩, ⟨a19, ⟨nx20, ac21, rfl, hn22, ha23⟩, hv24⟩⟩
  have hs25 := World.grownBy.size g16
  have hs26 := Below.size E
  have hs27 := World.grownBy.size G
  have hs28 := World.grownBy.size g16
  replace E := E.grown g16 (fun k hk => by injection hk with hk; subst hk; omega)
  replace hB4 := hB4.grown g16 (by intro h; injection h with h; omega)
  replace G := grown_trans G g16
  replace hR := hB17
  refine Sq.alloc zero26 .plain rfl (fun b29 w30 e31 hB32 hlo33 => ?_)
  have hd34 := Nat.le_trans (Below.size E) hlo33
  have hd35 := Nat.lt_of_lt_of_le hB4.lt hlo33
  have hd36 := Nat.lt_of_lt_of_le hR.lt hlo33
  have hd37 := Nat.le_trans (World.grownBy.size G) hlo33
  have hs38 := Below.size e31
  replace E := E.trans e31
  replace hB4 := hB4.ext e31
  replace hR := hR.ext e31
  replace G := grown_trans G (Ext.to_grown e31 _)
  replace hn22 := hn22.ext e31
  replace ha23 := ha23.ext e31
  refine Sq.storeAgg agg26 .plain rfl rfl (one_cons rfl (one_cons (Rows.one hn22) (one_cons (Row.one ha23) one_nil))) hB32 rfl rfl (fun w39 g40 hB41 => ?_)
  have hs42 := World.grownBy.size g40
  replace E := E.grown g40 (fun k hk => by injection hk with hk; subst hk; omega)
  replace hB4 := hB4.grown g40 (by intro h; injection h with h; omega)
  replace hR := hR.grown g40 (by intro h; injection h with h; omega)
  replace G := grown_far G g40 (fun k hk => by injection hk with hk; subst hk; omega)
  replace hn22 := hn22.stored g40 hB32 (by decide) (by decide)
  replace ha23 := ha23.stored g40 hB32 (by decide)
  replace hB32 := hB41
  refine Sq.nil ?_
  refine Eq.next ?_
  refine Cq.seq ?_
  refine Cq.region ?_
  refine Sq.loadAgg agg26 .plain rfl rfl hB32 rfl ?_
  rcases Bool.eq_false_or_eq_true (validA a19) with hC | hC
  · have hv := hC
    refine Sq.call fn66 .plain rfl rfl (sSafety_c_T _ a19 _ _ hn22 ha23 hC) ?_
    rintro _ w44 ⟨⟨_, rfl, nx46, ac47, rfl, hn48, ha49⟩, e45⟩
    have hs50 := Below.size E
    have hs51 := World.grownBy.size G
    have hs52 := Below.size e45
    replace E := E.trans e45
    replace hB4 := hB4.ext e45
    replace hR := hR.ext e45
    replace G := grown_trans G (Ext.to_grown e45 _)
    replace hn22 := hn22.ext e45
    replace ha23 := ha23.ext e45
    replace hB32 := hB32.ext e45
    refine Sq.move .plain rfl rfl ?_
    refine Sq.extract .plain rfl rfl rfl ?_
    refine Sq.extract .plain rfl rfl rfl ?_
    refine Sq.alloc zero26 .plain rfl (fun b53 w54 e55 hB56 hlo57 => ?_)
    have hd58 := Nat.le_trans (Below.size E) hlo57
    have hd59 := Nat.lt_of_lt_of_le hB4.lt hlo57
    have hd60 := Nat.lt_of_lt_of_le hR.lt hlo57
    have hd61 := Nat.le_trans (World.grownBy.size G) hlo57
    have hd62 := Nat.lt_of_lt_of_le hB32.lt hlo57
    have hs63 := Below.size e55
    replace E := E.trans e55
    replace hB4 := hB4.ext e55
    replace hR := hR.ext e55
    replace G := grown_trans G (Ext.to_grown e55 _)
    replace hn22 := hn22.ext e55
    replace ha23 := ha23.ext e55
    replace hB32 := hB32.ext e55
    replace hn48 := hn48.ext e55
    replace ha49 := ha49.ext e55
    refine Sq.storeAgg agg26 .plain rfl rfl (one_cons rfl (one_cons (Rows.one (OwnRows.rows hn48)) (one_cons (Row.one (Own.row ha49)) one_nil))) hB56 rfl rfl (fun w64 g65 hB66 => ?_)
    have hs67 := World.grownBy.size g65
    replace E := E.grown g65 (fun k hk => by injection hk with hk; subst hk; omega)
    replace hB4 := hB4.grown g65 (by intro h; injection h with h; omega)
    replace hR := hR.grown g65 (by intro h; injection h with h; omega)
    replace G := grown_far G g65 (fun k hk => by injection hk with hk; subst hk; omega)
    replace hn22 := hn22.stored g65 hB56 (by decide) (by decide)
    replace ha23 := ha23.stored g65 hB56 (by decide)
    replace hB32 := hB32.grown g65 (by intro h; injection h with h; omega)
    replace hn48 := hn48.stored g65 hB56 (by decide) (by decide)
    replace ha49 := ha49.stored g65 hB56 (by decide)
    replace hB56 := hB66
    refine Sq.assign .plain rfl rfl ?_
    refine Sq.nil ?_
    refine Eq.next ?_
    refine Cq.seq ?_
    refine Cq.seq ?_
    refine Cq.region ?_
    refine Sq.move .plain rfl rfl ?_
    refine Sq.move .plain rfl rfl ?_
    refine Sq.move (.met rfl rfl rfl) rfl rfl ?_
    refine Sq.call fn48 (.met rfl rfl rfl) rfl rfl (pick_c _ _ _ _ _ _ hR (hb.go G) hbl (by omega) 2 (by omega)) ?_
    rintro _ w69 ⟨⟨p70, hp73, hB72, g71⟩, ⟨k74, rfl, hk75⟩⟩
    have hs76 := World.grownBy.size g71
    have hs77 := Below.size E
    have hs78 := World.grownBy.size G
    have hs79 := World.grownBy.size g71
    replace E := E.grown g71 (fun k hk => by injection hk with hk; subst hk; omega)
    replace hB4 := hB4.grown g71 (by intro h; injection h with h; omega)
    replace hn22 := hn22.stored g71 hR (by decide) (by decide)
    replace ha23 := ha23.stored g71 hR (by decide)
    replace hB32 := hB32.grown g71 (by intro h; injection h with h; omega)
    replace hn48 := hn48.stored g71 hR (by decide) (by decide)
    replace ha49 := ha49.stored g71 hR (by decide)
    replace hB56 := hB56.grown g71 (by intro h; injection h with h; omega)
    refine Sq.eql (.met rfl rfl rfl) rfl rfl rfl ?_
    refine Sq.part (fun c80 => ?_) (fun c80 => ?_)
    · refine Sq.pickT .plain rfl rfl rfl ?_
      refine Sq.nil ?_
      refine Eq.next ?_
      refine Cq.thn rfl ?_
      refine Cq.seq ?_
      refine Cq.region ?_
      refine Sq.loadAgg agg26 .plain rfl rfl hB56 rfl ?_
      refine Sq.storeAgg agg26 .plain rfl rfl (one_cons rfl (one_cons (Rows.one (OwnRows.rows hn48)) (one_cons (Row.one (Own.row ha49)) one_nil))) hB4 rfl rfl (fun w81 g82 hB83 => ?_)
      have hs84 := World.grownBy.size g82
      replace E := E.grown g82 (fun k hk => by injection hk with hk; subst hk; omega)
      replace hn48 := hn48.stored g82 hB4 (by decide) (by decide)
      replace ha49 := ha49.stored g82 hB4 (by decide)
      replace hB4 := hB83
      refine Sq.nil ?_
      refine Eq.next ?_
      refine Cq.ret ?_
      refine Eq.pastRet ?_
      refine Eq.retCell rfl rfl agg26 hB4 rfl ?_
      exact ⟨⟨_, ⟨_, _, rfl, (OwnRows.rows hn48), (Own.row ha49)⟩, by first | exact (Small.of (safe_valid hv)).mono (by omega) | exact (Small.of hv24).mono (by omega) | exact Small.mono hv24 (by omega)⟩, E⟩
    refine Sq.pickT .plain rfl rfl rfl ?_
    refine Sq.nil ?_
    refine Eq.next ?_
    refine Cq.els rfl ?_
    refine Cq.skip ?_
    refine Eq.next ?_
    refine Cq.seq ?_
    refine Cq.region ?_
    refine Sq.loadAgg agg26 .plain rfl rfl hB32 rfl ?_
    refine Sq.storeAgg agg26 .plain rfl rfl (one_cons rfl (one_cons (Rows.one hn22) (one_cons (Row.one ha23) one_nil))) hB4 rfl rfl (fun w85 g86 hB87 => ?_)
    have hs88 := World.grownBy.size g86
    replace E := E.grown g86 (fun k hk => by injection hk with hk; subst hk; omega)
    replace hn22 := hn22.stored g86 hB4 (by decide) (by decide)
    replace ha23 := ha23.stored g86 hB4 (by decide)
    replace hB4 := hB87
    refine Sq.nil ?_
    refine Eq.next ?_
    refine Cq.ret ?_
    refine Eq.retCell rfl rfl agg26 hB4 rfl ?_
    exact ⟨⟨_, ⟨_, _, rfl, hn22, ha23⟩, by first | exact (Small.of (safe_valid hv)).mono (by omega) | exact (Small.of hv24).mono (by omega) | exact Small.mono hv24 (by omega)⟩, E⟩
  refine Sq.call fn66 .plain rfl rfl (sSafety_c_F _ a19 _ _ hn22 ha23 hC) ?_
  rintro _ w90 ⟨⟨_, rfl, nx92, ac93, rfl, hn94, ha95⟩, e91⟩
  have hs96 := Below.size E
  have hs97 := World.grownBy.size G
  have hs98 := Below.size e91
  replace E := E.trans e91
  replace hB4 := hB4.ext e91
  replace hR := hR.ext e91
  replace G := grown_trans G (Ext.to_grown e91 _)
  replace hn22 := hn22.ext e91
  replace ha23 := ha23.ext e91
  replace hB32 := hB32.ext e91
  refine Sq.move .plain rfl rfl ?_
  refine Sq.extract .plain rfl rfl rfl ?_
  refine Sq.extract .plain rfl rfl rfl ?_
  refine Sq.alloc zero26 .plain rfl (fun b99 w100 e101 hB102 hlo103 => ?_)
  have hd104 := Nat.le_trans (Below.size E) hlo103
  have hd105 := Nat.lt_of_lt_of_le hB4.lt hlo103
  have hd106 := Nat.lt_of_lt_of_le hR.lt hlo103
  have hd107 := Nat.le_trans (World.grownBy.size G) hlo103
  have hd108 := Nat.lt_of_lt_of_le hB32.lt hlo103
  have hs109 := Below.size e101
  replace E := E.trans e101
  replace hB4 := hB4.ext e101
  replace hn22 := hn22.ext e101
  replace ha23 := ha23.ext e101
  replace hB32 := hB32.ext e101
  replace hn94 := hn94.ext e101
  replace ha95 := ha95.ext e101
  refine Sq.storeAgg agg26 .plain rfl rfl (one_cons rfl (one_cons (Rows.one (OwnRows.rows hn94)) (one_cons (Row.one (Own.row ha95)) one_nil))) hB102 rfl rfl (fun w110 g111 hB112 => ?_)
  have hs113 := World.grownBy.size g111
  replace E := E.grown g111 (fun k hk => by injection hk with hk; subst hk; omega)
  replace hB4 := hB4.grown g111 (by intro h; injection h with h; omega)
  replace hn22 := hn22.stored g111 hB102 (by decide) (by decide)
  replace ha23 := ha23.stored g111 hB102 (by decide)
  replace hB32 := hB32.grown g111 (by intro h; injection h with h; omega)
  refine Sq.assign .plain rfl rfl ?_
  refine Sq.nil ?_
  refine Eq.next ?_
  refine Cq.seq ?_
  refine Cq.seq ?_
  refine Cq.region ?_
  refine Sq.move .plain rfl rfl ?_
  refine Sq.move .plain rfl rfl ?_
  refine Sq.off rfl rfl rfl rfl rfl rfl ?_
  refine Sq.off rfl rfl rfl rfl rfl rfl ?_
  refine Sq.off rfl rfl rfl rfl rfl rfl ?_
  refine Sq.pickF .plain rfl rfl rfl ?_
  refine Sq.nil ?_
  refine Eq.next ?_
  refine Cq.els rfl ?_
  refine Cq.skip ?_
  refine Eq.next ?_
  refine Cq.seq ?_
  refine Cq.region ?_
  refine Sq.loadAgg agg26 .plain rfl rfl hB32 rfl ?_
  refine Sq.storeAgg agg26 .plain rfl rfl (one_cons rfl (one_cons (Rows.one hn22) (one_cons (Row.one ha23) one_nil))) hB4 rfl rfl (fun w114 g115 hB116 => ?_)
  have hs117 := World.grownBy.size g115
  replace E := E.grown g115 (fun k hk => by injection hk with hk; subst hk; omega)
  replace hn22 := hn22.stored g115 hB4 (by decide) (by decide)
  replace ha23 := ha23.stored g115 hB4 (by decide)
  replace hB4 := hB116
  refine Sq.nil ?_
  refine Eq.next ?_
  refine Cq.ret ?_
  refine Eq.retCell rfl rfl agg26 hB4 rfl ?_
  exact ⟨⟨_, ⟨_, _, rfl, hn22, ha23⟩, by first | exact (Small.of (safe_valid hv)).mono (by omega) | exact (Small.of hv24).mono (by omega) | exact Small.mono hv24 (by omega)⟩, E⟩
end Go.Proofs.Ytoboklelbbgcnaa
set_option linter.unusedSimpArgs false
set_option linter.unusedVariables false
namespace Go.Proofs.Ytoboklelbbgcnaa
def lexLt : List Int → List Int → Prop
  | [], [] => False
  | [], _ :: _ => True
  | _ :: _, [] => False
  | x :: v, y :: w => x < y ∨ (x = y ∧ lexLt v w)
def sl (v w : List Int) : Prop := v.length < w.length ∨ (v.length = w.length ∧ lexLt v w)
def sle (v w : List Int) : Prop := v = w ∨ sl v w
theorem lexLt_irrefl : ∀ v, ¬ lexLt v v
  | [] => id
  | x :: v => fun h => by
    rcases h with h | ⟨_, h⟩
    · omega
    · exact lexLt_irrefl v h
theorem lexLt_trans : ∀ {u v w : List Int}, lexLt u v → lexLt v w → lexLt u w
  | [], [], _, h, _ => h.elim
  | [], _ :: _, [], _, h => h.elim
  | [], _ :: _, _ :: _, _, _ => trivial
  | _ :: _, [], _, h, _ => h.elim
  | _ :: _, _ :: _, [], _, h => h.elim
  | x :: u, y :: v, z :: w, h, h' => by
    rcases h with h | ⟨rfl, h⟩
    · rcases h' with h' | ⟨rfl, h'⟩
      · exact .inl (by omega)
      · exact .inl h
    · rcases h' with h' | ⟨rfl, h'⟩
      · exact .inl h'
      · exact .inr ⟨rfl, lexLt_trans h h'⟩
theorem lexLt_snoc : ∀ {v w : List Int} (x y : Int), v.length = w.length → lexLt v w → lexLt (v ++ [x]) (w ++ [y])
  | [], [], _, _, _, h => h.elim
  | [], _ :: _, _, _, h, _ => by simp at h
  | _ :: _, [], _, _, h, _ => by simp at h
  | a :: v, b :: w, x, y, h, h' => by
    rcases h' with h' | ⟨rfl, h'⟩
    · exact .inl h'
    · exact .inr ⟨rfl, lexLt_snoc x y (by simpa using h) h'⟩
theorem lexLt_last : ∀ (v : List Int) {x y : Int}, x < y → lexLt (v ++ [x]) (v ++ [y])
  | [], _, _, h => .inl h
  | a :: v, _, _, h => .inr ⟨rfl, lexLt_last v h⟩
theorem sl_irrefl (v : List Int) : ¬ sl v v := fun h => h.elim (by omega) (fun h => lexLt_irrefl v h.2)
theorem sl_trans {u v w : List Int} (h : sl u v) (h' : sl v w) : sl u w := by
  rcases h with h | ⟨h1, h2⟩ <;> rcases h' with h' | ⟨h3, h4⟩
  · exact .inl (by omega)
  · exact .inl (by omega)
  · exact .inl (by omega)
  · exact .inr ⟨by omega, lexLt_trans h2 h4⟩
theorem sl_snoc {v w : List Int} (x y : Int) (h : sl v w) : sl (v ++ [x]) (w ++ [y]) := by
  rcases h with h | ⟨h1, h2⟩
  · exact .inl (by simpa using h)
  · exact .inr ⟨by simpa using h1, lexLt_snoc x y h1 h2⟩
theorem sl_last (v : List Int) {x y : Int} (h : x < y) : sl (v ++ [x]) (v ++ [y]) := .inr ⟨by simp, lexLt_last v h⟩
theorem sl_nil (v : List Int) (x : Int) : sl [] (v ++ [x]) := .inl (by simp)
theorem sle_trans {u v w : List Int} (h : sle u v) (h' : sle v w) : sle u w := by
  rcases h with rfl | h
  · exact h'
  · rcases h' with rfl | h'
    · exact .inr h
    · exact .inr (sl_trans h h')
theorem sle_antisymm {v w : List Int} (h : sle v w) (h' : sle w v) : v = w := by
  rcases h with h | h
  · exact h
  · rcases h' with h' | h'
    · exact h'.symm
    · exact absurd (sl_trans h h') (sl_irrefl v)
theorem sle_snoc {v w : List Int} (x : Int) (h : sle v w) : sle (v ++ [x]) (w ++ [x]) := by
  rcases h with rfl | h
  · exact .inl rfl
  · exact .inr (sl_snoc x x h)
theorem sle_len {v w : List Int} (h : sle v w) : v.length ≤ w.length := by
  rcases h with rfl | h | ⟨h, _⟩ <;> omega
def nodeOf {α : Type} (f : α → Int → α) (s : α) (w : List Int) : α := w.foldl f s
theorem nodeOf_snoc {α : Type} (f : α → Int → α) (s : α) (w : List Int) (x : Int) : nodeOf f s (w ++ [x]) = f (nodeOf f s w) x := by
  unfold nodeOf
  rw [List.foldl_append]
  rfl
section
variable {α : Type} [DecidableEq α]
def wadd (f : α → Int → α) (s : α) (ws : List (List Int)) (v : List Int) : List (List Int) := if nodeOf f s v ∈ ws.map (nodeOf f s) then ws else ws ++ [v]
def wround (f : α → Int → α) (s : α) (w : List Int) (ws : List (List Int)) (Ls : List Int) : List (List Int) := Ls.foldl (fun ws l => wadd f s ws (w ++ [l])) ws
def bfsw (f : α → Int → α) (s : α) (L : List Int) : Nat → List (List Int)
  | 0 => [[]]
  | i + 1 => match (bfsw f s L i)[i]? with
    | some w => wround f s w (bfsw f s L i) L
    | none => bfsw f s L i
variable {f : α → Int → α} {s : α} {L : List Int}
theorem wadd_map (ws : List (List Int)) (v : List Int) : (wadd f s ws v).map (nodeOf f s) = addNode (ws.map (nodeOf f s)) (nodeOf f s v) := by
  unfold wadd addNode
  split
  · rfl
  · rw [List.map_append]; rfl
theorem wround_map (w : List Int) : ∀ (Ls : List Int) (ws : List (List Int)), (wround f s w ws Ls).map (nodeOf f s) = addAll (ws.map (nodeOf f s)) (Ls.map (f (nodeOf f s w)))
  | [], ws => rfl
  | l :: Ls, ws => by
    show (wround f s w (wadd f s ws (w ++ [l])) Ls).map (nodeOf f s) = _
    rw [wround_map w Ls, wadd_map, nodeOf_snoc]
    rfl
theorem bfsw_map (i : Nat) : (bfsw f s L i).map (nodeOf f s) = bfs f s L i := by
  induction i with
  | zero => rfl
  | succ i ih =>
    rw [bfsw, bfs, ← ih, List.getElem?_map]
    cases hq : (bfsw f s L i)[i]? with
    | none => rfl
    | some w => exact wround_map w L _
theorem bfsw_length (i : Nat) : (bfsw f s L i).length = (bfs f s L i).length := by rw [← bfsw_map, List.length_map]
theorem wadd_prefix (ws : List (List Int)) (v : List Int) : ws <+: wadd f s ws v := by
  unfold wadd
  split
  · exact List.prefix_refl _
  · exact List.prefix_append _ _
theorem wadd_mem {ws : List (List Int)} {u v : List Int} (h : v ∈ wadd f s ws u) : v ∈ ws ∨ v = u := by
  unfold wadd at h
  split at h
  · exact .inl h
  · rcases List.mem_append.1 h with h | h
    · exact .inl h
    · exact .inr (List.mem_singleton.1 h)
theorem wadd_self {ws : List (List Int)} {u : List Int} (h : nodeOf f s u ∉ ws.map (nodeOf f s)) : u ∈ wadd f s ws u := by
  unfold wadd
  rw [if_neg h]
  simp
theorem wadd_sorted {ws : List (List Int)} {u : List Int} (h : ws.Pairwise sl) (hb : ∀ v ∈ ws, sl v u) : (wadd f s ws u).Pairwise sl := by
  unfold wadd
  split
  · exact h
  · refine List.pairwise_append.2 ⟨h, by simp, fun v hv u' hu => ?_⟩
    rw [List.mem_singleton.1 hu]
    exact hb v hv
theorem wround_prefix (w : List Int) : ∀ (Ls : List Int) (ws : List (List Int)), ws <+: wround f s w ws Ls
  | [], ws => List.prefix_refl _
  | l :: Ls, ws => (wadd_prefix ws (w ++ [l])).trans (wround_prefix w Ls _)
theorem bfsw_prefix1 (i : Nat) : bfsw f s L i <+: bfsw f s L (i + 1) := by
  rw [bfsw]
  split
  · exact wround_prefix _ _ _
  · exact List.prefix_refl _
theorem wround_mem (w : List Int) : ∀ (Ls : List Int) (ws : List (List Int)) {v : List Int}, v ∈ wround f s w ws Ls → v ∈ ws ∨ ∃ l ∈ Ls, v = w ++ [l]
  | [], ws, v, h => .inl h
  | l :: Ls, ws, v, h => by
    rcases wround_mem w Ls (wadd f s ws (w ++ [l])) h with h1 | ⟨l', h1, h2⟩
    · rcases wadd_mem h1 with h1 | h1
      · exact .inl h1
      · exact .inr ⟨l, by simp, h1⟩
    · exact .inr ⟨l', by simp [h1], h2⟩
theorem wround_sorted (w : List Int) : ∀ (Ls : List Int) (ws : List (List Int)), Ls.Pairwise (· < ·) → ws.Pairwise sl → (∀ v ∈ ws, ∀ l ∈ Ls, sl v (w ++ [l])) → (wround f s w ws Ls).Pairwise sl
  | [], ws, _, h, _ => h
  | l :: Ls, ws, hL, h, hb => by
    obtain ⟨h1, h2⟩ := List.pairwise_cons.1 hL
    refine wround_sorted w Ls (wadd f s ws (w ++ [l])) h2 (wadd_sorted h fun v hv => hb v hv l (by simp)) ?_
    intro v hv l' hl'
    rcases wadd_mem hv with hv | rfl
    · exact hb v hv l' (by simp [hl'])
    · exact sl_last w (h1 l' hl')
theorem wround_cover (w : List Int) : ∀ (Ls : List Int) (ws : List (List Int)), Ls.Pairwise (· < ·) → (∀ v ∈ ws, ∀ l ∈ Ls, sl v (w ++ [l])) → ∀ l ∈ Ls, ∃ v ∈ wround f s w ws Ls, nodeOf f s v = nodeOf f s (w ++ [l]) ∧ sle v (w ++ [l])
  | [], ws, _, _, l, hl => by cases hl
  | l0 :: Ls, ws, hL, hb, l, hl => by
    obtain ⟨h1, h2⟩ := List.pairwise_cons.1 hL
    have hb' : ∀ v ∈ wadd f s ws (w ++ [l0]), ∀ l ∈ Ls, sl v (w ++ [l]) := by
      intro v hv l' hl'
      rcases wadd_mem hv with hv | rfl
      · exact hb v hv l' (by simp [hl'])
      · exact sl_last w (h1 l' hl')
    rcases List.mem_cons.1 hl with rfl | hl
    · by_cases hin : nodeOf f s (w ++ [l]) ∈ ws.map (nodeOf f s)
      · obtain ⟨v, hv, e⟩ := List.mem_map.1 hin
        exact ⟨v, (wround_prefix w (l :: Ls) ws).subset hv, e, .inr (hb v hv l (by simp))⟩
      · exact ⟨w ++ [l], (wround_prefix w Ls (wadd f s ws (w ++ [l]))).subset (wadd_self hin), rfl, .inl rfl⟩
    · exact wround_cover w Ls (wadd f s ws (w ++ [l0])) h2 hb' l hl
theorem bfsw_inv (hL : L.Pairwise (· < ·)) (i : Nat) : (bfsw f s L i).Pairwise sl ∧ (∀ w, (bfsw f s L i)[i]? = some w → ∀ v ∈ bfsw f s L i, ∀ x, sl v (w ++ [x])) ∧
    (∀ j w, j < i → (bfsw f s L i)[j]? = some w → ∀ l ∈ L, ∃ v ∈ bfsw f s L i, nodeOf f s v = nodeOf f s (w ++ [l]) ∧ sle v (w ++ [l])) ∧ ∀ v ∈ bfsw f s L i, (∀ x ∈ v, x ∈ L) ∧ (v = [] ∨ ∃ u ∈ bfsw f s L i, ∃ l ∈ L, v = u ++ [l]) := by
  induction i with
  | zero =>
    refine ⟨by simp [bfsw], fun w hw v hv x => ?_, fun j w hj => by omega, fun v hv => ?_⟩
    · simp only [bfsw, List.mem_singleton] at hv
      subst hv
      exact sl_nil w x
    · simp only [bfsw, List.mem_singleton] at hv
      subst hv
      exact ⟨by simp, .inl rfl⟩
  | succ i ih =>
    obtain ⟨h1, h2, h3, h4⟩ := ih
    have hp := bfsw_prefix1 (f := f) (s := s) (L := L) i
    cases hq : (bfsw f s L i)[i]? with
    | none =>
      have e : bfsw f s L (i + 1) = bfsw f s L i := by rw [bfsw, hq]
      have hl : (bfsw f s L i).length ≤ i := by
        rcases Nat.lt_or_ge i (bfsw f s L i).length with h | h
        · rw [List.getElem?_eq_getElem h] at hq; cases hq
        · exact h
      rw [e]
      refine ⟨h1, fun w hw => ?_, fun j w hj hw => ?_, h4⟩
      · rw [List.getElem?_eq_none (by omega)] at hw; cases hw
      · rcases Nat.lt_or_ge j i with h | h
        · exact h3 j w h hw
        · rw [List.getElem?_eq_none (by omega)] at hw; cases hw
    | some w =>
      have e : bfsw f s L (i + 1) = wround f s w (bfsw f s L i) L := by rw [bfsw, hq]
      have hb := h2 w hq
      have hi := (List.getElem?_eq_some_iff.1 hq).1
      have hs : (bfsw f s L (i + 1)).Pairwise sl := by rw [e]; exact wround_sorted w L _ hL h1 (fun v hv l _ => hb v hv l)
      have hat : ∀ j, j < (bfsw f s L i).length → (bfsw f s L (i + 1))[j]? = (bfsw f s L i)[j]? := by
        intro j hj
        obtain ⟨t, ht⟩ := hp
        rw [← ht, List.getElem?_append_left hj]
      have hwi : (bfsw f s L (i + 1))[i]? = some w := by rw [hat i hi, hq]
      have hmem : ∀ v ∈ bfsw f s L (i + 1), v ∈ bfsw f s L i ∨ ∃ l ∈ L, v = w ++ [l] := fun v hv => by rw [e] at hv; exact wround_mem w L _ hv
      refine ⟨hs, fun w' hw' v hv x => ?_, fun j u hj hu l hl => ?_, fun v hv => ?_⟩
      · have hlt : sl w w' := by
          obtain ⟨g1, g2⟩ := List.getElem?_eq_some_iff.1 hwi
          obtain ⟨g3, g4⟩ := List.getElem?_eq_some_iff.1 hw'
          rw [← g2, ← g4]
          exact List.pairwise_iff_getElem.1 hs i (i + 1) g1 g3 (by omega)
        rcases hmem v hv with h | ⟨l, hl, rfl⟩
        · exact sl_trans (hb v h x) (sl_snoc x x hlt)
        · exact sl_snoc l x hlt
      · rcases Nat.lt_or_ge j i with h | h
        · rw [hat j (by omega)] at hu
          obtain ⟨v, g1, g2, g3⟩ := h3 j u h hu l hl
          exact ⟨v, hp.subset g1, g2, g3⟩
        · obtain rfl : j = i := by omega
          rw [hwi] at hu
          obtain rfl := Option.some.inj hu
          obtain ⟨v, g1, g2, g3⟩ := wround_cover (f := f) (s := s) w L _ hL (fun v hv l _ => hb v hv l) l hl
          exact ⟨v, by rw [e]; exact g1, g2, g3⟩
      · rcases hmem v hv with h | ⟨l, hl, rfl⟩
        · refine ⟨(h4 v h).1, ?_⟩
          rcases (h4 v h).2 with h5 | ⟨u, h5, l, h6, h7⟩
          · exact .inl h5
          · exact .inr ⟨u, hp.subset h5, l, h6, h7⟩
        · have hw := List.mem_of_getElem? hq
          refine ⟨fun x hx => ?_, .inr ⟨w, hp.subset hw, l, hl, rfl⟩⟩
          rcases List.mem_append.1 hx with h | h
          · exact (h4 w hw).1 x h
          · rw [List.mem_singleton.1 h]; exact hl
def ordw (f : α → Int → α) (s : α) (L : List Int) : List (List Int) := bfsw f s L (many 0)
theorem ordw_map : (ordw f s L).map (nodeOf f s) = ord f s L := bfsw_map _
theorem ordw_length : (ordw f s L).length = (ord f s L).length := bfsw_length _
theorem ordw_sorted (hL : L.Pairwise (· < ·)) : (ordw f s L).Pairwise sl := (bfsw_inv hL _).1
theorem ordw_over (hL : L.Pairwise (· < ·)) {v : List Int} (hv : v ∈ ordw f s L) : ∀ x ∈ v, x ∈ L := ((bfsw_inv hL _).2.2.2 v hv).1
theorem ordw_parent (hL : L.Pairwise (· < ·)) {u : List Int} {l : Int} (hv : u ++ [l] ∈ ordw f s L) : u ∈ ordw f s L := by
  rcases ((bfsw_inv hL _).2.2.2 _ hv).2 with h | ⟨u', h1, l', _, h3⟩
  · simp at h
  · have := List.append_inj' h3 rfl
    rw [this.1]; exact h1
theorem ordw_nil : [] ∈ ordw f s L := by
  have : ∀ i, [] ∈ bfsw f s L i := by
    intro i
    induction i with
    | zero => simp [bfsw]
    | succ i ih => exact (bfsw_prefix1 i).subset ih
  exact this _
theorem ordw_node {v w : List Int} (hv : v ∈ ordw f s L) (hw : w ∈ ordw f s L) (e : nodeOf f s v = nodeOf f s w) : v = w := by
  have h := ord_nodup (f := f) (s := s) (L := L)
  rw [← ordw_map] at h
  obtain ⟨i, hi, rfl⟩ := List.mem_iff_getElem.1 hv
  obtain ⟨j, hj, rfl⟩ := List.mem_iff_getElem.1 hw
  rcases Nat.lt_trichotomy i j with hij | rfl | hij
  · exact absurd (by rw [List.getElem_map, List.getElem_map]; exact e) (List.pairwise_iff_getElem.1 h i j (by simpa using hi) (by simpa using hj) hij)
  · rfl
  · exact absurd (by rw [List.getElem_map, List.getElem_map]; exact e.symm) (List.pairwise_iff_getElem.1 h j i (by simpa using hj) (by simpa using hi) hij)
theorem ordw_cover (hL : L.Pairwise (· < ·)) (hlen : (ord f s L).length ≤ 200) : ∀ (n : Nat) (v : List Int), v.length = n → (∀ x ∈ v, x ∈ L) → ∃ w ∈ ordw f s L, nodeOf f s w = nodeOf f s v ∧ sle w v := by
  intro n
  induction n with
  | zero =>
    intro v hv _
    obtain rfl := List.eq_nil_of_length_eq_zero hv
    exact ⟨[], ordw_nil, rfl, .inl rfl⟩
  | succ n ih =>
    intro v hv hx
    rcases List.eq_nil_or_concat v with rfl | ⟨u, l, rfl⟩
    · simp at hv
    · rw [List.concat_eq_append] at hv hx ⊢
      obtain ⟨w, h1, h2, h3⟩ := ih u (by simpa using hv) (fun x h => hx x (by simp [h]))
      obtain ⟨j, hj, hw⟩ := List.mem_iff_getElem.1 h1
      have hj2 : j < many 0 := by
        have := ordw_length (f := f) (s := s) (L := L)
        rw [many_eq]
        omega
      obtain ⟨w', g1, g2, g3⟩ := (bfsw_inv (f := f) (s := s) hL (many 0)).2.2.1 j w hj2 (by rw [← hw]; exact List.getElem?_eq_getElem hj) l (hx l (by simp))
      refine ⟨w', g1, ?_, sle_trans g3 (sle_snoc l h3)⟩
      rw [g2, nodeOf_snoc, nodeOf_snoc, h2]
def firstOf (f : α → Int → α) (s : α) (L : List Int) (G : α → Bool) : Option (List Int) := (ordw f s L).find? fun w => G (nodeOf f s w)
theorem first_some (hL : L.Pairwise (· < ·)) (hlen : (ord f s L).length ≤ 200) {G : α → Bool} {w : List Int} (h : firstOf f s L G = some w) : w ∈ ordw f s L ∧ G (nodeOf f s w) = true ∧ ∀ v : List Int, (∀ x ∈ v, x ∈ L) → G (nodeOf f s v) = true → sle w v := by
  obtain ⟨hg, aas, bs, e, has⟩ := List.find?_eq_some_iff_append.1 h
  refine ⟨List.mem_of_find?_eq_some h, hg, fun v hv hgv => ?_⟩
  obtain ⟨w', h1, h2, h3⟩ := ordw_cover hL hlen _ v rfl hv
  refine sle_trans ?_ h3
  rw [e] at h1
  rcases List.mem_append.1 h1 with h1 | h1
  · have := has w' h1
    rw [h2, hgv] at this
    simp at this
  · rcases List.mem_cons.1 h1 with rfl | h1
    · exact .inl rfl
    · have hs := ordw_sorted (f := f) (s := s) hL
      rw [e] at hs
      exact .inr ((List.pairwise_cons.1 (List.pairwise_append.1 hs).2.1).1 w' h1)
theorem first_none (hL : L.Pairwise (· < ·)) (hlen : (ord f s L).length ≤ 200) {G : α → Bool} (h : firstOf f s L G = none) : ∀ v : List Int, (∀ x ∈ v, x ∈ L) → G (nodeOf f s v) = false := by
  intro v hv
  obtain ⟨w', h1, h2, _⟩ := ordw_cover hL hlen _ v rfl hv
  have := List.find?_eq_none.1 h w' h1
  rw [h2] at this
  simpa using this
theorem first_eq (hL : L.Pairwise (· < ·)) (hlen : (ord f s L).length ≤ 200) {G : α → Bool} {w : List Int} (hw : ∀ x ∈ w, x ∈ L) (hg : G (nodeOf f s w) = true) (hm : ∀ v : List Int, (∀ x ∈ v, x ∈ L) → G (nodeOf f s v) = true → sle w v) : firstOf f s L G = some w := by
  cases h : firstOf f s L G with
  | none =>
    have := first_none hL hlen h w hw
    rw [hg] at this; cases this
  | some u =>
    obtain ⟨h1, h2, h3⟩ := first_some hL hlen h
    rw [sle_antisymm (h3 w hw hg) (hm u (ordw_over hL h1) h2)]
theorem first_no (hL : L.Pairwise (· < ·)) (hlen : (ord f s L).length ≤ 200) {G : α → Bool} (hm : ∀ v : List Int, (∀ x ∈ v, x ∈ L) → G (nodeOf f s v) = false) : firstOf f s L G = none := by
  cases h : firstOf f s L G with
  | none => rfl
  | some u =>
    obtain ⟨h1, h2, h3⟩ := first_some hL hlen h
    rw [hm u (ordw_over hL h1)] at h2; cases h2
theorem ordw_take (hL : L.Pairwise (· < ·)) : ∀ (n : Nat) {v : List Int}, v ∈ ordw f s L → v.length - n ≤ v.length → v.take (v.length - n) ∈ ordw f s L := by
  intro n
  induction n with
  | zero => intro v hv _; rw [Nat.sub_zero, List.take_length]; exact hv
  | succ n ih =>
    intro v hv _
    have h := ih hv (by omega)
    rcases Nat.lt_or_ge n v.length with hlt | hge
    · have e : v.take (v.length - n) = v.take (v.length - (n + 1)) ++ [v[v.length - (n + 1)]] := by
        have h9 : v.length - n = (v.length - (n + 1)) + 1 := by omega
        rw [h9, List.take_succ_eq_append_getElem (by omega)]
      rw [e] at h
      exact ordw_parent hL h
    · rw [show v.length - (n + 1) = v.length - n by omega]; exact h
theorem ordw_pre (hL : L.Pairwise (· < ·)) {v : List Int} (hv : v ∈ ordw f s L) (k : Nat) : v.take k ∈ ordw f s L := by
  rcases Nat.lt_or_ge k v.length with h | h
  · have := ordw_take hL (v.length - k) hv (by omega)
    rwa [show v.length - (v.length - k) = k by omega] at this
  · rw [List.take_of_length_le h]; exact hv
theorem ordw_short (hL : L.Pairwise (· < ·)) {v : List Int} (hv : v ∈ ordw f s L) : v.length + 1 ≤ (ord f s L).length := by
  rw [← ordw_length]
  have h := nodup_len (xs := (List.range (v.length + 1)).map fun k => v.take k) (U := ordw f s L) (by
    refine List.pairwise_map.2 (List.Pairwise.imp_of_mem ?_ List.pairwise_lt_range)
    intro a b ha hb hab e
    have h1 := congrArg List.length e
    rw [List.length_take, List.length_take] at h1
    have := List.mem_range.1 hb
    omega) (fun q hq => by
    obtain ⟨k, _, rfl⟩ := List.mem_map.1 hq
    exact ordw_pre hL hv k)
  simpa using h
theorem first_self (hL : L.Pairwise (· < ·)) (hlen : (ord f s L).length ≤ 200) {w : List Int} (hw : w ∈ ordw f s L) : firstOf f s L (fun q => decide (q = nodeOf f s w)) = some w := by
  cases h : firstOf f s L (fun q => decide (q = nodeOf f s w)) with
  | none =>
    have := first_none hL hlen h w (ordw_over hL hw)
    simp at this
  | some u =>
    obtain ⟨h1, h2, _⟩ := first_some hL hlen h
    rw [ordw_node h1 hw (by simpa using h2)]
end
theorem letters_sorted (b : Int) : (letters b).Pairwise (· < ·) := by
  unfold letters lettersTo
  refine List.Pairwise.filter _ ?_
  refine List.pairwise_map.2 (List.Pairwise.imp ?_ List.pairwise_lt_range)
  intro x y h
  omega
end Go.Proofs.Ytoboklelbbgcnaa
set_option linter.unusedSimpArgs false
set_option linter.unusedVariables false
namespace Go.Proofs.Ytoboklelbbgcnaa
section
variable {α : Type}
def lev (f : α → Int → α) (L : List Int) (G : α → Bool) : Nat → α → Bool
  | 0, q => G q
  | n + 1, q => L.any fun l => lev f L G n (f q l)
variable {f : α → Int → α} {L : List Int} {G : α → Bool}
theorem lev_iff : ∀ {n : Nat} {q : α}, lev f L G n q = true ↔ ∃ w : List Int, w.length = n ∧ (∀ x ∈ w, x ∈ L) ∧ G (nodeOf f q w) = true
  | 0, q => by
    constructor
    · intro h; exact ⟨[], rfl, by simp, h⟩
    · rintro ⟨w, hw, _, h⟩
      obtain rfl := List.eq_nil_of_length_eq_zero hw
      exact h
  | n + 1, q => by
    rw [lev, List.any_eq_true]
    constructor
    · rintro ⟨l, hl, h⟩
      obtain ⟨w, h1, h2, h3⟩ := lev_iff.1 h
      exact ⟨l :: w, by simp [h1], fun x hx => (List.mem_cons.1 hx).elim (fun h => h ▸ hl) (h2 x), h3⟩
    · rintro ⟨w, hw, hx, h⟩
      cases w with
      | nil => simp at hw
      | cons l w => exact ⟨l, hx l (by simp), lev_iff.2 ⟨w, by simpa using hw, fun x h => hx x (by simp [h]), h⟩⟩
def disTo (f : α → Int → α) (L : List Int) (G : α → Bool) (d : Nat) (q : α) : Int := match (List.range (d + 1)).find? (fun n => lev f L G n q) with
  | some n => (n : Int)
  | none => -1
theorem find_range {p : Nat → Bool} {d n : Nat} : (List.range (d + 1)).find? p = some n ↔ n ≤ d ∧ p n = true ∧ ∀ m, m < n → p m = false := by
  rw [List.find?_range_eq_some]
  simp only [List.mem_range, Bool.not_eq_eq_eq_not, Bool.not_true]
  constructor
  · rintro ⟨h1, h2, h3⟩; exact ⟨by omega, h1, h3⟩
  · rintro ⟨h1, h2, h3⟩; exact ⟨h2, by omega, h3⟩
theorem disTo_eq {d n : Nat} {q : α} : disTo f L G d q = (n : Int) ↔ n ≤ d ∧ lev f L G n q = true ∧ ∀ m, m < n → lev f L G m q = false := by
  unfold disTo
  rw [← find_range (p := fun n => lev f L G n q)]
  cases (List.range (d + 1)).find? (fun n => lev f L G n q) with
  | none => simp
  | some m =>
    constructor
    · intro h
      have : m = n := Int.ofNat.inj h
      rw [this]
    · intro h
      rw [Option.some.inj h]
theorem disTo_neg {d : Nat} {q : α} : disTo f L G d q = -1 ↔ ∀ n, n ≤ d → lev f L G n q = false := by
  unfold disTo
  cases h : (List.range (d + 1)).find? (fun n => lev f L G n q) with
  | none =>
    have := List.find?_eq_none.1 h
    simp only [List.mem_range, true_iff]
    intro n hn
    simpa using this n (List.mem_range.2 (by omega))
  | some m =>
    have := (find_range (p := fun n => lev f L G n q)).1 h
    constructor
    · intro hc; simp at hc
    · intro hc
      rw [hc m this.1] at this
      simp at this
theorem disTo_cases (d : Nat) (q : α) : disTo f L G d q = -1 ∨ ∃ n : Nat, disTo f L G d q = (n : Int) ∧ n ≤ d := by
  unfold disTo
  cases h : (List.range (d + 1)).find? (fun n => lev f L G n q) with
  | none => exact .inl rfl
  | some m => exact .inr ⟨m, rfl, ((find_range (p := fun n => lev f L G n q)).1 h).1⟩
theorem disTo_zero {q : α} : disTo f L G 0 q = if G q then 0 else -1 := by
  by_cases h : G q = true
  · rw [if_pos h]
    show disTo f L G 0 q = ((0 : Nat) : Int)
    exact disTo_eq.2 ⟨Nat.le_refl _, h, fun m hm => by omega⟩
  · rw [if_neg h]
    exact disTo_neg.2 fun n hn => by rw [Nat.le_zero.1 hn]; simpa [lev] using h
def near (f : α → Int → α) (L : List Int) (G : α → Bool) (d : Nat) (q : α) : Bool := L.any fun l => decide (disTo f L G d (f q l) = (d : Int))
theorem disTo_old {d : Nat} {q : α} (h : 0 ≤ disTo f L G d q) : disTo f L G (d + 1) q = disTo f L G d q := by
  rcases disTo_cases (f := f) (L := L) (G := G) d q with h1 | ⟨n, h1, h2⟩
  · omega
  · rw [h1]
    have := disTo_eq.1 h1
    exact disTo_eq.2 ⟨by omega, this.2⟩
theorem disTo_new {d : Nat} {q : α} (h : disTo f L G d q < 0) (hn : near f L G d q = true) : disTo f L G (d + 1) q = ((d + 1 : Nat) : Int) := by
  rcases disTo_cases (f := f) (L := L) (G := G) d q with h1 | ⟨n, h1, _⟩
  · have h2 := disTo_neg.1 h1
    obtain ⟨l, hl, h3⟩ := List.any_eq_true.1 hn
    have h4 := disTo_eq.1 (of_decide_eq_true h3)
    exact disTo_eq.2 ⟨Nat.le_refl _, List.any_eq_true.2 ⟨l, hl, h4.2.1⟩, fun m hm => h2 m (by omega)⟩
  · omega
theorem disTo_far {d : Nat} {q : α} (h : disTo f L G d q < 0) (hn : near f L G d q = false) : disTo f L G (d + 1) q = -1 := by
  rcases disTo_cases (f := f) (L := L) (G := G) d q with h1 | ⟨n, h1, _⟩
  · have h2 := disTo_neg.1 h1
    refine disTo_neg.2 fun n hle => ?_
    rcases Nat.lt_or_ge n (d + 1) with h3 | h3
    · exact h2 n (by omega)
    · obtain rfl : n = d + 1 := by omega
      cases hl : lev f L G (d + 1) q with
      | false => rfl
      | true =>
        obtain ⟨l, hl1, hl2⟩ := List.any_eq_true.1 hl
        have : near f L G d q = true := List.any_eq_true.2 ⟨l, hl1, decide_eq_true (disTo_eq.2 ⟨Nat.le_refl _, hl2, fun m hm => by
          cases hm2 : lev f L G m (f q l) with
          | false => rfl
          | true =>
            have h5 : lev f L G (m + 1) q = true := List.any_eq_true.2 ⟨l, hl1, hm2⟩
            rw [h2 (m + 1) (by omega)] at h5
            cases h5⟩)⟩
        rw [hn] at this; cases this
  · omega
theorem lev_stop {P : α → Prop} (hP : ∀ q, P q → ∀ l ∈ L, P (f q l)) {d : Nat} (h : ∀ q, P q → disTo f L G (d + 1) q = disTo f L G d q) : ∀ (n : Nat) (q : α), P q → lev f L G n q = true → ∃ m, m ≤ d ∧ lev f L G m q = true := by
  intro n
  induction n with
  | zero => intro q _ hl; exact ⟨0, Nat.zero_le _, hl⟩
  | succ n ih =>
    intro q hq hl
    obtain ⟨l, hl1, hl2⟩ := List.any_eq_true.1 hl
    obtain ⟨m, hm, hm2⟩ := ih (f q l) (hP q hq l hl1) hl2
    have h5 : lev f L G (m + 1) q = true := List.any_eq_true.2 ⟨l, hl1, hm2⟩
    rcases Nat.lt_or_ge m d with h6 | h6
    · exact ⟨m + 1, by omega, h5⟩
    · obtain rfl : m = d := by omega
      rcases disTo_cases (f := f) (L := L) (G := G) m q with h7 | ⟨k, h7, h8⟩
      · rw [← h q hq] at h7
        rw [disTo_neg.1 h7 (m + 1) (Nat.le_refl _)] at h5
        cases h5
      · exact ⟨k, h8, (disTo_eq.1 h7).2.1⟩
def gre (f : α → Int → α) (L : List Int) (dis : α → Int) : Nat → α → List Int
  | 0, _ => []
  | n + 1, q => match L.find? (fun l => decide (dis (f q l) = (n : Int))) with
    | some l => l :: gre f L dis n (f q l)
    | none => []
theorem sorted_find {L : List Int} (hL : L.Pairwise (· < ·)) {p : Int → Bool} {l l' : Int} (h : L.find? p = some l) (hl : l' ∈ L) (hp : p l' = true) : l = l' ∨ l < l' := by
  obtain ⟨_, aas, bs, e, has⟩ := List.find?_eq_some_iff_append.1 h
  subst e
  rcases List.mem_append.1 hl with h1 | h1
  · have := has l' h1
    rw [hp] at this; cases this
  · rcases List.mem_cons.1 h1 with rfl | h1
    · exact .inl rfl
    · exact .inr ((List.pairwise_cons.1 (List.pairwise_append.1 hL).2.1).1 l' h1)
theorem gre_least (hL : L.Pairwise (· < ·)) {d : Nat} : ∀ (n : Nat) (q : α), disTo f L G d q = (n : Int) → ((gre f L (disTo f L G d) n q).length = n ∧ (∀ x ∈ gre f L (disTo f L G d) n q, x ∈ L) ∧ G (nodeOf f q (gre f L (disTo f L G d) n q)) = true) ∧
    ∀ v : List Int, v.length = n → (∀ x ∈ v, x ∈ L) → G (nodeOf f q v) = true → sle (gre f L (disTo f L G d) n q) v
  | 0, q, h => by
    have h1 := disTo_eq.1 h
    refine ⟨⟨rfl, by simp [gre], h1.2.1⟩, fun v hv _ _ => ?_⟩
    obtain rfl := List.eq_nil_of_length_eq_zero hv
    exact .inl rfl
  | n + 1, q, h => by
    have h1 := disTo_eq.1 h
    have key : ∀ l, l ∈ L → lev f L G n (f q l) = true → disTo f L G d (f q l) = (n : Int) := fun l hl hl2 => disTo_eq.2 ⟨by omega, hl2, fun m hm => by
      cases hm2 : lev f L G m (f q l) with
      | false => rfl
      | true =>
        have h5 : lev f L G (m + 1) q = true := List.any_eq_true.2 ⟨l, hl, hm2⟩
        rw [h1.2.2 (m + 1) (by omega)] at h5
        cases h5⟩
    obtain ⟨l1, hl1, hl2⟩ := List.any_eq_true.1 h1.2.1
    cases hf : L.find? (fun l => decide (disTo f L G d (f q l) = (n : Int))) with
    | none =>
      have := List.find?_eq_none.1 hf l1 hl1
      rw [key l1 hl1 hl2] at this
      simp at this
    | some l =>
      have e : gre f L (disTo f L G d) (n + 1) q = l :: gre f L (disTo f L G d) n (f q l) := by rw [gre, hf]
      have hld : disTo f L G d (f q l) = (n : Int) := by simpa using List.find?_some hf
      obtain ⟨⟨g1, g2, g3⟩, g4⟩ := gre_least hL n (f q l) hld
      rw [e]
      refine ⟨⟨by simp [g1], fun x hx => (List.mem_cons.1 hx).elim (fun h => h ▸ List.mem_of_find?_eq_some hf) (g2 x), g3⟩, fun v hv hx hg => ?_⟩
      cases v with
      | nil => simp at hv
      | cons l' v =>
        have hlv : lev f L G n (f q l') = true := lev_iff.2 ⟨v, by simpa using hv, fun x h => hx x (by simp [h]), hg⟩
        have hl' := hx l' (by simp)
        rcases sorted_find hL hf hl' (decide_eq_true (key l' hl' hlv)) with rfl | hlt
        · rcases g4 v (by simpa using hv) (fun x h => hx x (by simp [h])) hg with h6 | h6
          · exact .inl (by rw [h6])
          · refine .inr (.inr ⟨by simp [g1]; simpa using hv.symm, .inr ⟨rfl, ?_⟩⟩)
            rcases h6 with h6 | h6
            · have : v.length = n := by simpa using hv
              omega
            · exact h6.2
        · exact .inr (.inr ⟨by simp [g1]; simpa using hv.symm, .inl hlt⟩)
theorem first_gre [DecidableEq α] {s : α} (hL : L.Pairwise (· < ·)) (hlen : (ord f s L).length ≤ 200) {P : α → Prop} (hP : ∀ q, P q → ∀ l ∈ L, P (f q l)) (hs : P s) {d : Nat} (h : ∀ q, P q → disTo f L G (d + 1) q = disTo f L G d q) :
    firstOf f s L G = if 0 ≤ disTo f L G d s then some (gre f L (disTo f L G d) (disTo f L G d s).toNat s) else none := by
  rcases disTo_cases (f := f) (L := L) (G := G) d s with h1 | ⟨n, h1, h2⟩
  · rw [if_neg (by omega)]
    refine first_no hL hlen fun v hv => ?_
    cases hg : G (nodeOf f s v) with
    | false => rfl
    | true =>
      obtain ⟨m, hm, hm2⟩ := lev_stop hP h v.length s hs (lev_iff.2 ⟨v, rfl, hv, hg⟩)
      rw [disTo_neg.1 h1 m hm] at hm2
      cases hm2
  · rw [if_pos (by omega), h1, Int.toNat_natCast]
    obtain ⟨⟨g1, g2, g3⟩, g4⟩ := gre_least hL n s h1
    refine first_eq hL hlen g2 g3 fun v hv hg => ?_
    have h3 := disTo_eq.1 h1
    rcases Nat.lt_trichotomy v.length n with h4 | h4 | h4
    · have := h3.2.2 v.length h4
      rw [lev_iff.2 ⟨v, rfl, hv, hg⟩] at this
      cases this
    · exact g4 v h4 hv hg
    · exact .inr (.inl (by omega))
end
end Go.Proofs.Ytoboklelbbgcnaa
set_option linter.unusedSimpArgs false
set_option linter.unusedVariables false
namespace Go.Proofs.Ytoboklelbbgcnaa
open Go.RowKit
def txb (w : List Int) : List UInt8 := w.map fun x => UInt8.ofNat (97 + x).toNat
def txt (w : List Int) : ByteArray := ⟨(txb w).toArray⟩
theorem txt_snoc (w : List Int) (x : Int) : txt (w ++ [x]) = txt w ++ chr x := by
  apply ByteArray.ext
  simp [txt, txb, chr]
theorem txb_rev (w : List Int) : (txb w.reverse).reverse = txb w := by simp [txb]
theorem txt_size (w : List Int) : (txt w).size = w.length := by simp [txt, txb, ByteArray.size]
theorem lts_txt {w : List Int} (h : ∀ x ∈ w, 0 ≤ x ∧ x < 6) : lts (txt w) = w := by
  unfold lts txt txb
  simp only [List.map_map]
  refine (List.map_congr_left fun x hx => ?_).trans (List.map_id w)
  have := h x hx
  have := u8_of (n := 97 + x) (by omega)
  simp only [Function.comp, id]
  omega
theorem txt_within {w : List Int} {al : Int} (hal : 0 ≤ al ∧ al ≤ 63) (h : ∀ x ∈ w, x ∈ letters al) (hl : w.length ≤ 50000) : within (txt w) al = true :=
  within_spec.2 ⟨hal, by rw [txt_size]; exact hl, fun x hx => by
    rw [lts_txt (fun y hy => ⟨(mem_letters (h y hy)).1, (mem_letters (h y hy)).2.1⟩)] at hx
    exact (mem_letters (h x hx)).2.2⟩
def stepV (r : Int × Int × Value) : List Value := [.int .i64 r.1, .int .i64 r.2.1, r.2.2]
def rows3 (rs : List (Int × Int × Value)) : List (List Value) := rs.map stepV
theorem rows3_length (rs : List (Int × Int × Value)) : (rows3 rs).length = rs.length := List.length_map _
theorem rows3_snoc (rs : List (Int × Int × Value)) (r : Int × Int × Value) : rows3 (rs ++ [r]) = rows3 rs ++ [[.int .i64 r.1, .int .i64 r.2.1, r.2.2]] := by simp [rows3, stepV]
section
variable {w w' : World} {B : Nat} {e : TypeId} {v : Value} {rs : List (Int × Int × Value)}
theorem Wid.triple (h : Wid w B e 3 v (rows3 rs)) {i : Int} {r : Int × Int × Value} (h0 : 0 ≤ i) (hr : rs[i.toNat]? = some r) : ∃ g c, v = .slice (some ⟨g, 0, none⟩) rs.length c ∧ (i.toNat < rs.length) ∧ w.cell? ⟨g, i.toNat * 3 + 0, none⟩ = some (.int .i64 r.1) ∧ w.cell? ⟨g, i.toNat * 3 + 1, none⟩ = some (.int .i64 r.2.1) ∧ w.cell? ⟨g, i.toNat * 3 + 2, none⟩ = some r.2.2 := by
  have hi := (List.getElem?_eq_some_iff.1 hr).1
  obtain ⟨g, c, hv, _, _, hc⟩ := h.at h0 (by rw [rows3_length]; omega)
  rw [rows3_length] at hv
  have e1 : (rows3 rs).getD i.toNat [] = stepV r := by
    unfold rows3
    rw [List.getD_eq_getElem?_getD, List.getElem?_map, hr]
    rfl
  rw [e1] at hc
  exact ⟨g, c, hv, hi, hc 0 (by decide), hc 1 (by decide), hc 2 (by decide)⟩
end
def Link (ws : List (List Int)) (p l : Int) (v : List Int) : Prop := (v = [] ∧ p = -1) ∨ ∃ u, v = u ++ [l] ∧ 0 ≤ p ∧ ws[p.toNat]? = some u
theorem Link.more {ws : List (List Int)} {p l : Int} {v : List Int} (h : Link ws p l v) (us : List (List Int)) : Link (ws ++ us) p l v := by
  rcases h with h | ⟨u, h1, h2, h3⟩
  · exact .inl h
  · exact .inr ⟨u, h1, h2, by rw [List.getElem?_append_left (List.getElem?_eq_some_iff.1 h3).1]; exact h3⟩
structure Trail (w : World) (I : TypeId) (f : Int → Int → Int) (s : Int) (ws : List (List Int)) (rs : List (Int × Int × Value)) : Prop where
  len : rs.length = ws.length
  row : ∀ (j : Nat) (v : List Int), ws[j]? = some v → ∃ p l fv, rs[j]? = some (p, l, fv) ∧ Link ws p l v ∧ Ints w I fv [nodeOf f s v]
  lets : ∀ v ∈ ws, ∀ x ∈ v, 0 ≤ x ∧ x < 6
section
variable {w w' : World} {I : TypeId} {f : Int → Int → Int} {s : Int} {ws : List (List Int)} {rs : List (Int × Int × Value)}
theorem Trail.map (h : Trail w I f s ws rs) (k : ∀ v xs, Ints w I v xs → Ints w' I v xs) : Trail w' I f s ws rs :=
  ⟨h.len, fun j v hv => by
    obtain ⟨p, l, fv, h1, h2, h3⟩ := h.row j v hv
    exact ⟨p, l, fv, h1, h2, k _ _ h3⟩, h.lets⟩
theorem Trail.ext (h : Trail w I f s ws rs) (x : Ext w w') : Trail w' I f s ws rs := h.map fun _ _ h => h.ext x
theorem Trail.owned {B : Nat} {t : TypeId} {u : Value} {us : List Value} (h : Trail w I f s ws rs) (ho : Own w B t u us) (hg : w.grownBy w' u.ownBlock) (hne : t ≠ I) : Trail w' I f s ws rs := h.map fun _ _ h => Row.owned h ho hg hne
theorem Trail.stored {g : Nat} {t : TypeId} {cs : List Value} (h : Trail w I f s ws rs) (hg : w.grownBy w' (some g)) (hb : Blk w g t cs) (hne : t ≠ I) : Trail w' I f s ws rs := h.map fun _ _ h => Row.stored h hg hb hne
theorem Trail.wid {B n : Nat} {e : TypeId} {u : Value} {rows : List (List Value)} (h : Trail w I f s ws rs) (ho : Wid w B e n u rows) (hg : w.grownBy w' u.ownBlock) (hne : e ≠ I) : Trail w' I f s ws rs := h.map fun _ _ h => Row.wid h ho hg hne
theorem Trail.nil (w : World) (I : TypeId) (f : Int → Int → Int) (s : Int) : Trail w I f s [] [] := ⟨rfl, by simp, by simp⟩
theorem Trail.snoc (h : Trail w I f s ws rs) {p l : Int} {fv : Value} {v : List Int} (hl : Link ws p l v) (hf : Ints w I fv [nodeOf f s v]) (hv : ∀ x ∈ v, 0 ≤ x ∧ x < 6) : Trail w I f s (ws ++ [v]) (rs ++ [(p, l, fv)]) := by
  refine ⟨by simp [h.len], fun j u hu => ?_, fun u hu => ?_⟩
  · rcases Nat.lt_or_ge j ws.length with hj | hj
    · rw [List.getElem?_append_left hj] at hu
      obtain ⟨p', l', fv', h1, h2, h3⟩ := h.row j u hu
      exact ⟨p', l', fv', by rw [List.getElem?_append_left (by rw [h.len]; exact hj)]; exact h1, h2.more _, h3⟩
    · have hj2 := (List.getElem?_eq_some_iff.1 hu).1
      rw [List.length_append, List.length_singleton] at hj2
      obtain rfl : j = ws.length := by omega
      rw [List.getElem?_append_right (Nat.le_refl _), Nat.sub_self] at hu
      have hu' : v = u := by simpa using hu
      subst hu'
      exact ⟨p, l, fv, by rw [List.getElem?_append_right (by rw [h.len]; exact Nat.le_refl _), h.len, Nat.sub_self]; rfl, hl.more _, hf⟩
  · rcases List.mem_append.1 hu with h' | h'
    · exact h.lets u h'
    · rw [List.mem_singleton.1 h']; exact hv
end
def seenOf (n : Nat) (ns : List Int) : List Bool := (List.range n).map fun (i : Nat) => decide ((i : Int) ∈ ns)
theorem seenOf_length (n : Nat) (ns : List Int) : (seenOf n ns).length = n := by simp [seenOf]
theorem seenOf_nil (n : Nat) : seenOf n [] = List.replicate n false := by
  apply List.ext_getElem <;> simp [seenOf]
theorem seenOf_at {n : Nat} {ns : List Int} {q : Int} (hq : 0 ≤ q ∧ q < n) : (seenOf n ns).getD q.toNat false = decide (q ∈ ns) := by
  have h : q.toNat < n := by omega
  have e : ((q.toNat : Nat) : Int) = q := Int.toNat_of_nonneg hq.1
  simp [seenOf, List.getD_eq_getElem?_getD, h, e]
theorem seenOf_set {n : Nat} {ns : List Int} {q : Int} (hq : 0 ≤ q) : (seenOf n ns).set q.toNat true = seenOf n (ns ++ [q]) := by
  apply List.ext_getElem
  · simp [seenOf]
  · intro i h1 h2
    rw [List.getElem_set]
    by_cases h : q.toNat = i
    · have : ((i : Nat) : Int) = q := by omega
      simp [seenOf, h, this]
    · have : ((i : Nat) : Int) ≠ q := by omega
      simp [seenOf, h, this]
theorem Own.seen0 {w : World} {B n : Nat} {e : TypeId} {v : Value} (h : Own w B e v (List.replicate n (Value.bool false))) : Own w B e v ((seenOf n []).map Value.bool) := by rw [seenOf_nil, List.map_replicate]; exact h
theorem seen_n {w : World} {B n : Nat} {e : TypeId} {v : Value} {m : Int} (hm : m = n) (h : Own w B e v (List.replicate m.toNat (Value.bool false))) : Own w B e v (List.replicate n (Value.bool false)) := by
  subst hm; exact h
def NClo (P : Program) (w0 : World) (I : TypeId) (fv : Value) (D : Int → Prop) (f : Int → Int → Int) : Prop :=
  ∃ k fn, ∃ cs : List Value, fv = .func (.func k) #[] cs.toArray ∧ Fn P k fn ∧ ∀ w q x, Ext w0 w → D q → 0 ≤ x ∧ x < 6 → Ret P k ([Value.int .i64 q, Value.int .i64 x, Value.slice none 0 0] ++ cs).toArray w fun v w' => Own w' w.heap.size I v [Value.int .i64 (f q x)] ∧ Ext w w'
def GClo (P : Program) (w0 : World) (gv : Value) (D : Int → Prop) (G : Int → Bool) : Prop :=
  ∃ k fn, ∃ cs : List Value, gv = .func (.func k) #[] cs.toArray ∧ Fn P k fn ∧ ∀ w q, Ext w0 w → D q → Ret P k ([Value.int .i64 q] ++ cs).toArray w fun v w' => v = .bool (G q) ∧ Ext w w'
theorem NClo.up {P : Program} {w0 w1 : World} {I : TypeId} {fv : Value} {D : Int → Prop} {f : Int → Int → Int} (h : NClo P w0 I fv D f) (x : Ext w0 w1) : NClo P w1 I fv D f := by
  obtain ⟨k, fn, cs, h1, h2, h3⟩ := h
  exact ⟨k, fn, cs, h1, h2, fun w q y hw hq hy => h3 w q y (x.trans hw) hq hy⟩
theorem GClo.up {P : Program} {w0 w1 : World} {gv : Value} {D : Int → Prop} {G : Int → Bool} (h : GClo P w0 gv D G) (x : Ext w0 w1) : GClo P w1 gv D G := by
  obtain ⟨k, fn, cs, h1, h2, h3⟩ := h
  exact ⟨k, fn, cs, h1, h2, fun w q hw hq => h3 w q (x.trans hw) hq⟩
def BClo (P : Program) (w0 : World) (gv : Value) (g : Bool → Bool → Bool) : Prop :=
  ∃ k fn, ∃ cs : List Value, gv = .func (.func k) #[] cs.toArray ∧ Fn P k fn ∧ ∀ w x y, Ext w0 w → Ret P k ([Value.bool x, Value.bool y] ++ cs).toArray w fun v w' => v = .bool (g x y) ∧ Ext w w'
theorem BClo.up {P : Program} {w0 w1 : World} {gv : Value} {g : Bool → Bool → Bool} (h : BClo P w0 gv g) (x : Ext w0 w1) : BClo P w1 gv g := by
  obtain ⟨k, fn, cs, h1, h2, h3⟩ := h
  exact ⟨k, fn, cs, h1, h2, fun w a b hw => h3 w a b (x.trans hw)⟩
theorem BClo.one {P : Program} {w0 : World} {gv : Value} {g : Bool → Bool → Bool} (h : BClo P w0 gv g) : gv.oneCell' = true := by
  obtain ⟨k, fn, cs, h1, _⟩ := h
  rw [h1]; rfl
def SMem (wb w : World) (I Bo LB S LS GT : TypeId) (B bs bt bg : Nat) (gv : Value) (n : Nat) (f : Int → Int → Int) (s : Int) (ws : List (List Int)) : Prop :=
  ∃ sv tv rs, Blk w bs LB [sv] ∧ Own w B Bo sv ((seenOf n (ws.map (nodeOf f s))).map Value.bool) ∧ Blk w bt LS [tv] ∧ Wid w B S 3 tv (rows3 rs) ∧ Trail w I f s ws rs ∧ Blk w bg GT [gv] ∧ Ext wb w ∧ wb.heap.size ≤ B ∧ wb.heap.size ≤ bs ∧ wb.heap.size ≤ bt ∧ B ≤ w.heap.size
section
variable {wb w w' : World} {I Bo LB S LS GT : TypeId} {B bs bt bg n : Nat} {gv : Value} {f : Int → Int → Int} {s : Int} {ws : List (List Int)}
theorem SMem.ext (h : SMem wb w I Bo LB S LS GT B bs bt bg gv n f s ws) (x : Ext w w') : SMem wb w' I Bo LB S LS GT B bs bt bg gv n f s ws := by
  obtain ⟨sv, tv, rs, h1, h2, h3, h4, h5, h6, h7, h8, h9, h10, h11⟩ := h
  exact ⟨sv, tv, rs, h1.ext x, h2.ext x, h3.ext x, h4.ext x, h5.ext x, h6.ext x, h7.trans x, h8, h9, h10, Nat.le_trans h11 (Below.size x)⟩
theorem SMem.base (h : SMem wb w I Bo LB S LS GT B bs bt bg gv n f s ws) : Ext wb w := by
  obtain ⟨sv, tv, rs, h1, h2, h3, h4, h5, h6, h7, h8⟩ := h
  exact h7
end
theorem Wid.one {w : World} {B n : Nat} {e : TypeId} {v : Value} {rows : List (List Value)} (h : Wid w B e n v rows) : v.oneCell' = true := by
  rcases h.cases with ⟨rfl, _⟩ | ⟨g, cap, cs, rfl, _⟩ <;> rfl
theorem Own.snocT {w : World} {B : Nat} {e : TypeId} {v : Value} {t : List Int} {l : Int} (h : Own w B e v ((txb t.reverse).map (fun b => Value.int .u8 (b.toNat : Int)) ++ [Value.int .u8 (97 + l)])) (hl : 0 ≤ l ∧ l < 6) : Own w B e v ((txb (l :: t).reverse).map fun b => Value.int .u8 (b.toNat : Int)) := by
  have e1 : (txb (l :: t).reverse).map (fun b => Value.int .u8 (b.toNat : Int)) = (txb t.reverse).map (fun b => Value.int .u8 (b.toNat : Int)) ++ [Value.int .u8 (97 + l)] := by
    have := u8_of (n := 97 + l) (by omega)
    simp only [txb, List.reverse_cons, List.map_append, List.map_cons, List.map_nil, this]
  rw [e1]; exact h
section
variable {f : Int → Int → Int} {s : Int} {L : List Int} {G : Int → Bool}
def wmid (f : Int → Int → Int) (s : Int) (L : List Int) (i : Nat) (u : List Int) (k : Nat) : List (List Int) := wround f s u (bfsw f s L i) (L.take k)
theorem wmid_succ {i : Nat} {u : List Int} {k : Nat} (hk : k < L.length) : wmid f s L i u (k + 1) = wadd f s (wmid f s L i u k) (u ++ [L.getD k 0]) := by
  unfold wmid wround
  rw [take_snoc 0 hk, List.foldl_append]
  rfl
theorem wmid_done {i : Nat} {u : List Int} {k : Nat} (h : L.length ≤ k) (hu : (bfsw f s L i)[i]? = some u) : wmid f s L i u k = bfsw f s L (i + 1) := by
  rw [bfsw, hu]
  unfold wmid
  rw [List.take_of_length_le h]
theorem wmid_more (i : Nat) (u : List Int) (k : Nat) : bfsw f s L i <+: wmid f s L i u k := wround_prefix _ _ _
theorem wmid_last {i : Nat} {u : List Int} {k : Nat} (hu : (bfsw f s L i)[i]? = some u) : wmid f s L i u k <+: bfsw f s L (i + 1) := by
  rcases Nat.lt_or_ge k L.length with h | h
  · rw [← wmid_done (k := L.length) (Nat.le_refl _) hu]
    unfold wmid wround
    have e : L.take L.length = L.take k ++ L.drop k := by rw [List.take_length, List.take_append_drop]
    rw [e, List.foldl_append]
    exact wround_prefix (f := f) (s := s) u (L.drop k) _
  · rw [wmid_done h hu]; exact List.prefix_refl _
theorem bfsw_more {i j : Nat} (h : i ≤ j) : bfsw f s L i <+: bfsw f s L j := by
  induction j with
  | zero => obtain rfl : i = 0 := by omega
            exact List.prefix_refl _
  | succ j ih =>
    rcases Nat.lt_or_ge i (j + 1) with h1 | h1
    · exact (ih (by omega)).trans (bfsw_prefix1 j)
    · obtain rfl : i = j + 1 := by omega
      exact List.prefix_refl _
theorem wadd_T {ws : List (List Int)} {v : List Int} (h : nodeOf f s v ∈ ws.map (nodeOf f s)) : wadd f s ws v = ws := if_pos h
theorem wadd_F {ws : List (List Int)} {v : List Int} (h : nodeOf f s v ∉ ws.map (nodeOf f s)) : wadd f s ws v = ws ++ [v] := if_neg h
theorem first_found {i : Nat} {u : List Int} {k : Nat} (hu : (bfsw f s L i)[i]? = some u) (hi : i + 1 ≤ 200) (hk : k < L.length) (hG : ∀ v ∈ wmid f s L i u k, G (nodeOf f s v) = false) (hn : nodeOf f s (u ++ [L.getD k 0]) ∉ (wmid f s L i u k).map (nodeOf f s)) (hg : G (nodeOf f s (u ++ [L.getD k 0])) = true) :
    firstOf f s L G = some (u ++ [L.getD k 0]) := by
  have h1 := wmid_last (k := k + 1) hu
  rw [wmid_succ hk, wadd_F hn] at h1
  obtain ⟨t, ht⟩ := h1.trans (bfsw_more (f := f) (s := s) (L := L) (i := i + 1) (j := many 0) (by rw [many_eq]; exact hi))
  unfold firstOf ordw
  rw [← ht, List.append_assoc, List.find?_append, List.find?_eq_none.2 (fun v hv => by rw [hG v hv]; decide), Option.none_or, List.singleton_append]
  exact List.find?_cons_of_pos (p := fun w => G (nodeOf f s w)) hg
theorem first_missed {i : Nat} (hl : (bfsw f s L i).length ≤ i) (hi : i ≤ 200) (hG : ∀ v ∈ bfsw f s L i, G (nodeOf f s v) = false) : firstOf f s L G = none := by
  have e : bfsw f s L (many 0) = bfsw f s L i := by
    have h1 := bfsw_more (f := f) (s := s) (L := L) (i := i) (j := many 0) (by rw [many_eq]; exact hi)
    refine (h1.eq_of_length ?_).symm
    rw [bfsw_length, bfsw_length]
    rw [bfsw_length] at hl
    rw [bfs_stop (j := many 0) hl (by rw [many_eq]; exact hi)]
  unfold firstOf ordw
  rw [e, List.find?_eq_none.2 (fun v hv => by rw [hG v hv]; decide)]
theorem first_here (hg : G s = true) : firstOf f s L G = some [] := by
  obtain ⟨t, ht⟩ := bfsw_more (f := f) (s := s) (L := L) (i := 0) (j := many 0) (Nat.zero_le _)
  unfold firstOf ordw
  rw [← ht]
  have : bfsw f s L 0 = [[]] := rfl
  rw [this]
  simp [nodeOf, hg]
theorem bfsw_lets {i : Nat} (hL : ∀ x ∈ L, 0 ≤ x ∧ x < 6) : ∀ v ∈ bfsw f s L i, ∀ x ∈ v, 0 ≤ x ∧ x < 6 := by
  induction i with
  | zero =>
    intro v hv
    have : v = [] := by simpa [bfsw] using hv
    subst this
    intro x hx; cases hx
  | succ i ih =>
    intro v hv
    rw [bfsw] at hv
    cases h : (bfsw f s L i)[i]? with
    | none => rw [h] at hv; exact ih v hv
    | some u =>
      rw [h] at hv
      rcases wround_mem u L _ hv with h' | ⟨l, hl, rfl⟩
      · exact ih v h'
      · intro x hx
        rcases List.mem_append.1 hx with h1 | h1
        · exact ih u (List.mem_of_getElem? h) x h1
        · rw [List.mem_singleton.1 h1]; exact hL l hl
theorem wadd_miss {ws : List (List Int)} {v : List Int} (h : ∀ u ∈ ws, G (nodeOf f s u) = false) (hf : (!decide (nodeOf f s v ∈ ws.map (nodeOf f s)) && G (nodeOf f s v)) = false) : ∀ u ∈ wadd f s ws v, G (nodeOf f s u) = false := by
  intro u hu
  by_cases hm : nodeOf f s v ∈ ws.map (nodeOf f s)
  · rw [wadd_T hm] at hu; exact h u hu
  · rw [wadd_F hm] at hu
    rcases List.mem_append.1 hu with h1 | h1
    · exact h u h1
    · rw [List.mem_singleton.1 h1]
      simpa [hm] using hf
theorem bfsw_range {n : Nat} {D : Int → Prop} (h0 : D s) (hD : ∀ q, D q → ∀ x ∈ L, D (f q x)) (hn : ∀ q, D q → 0 ≤ q ∧ q < n) (i : Nat) : (bfsw f s L i).length ≤ n := by
  rw [bfsw_length]
  have h1 := nodup_len (U := (List.range n).map fun (i : Nat) => (i : Int)) (bfs_nodup (f := f) (s := s) (L := L) i) (fun q hq => inU.2 (hn q (bfs_all h0 hD i q hq)))
  simpa using h1
theorem bfsw_lenw {i j : Nat} {u : List Int} (h : (bfsw f s L i)[j]? = some u) : u.length ≤ i := by
  have hall : ∀ v ∈ bfsw f s L i, v.length ≤ i := by
    clear h
    induction i with
    | zero =>
      intro v hv
      have : v = [] := by simpa [bfsw] using hv
      subst this
      exact Nat.le_refl _
    | succ i ih =>
      intro v hv
      rw [bfsw] at hv
      cases h : (bfsw f s L i)[i]? with
      | none => rw [h] at hv; exact Nat.le_succ_of_le (ih v hv)
      | some u =>
        rw [h] at hv
        rcases wround_mem u L _ hv with h' | ⟨l, hl, rfl⟩
        · exact Nat.le_succ_of_le (ih v h')
        · have := ih u (List.mem_of_getElem? h)
          simp only [List.length_append, List.length_singleton]
          omega
  exact hall u (List.mem_of_getElem? h)
theorem nodeOf_in {D : Int → Prop} (h0 : D s) (hD : ∀ q, D q → ∀ x ∈ L, D (f q x)) : ∀ (i : Nat), ∀ v ∈ bfsw f s L i, D (nodeOf f s v) := by
  intro i v hv
  have : nodeOf f s v ∈ bfs f s L i := by rw [← bfsw_map]; exact List.mem_map.2 ⟨v, hv, rfl⟩
  exact bfs_all h0 hD i _ this
end
section maps
variable {α β : Type} [DecidableEq α] [DecidableEq β] {f : α → Int → α} {s : α} {L : List Int} {f' : β → Int → β} {g : α → β} {P : α → Prop}
omit [DecidableEq α] [DecidableEq β] in
theorem nodeOf_map (h0 : P s) (hs : ∀ q, P q → ∀ l ∈ L, P (f q l)) (hf : ∀ q, P q → ∀ l ∈ L, f' (g q) l = g (f q l)) : ∀ (v : List Int), (∀ x ∈ v, x ∈ L) → nodeOf f' (g s) v = g (nodeOf f s v) ∧ P (nodeOf f s v) := by
  intro v
  induction v generalizing s with
  | nil => intro _; exact ⟨rfl, h0⟩
  | cons x v ih =>
    intro hv
    have hx := hv x (by simp)
    have := ih (s := f s x) (hs s h0 x hx) (fun y hy => hv y (by simp [hy]))
    show nodeOf f' (f' (g s) x) v = g (nodeOf f (f s x) v) ∧ P (nodeOf f (f s x) v)
    rw [hf s h0 x hx]
    exact this
theorem wround_over (u : List Int) (hu : ∀ x ∈ u, x ∈ L) : ∀ (Ls : List Int) (ws : List (List Int)), (∀ l ∈ Ls, l ∈ L) → (∀ v ∈ ws, ∀ x ∈ v, x ∈ L) → ∀ v ∈ wround f s u ws Ls, ∀ x ∈ v, x ∈ L := by
  intro Ls ws hLs hws v hv
  rcases wround_mem u Ls ws hv with h | ⟨l, hl, rfl⟩
  · exact hws v h
  · intro x hx
    rcases List.mem_append.1 hx with h1 | h1
    · exact hu x h1
    · rw [List.mem_singleton.1 h1]; exact hLs l hl
theorem bfsw_over (i : Nat) : ∀ v ∈ bfsw f s L i, ∀ x ∈ v, x ∈ L := by
  induction i with
  | zero =>
    intro v hv
    have : v = [] := by simpa [bfsw] using hv
    subst this
    intro x hx; cases hx
  | succ i ih =>
    intro v hv
    rw [bfsw] at hv
    cases h : (bfsw f s L i)[i]? with
    | none => rw [h] at hv; exact ih v hv
    | some u => rw [h] at hv; exact wround_over u (ih u (List.mem_of_getElem? h)) L _ (fun _ h => h) ih v hv
theorem wadd_map' (hg : ∀ a b, P a → P b → g a = g b → a = b) (h0 : P s) (hs : ∀ q, P q → ∀ l ∈ L, P (f q l)) (hf : ∀ q, P q → ∀ l ∈ L, f' (g q) l = g (f q l)) {ws : List (List Int)} {v : List Int} (hws : ∀ u ∈ ws, ∀ x ∈ u, x ∈ L) (hv : ∀ x ∈ v, x ∈ L) : wadd f' (g s) ws v = wadd f s ws v := by
  have h1 := nodeOf_map h0 hs hf v hv
  have e : nodeOf f' (g s) v ∈ ws.map (nodeOf f' (g s)) ↔ nodeOf f s v ∈ ws.map (nodeOf f s) := by
    constructor
    · intro h
      obtain ⟨u, hu, he⟩ := List.mem_map.1 h
      have h2 := nodeOf_map h0 hs hf u (hws u hu)
      rw [h1.1, h2.1] at he
      exact List.mem_map.2 ⟨u, hu, hg _ _ h2.2 h1.2 he⟩
    · intro h
      obtain ⟨u, hu, he⟩ := List.mem_map.1 h
      have h2 := nodeOf_map h0 hs hf u (hws u hu)
      exact List.mem_map.2 ⟨u, hu, by rw [h1.1, h2.1, he]⟩
  unfold wadd
  by_cases h : nodeOf f s v ∈ ws.map (nodeOf f s)
  · rw [if_pos h, if_pos (e.2 h)]
  · rw [if_neg h, if_neg (fun hc => h (e.1 hc))]
theorem wround_map' (hg : ∀ a b, P a → P b → g a = g b → a = b) (h0 : P s) (hs : ∀ q, P q → ∀ l ∈ L, P (f q l)) (hf : ∀ q, P q → ∀ l ∈ L, f' (g q) l = g (f q l)) {u : List Int} (hu : ∀ x ∈ u, x ∈ L) : ∀ (Ls : List Int) (ws : List (List Int)), (∀ l ∈ Ls, l ∈ L) → (∀ v ∈ ws, ∀ x ∈ v, x ∈ L) → wround f' (g s) u ws Ls = wround f s u ws Ls
  | [], ws, _, _ => rfl
  | l :: Ls, ws, hLs, hws => by
    have hul : ∀ x ∈ u ++ [l], x ∈ L := fun x hx => by
      rcases List.mem_append.1 hx with h1 | h1
      · exact hu x h1
      · rw [List.mem_singleton.1 h1]; exact hLs l (by simp)
    have e := wadd_map' hg h0 hs hf hws hul
    show wround f' (g s) u (wadd f' (g s) ws (u ++ [l])) Ls = wround f s u (wadd f s ws (u ++ [l])) Ls
    rw [e]
    refine wround_map' hg h0 hs hf hu Ls _ (fun x hx => hLs x (by simp [hx])) (fun v hv => ?_)
    rcases wadd_mem hv with h | rfl
    · exact hws v h
    · exact hul
theorem bfsw_map' (hg : ∀ a b, P a → P b → g a = g b → a = b) (h0 : P s) (hs : ∀ q, P q → ∀ l ∈ L, P (f q l)) (hf : ∀ q, P q → ∀ l ∈ L, f' (g q) l = g (f q l)) (i : Nat) : bfsw f' (g s) L i = bfsw f s L i := by
  induction i with
  | zero => rfl
  | succ i ih =>
    rw [bfsw, bfsw, ih]
    cases h : (bfsw f s L i)[i]? with
    | none => rfl
    | some u => exact wround_map' hg h0 hs hf (bfsw_over i u (List.mem_of_getElem? h)) L _ (fun _ h => h) (bfsw_over i)
theorem firstOf_map {G : α → Bool} {G' : β → Bool} (hg : ∀ a b, P a → P b → g a = g b → a = b) (h0 : P s) (hs : ∀ q, P q → ∀ l ∈ L, P (f q l)) (hf : ∀ q, P q → ∀ l ∈ L, f' (g q) l = g (f q l)) (hG : ∀ q, P q → G' (g q) = G q) : firstOf f' (g s) L G' = firstOf f s L G := by
  unfold firstOf ordw
  rw [bfsw_map' hg h0 hs hf]
  have : ∀ (ws : List (List Int)), (∀ v ∈ ws, ∀ x ∈ v, x ∈ L) → ws.find? (fun w => G' (nodeOf f' (g s) w)) = ws.find? (fun w => G (nodeOf f s w)) := by
    intro ws
    induction ws with
    | nil => intro _; rfl
    | cons v ws ih =>
      intro h
      have h1 := nodeOf_map h0 hs hf v (h v (by simp))
      rw [List.find?_cons, List.find?_cons, h1.1, hG _ h1.2, ih (fun u hu => h u (by simp [hu]))]
  exact this _ (bfsw_over _)
end maps
def firstA (a : A) (s : Int) (G : Int → Bool) : Option (List Int) := firstOf (goA a) s (letters a.al) G
def firstAB (a b : A) (p : Int × Int) (g : Bool → Bool → Bool) : Option (List Int) := firstOf (step2 a b) p (letters a.al) fun p => g (accA a p.1) (accA b p.2)
def resW (o : Option (List Int)) : Value := .tuple #[.string (txt (o.getD [])), .bool o.isSome]
def cmp2 (a b : A) : Bool := validA a && (validA b && decide (a.al = b.al))
theorem cmp2_spec {a b : A} : cmp2 a b = true ↔ validA a = true ∧ validA b = true ∧ a.al = b.al := by simp [cmp2]
def fAcc (a : A) : Option (List Int) := if validA a = true then firstA a 0 (accA a) else none
def fAt (a : A) (q : Int) : Option (List Int) := if validA a = true then firstA a 0 (fun x => decide (x = q)) else none
def fTwo (a b : A) (g : Bool → Bool → Bool) : Option (List Int) := if cmp2 a b = true then firstAB a b (0, 0) g else none
def fDif (a b : A) : Option (List Int) := fTwo a b fun x y => x != y
def fOut (a b : A) : Option (List Int) := fTwo a b fun x y => x && !y
def sameL (a b : A) : Bool := cmp2 a b && !(fDif a b).isSome
def withinL (a b : A) : Bool := cmp2 a b && !(fOut a b).isSome
theorem firstAB_enc {a b : A} {p : Int × Int} {g : Bool → Bool → Bool} (hv : validA a = true) (hv' : validA b = true) (hp : In2 a b p) : firstOf (fP a b) (enc2 b p) (letters a.al) (fun q => g (accA a (q / (b.next.length : Int))) (accA b (q % (b.next.length : Int)))) = firstAB a b p g :=
  firstOf_map (P := In2 a b) (g := enc2 b) (enc_inj) hp (fun q hq l hl => in2 hv hv' hq ⟨(mem_letters hl).1, (mem_letters hl).2.1⟩) (fun q hq l _ => fP_enc hq l) (fun q hq => by rw [(enc_div hq).1, (enc_div hq).2])
end Go.Proofs.Ytoboklelbbgcnaa
