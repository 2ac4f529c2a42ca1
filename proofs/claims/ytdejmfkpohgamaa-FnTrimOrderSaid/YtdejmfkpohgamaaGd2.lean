/-
  The texts of this proof, joined (wip/merge.py): the calculus of slots, plain mathematics, walks.
-/
import Derived.Test.YtdejmfkpohgamaaGd1
set_option linter.unusedSimpArgs false
set_option linter.unusedVariables false
namespace Go.Proofs.Ytdejmfkpohgamaa
open Go.RowKit
section
variable {P : Program} {N : Nat} {ops : Array Oper} {Q : Exit → Act → World → Prop} {rest : List Oper} {l : Slots} {w : World}
variable {d : Nat} {ty : TypeId} {pos : String} {after : Array Edge} {g : Option (Nat × Bool)}
theorem Still.makeFunc {k : FuncId} {xs : List Operand} {vs : List Value} (hx : evs l xs = some vs) : Still P N l ⟨some d, .makeFunc (.func k) #[] xs.toArray, ty, pos, after, g⟩ (.func (.func k) #[] vs.toArray) w := fun a ha => by
  have : xs.toArray.map a.eval = vs.toArray := by rw [List.map_toArray, ha.evs hx]
  simp [execOp, Instr.makeFunc, this, ha.evs hx]
theorem Sq.makeFunc {k : FuncId} {xs : List Operand} {vs : List Value} (hg : On ops l g) (hN : Nat.blt d N = true) (hx : evs l xs = some vs) (h : Sq P N ops Q rest ((d, .func (.func k) #[] vs.toArray) :: l) w) :
    Sq P N ops Q (⟨some d, .makeFunc (.func k) #[] xs.toArray, ty, pos, after, g⟩ :: rest) l w := .val hg rfl hN (Still.makeFunc hx) h
theorem Sq.callC {f : FuncId} {fn : Func} {x : Operand} {xs : List Operand} {ats : Array TypeId} {vs cs : List Value} {R : Value → World → Prop} (hf : Fn P f fn) (hg : On ops l g) (hN : Nat.blt d N = true)
    (hc : ev l x = some (.func (.func f) #[] cs.toArray)) (hx : evs l xs = some vs) (hr : Ret P f (vs ++ cs).toArray w R) (h : ∀ v w', R v w' → Sq P N ops Q rest ((d, v) :: l) w') :
    Sq P N ops Q (⟨some d, .call ⟨.value x, xs.toArray, ats⟩, ty, pos, after, g⟩ :: rest) l w := by
  intro a ha
  refine wpList_step fun K hK => ?_
  rw [if_pos (hg.wanted ha)]
  unfold Oper.wp
  have e1 : xs.toArray.map a.eval = vs.toArray := by rw [List.map_toArray, ha.evs hx]
  have e : execOp a.eval ⟨some d, .call ⟨.value x, xs.toArray, ats⟩, ty, pos, after, g⟩ = callFunc f (vs ++ cs).toArray := by
    show (do let d ← resolve a.eval ⟨.value x, xs.toArray, ats⟩ ty; invoke d.target d.args) = _
    unfold resolve
    simp only [e1, ha.ev hc, Deferred.ofValue]
    show invoke (.fn (.func f) cs.toArray) (#[] ++ vs.toArray) = _
    simp [invoke]
  rw [e, run_callFunc hf, Oper.upon_enter]
  refine Calls.mono hr fun e w' he => ?_
  obtain ⟨v, rfl, hv⟩ := he
  exact hK _ _ (h v w' hv _ (ha.put hN))
def MapN {κ : Type} (enc : κ → Value) (w : World) (b : Nat) (xs : List κ) : Prop := ∃ es clock, w.heap[b]? = some (.map es clock) ∧ es.toList.map (fun e => (e.key, e.val)) = xs.zipIdx.map fun p => (enc p.1, Value.int .i64 (p.2 : Int))
variable {κ : Type} {enc : κ → Value} {w' : World} {b : Nat} {xs : List κ}
theorem MapN.lt (h : MapN enc w b xs) : b < w.heap.size := by
  obtain ⟨es, c, hb, _⟩ := h
  exact (Array.getElem?_eq_some_iff.1 hb).1
theorem MapN.ext (h : MapN enc w b xs) (x : Ext w w') : MapN enc w' b xs := by
  obtain ⟨es, c, hb, hx⟩ := h
  exact ⟨es, c, x.heap hb, hx⟩
theorem MapN.grown {r : Option Nat} (h : MapN enc w b xs) (hg : w.grownBy w' r) (hr : r ≠ some b) : MapN enc w' b xs := by
  obtain ⟨es, c, hb, hx⟩ := h
  exact ⟨es, c, by rw [hg.block b (Array.getElem?_eq_some_iff.1 hb).1 (fun e => hr e.symm)]; exact hb, hx⟩
theorem MapN.stored {gb : Nat} {t : TypeId} {cs : List Value} (h : MapN enc w b xs) (hg : w.grownBy w' (some gb)) (hb : Blk w gb t cs) : MapN enc w' b xs := by
  refine h.grown hg (fun e => ?_)
  injection e with e
  subst e
  obtain ⟨es, c, hb', _⟩ := h
  simp only [Blk] at hb
  rw [hb] at hb'
  cases hb'
theorem MapN.owned {B : Nat} {t : TypeId} {u : Value} {us : List Value} (h : MapN enc w b xs) (ho : Own w B t u us) (hg : w.grownBy w' u.ownBlock) : MapN enc w' b xs := by
  rcases ho.cases with ⟨rfl, rfl⟩ | ⟨gb, cap, cs, rfl, hg', hb, _⟩
  · exact h.ext (Ext.of_grown hg)
  · exact h.stored (gb := gb) hg hb
theorem Blk.mapped {bb : Nat} {t : TypeId} {cs : List Value} (h : Blk w bb t cs) (hm : MapN enc w b xs) (hg : w.grownBy w' (some b)) : Blk w' bb t cs := by
  refine h.grown hg (fun e => ?_)
  injection e with e
  subst e
  obtain ⟨es, c, hb', _⟩ := hm
  simp only [Blk] at h
  rw [h] at hb'
  cases hb'
theorem Row.mapped {e : TypeId} {v : Value} {vs : List Value} (h : Row w e v vs) (hm : MapN enc w b xs) (hg : w.grownBy w' (some b)) : Row w' e v vs := by
  rcases h with h | ⟨b', o, c, cur, fr, hv, hb, hx⟩
  · exact .inl h
  · refine .inr ⟨b', o, c, cur, fr, hv, ?_, hx⟩
    rw [hg.block b' (lt_of_block hb) (fun h => ?_)]
    · exact hb
    · injection h with h
      subst h
      obtain ⟨es, cc, hb', _⟩ := hm
      rw [hb] at hb'
      cases hb'
theorem Own.mapped {B : Nat} {e : TypeId} {v : Value} {vs : List Value} (h : Own w B e v vs) (hm : MapN enc w b xs) (hg : w.grownBy w' (some b)) : Own w' B e v vs := by
  rcases h.cases with ⟨rfl, rfl⟩ | ⟨g', cap, cs, rfl, hg', hb, h3, h4, h5, h6⟩
  · exact Own.nil _ _ _
  · exact Own.mk hg' (hb.mapped hm hg) h3 h4 h5 h6
theorem OwnRows.mapped {B U : Nat} {e e' : TypeId} {v : Value} {xss : List (List Int)} (h : OwnRows w B U e e' v xss) (hm : MapN enc w b xs) (hg : w.grownBy w' (some b)) : OwnRows w' B U e e' v xss := by
  obtain ⟨rs, h1, h2, h3, h4⟩ := h
  exact ⟨rs, h1.mapped hm hg, h2, fun i r hr => ⟨(h3 i r hr).1.mapped hm hg, (h3 i r hr).2⟩, h4⟩
theorem Ext.mapped {w1 : World} (h : Ext w1 w) (hg : w.grownBy w' (some b)) (hB : w1.heap.size ≤ b) : Ext w1 w' := h.grown hg fun k hk => by injection hk with hk; omega
theorem Sq.makeMap {t : TypeId} (enc : κ → Value) (hg : On ops l g) (hN : Nat.blt d N = true) (h : ∀ b w', Ext w w' → MapN enc w' b ([] : List κ) → w.heap.size ≤ b → Sq P N ops Q rest ((d, .map (some b)) :: l) w') :
    Sq P N ops Q (⟨some d, .makeMap t none, ty, pos, after, g⟩ :: rest) l w :=
  .val (w' := w.alloc (.map #[] 0)) hg rfl hN (fun a ha => by simp [execOp, Instr.makeMap, run_makeMap]) (h _ _ (Ext.alloc _ _) ⟨#[], 0, heap_alloc_new w _, rfl⟩ (Nat.le_refl _))
structure KeyT [DecidableEq κ] (P : Program) (t : TypeId) (enc : κ → Value) : Prop where
  types : ∃ kt et kd, P.underlying t = some (.map kt et) ∧ P.underlying kt = some kd ∧ (∀ x y, Instr.sameNow kd (enc x) (enc y) = some (decide (x = y))) ∧ (∀ w, (zeroValue et).run P w = .ok (.int .i64 0) w) ∧ ∀ x, MapKept.IsKey kd (enc x)
variable [DecidableEq κ]
theorem findNow_num {kd : TypeDesc} (hk : ∀ x y, Instr.sameNow kd (enc x) (enc y) = some (decide (x = y))) (k : κ) : ∀ (es : List MapEntry) (xs : List κ) (j s : Nat), es.map (fun e => (e.key, e.val)) = (xs.zipIdx s).map (fun p => (enc p.1, Value.int .i64 (p.2 : Int))) →
    Instr.findNow kd (enc k) es j = some (if k ∈ xs then some (j + xs.idxOf k, .int .i64 ((s + xs.idxOf k : Nat) : Int)) else none)
  | [], xs, j, s, h => by
    have : xs = [] := by cases xs with | nil => rfl | cons x r => simp at h
    subst this
    simp [Instr.findNow]
  | e :: es, xs, j, s, h => by
    cases xs with
    | nil => simp at h
    | cons x r =>
      simp only [List.map_cons, List.zipIdx_cons, List.cons.injEq, Prod.mk.injEq] at h
      obtain ⟨⟨h1, h2⟩, h3⟩ := h
      have ih := findNow_num hk k es r (j + 1) (s + 1) h3
      unfold Instr.findNow
      rw [h1, hk]
      by_cases hx : k = x
      · subst hx
        simp [h2]
      · have hx' : (x == k) = false := by simpa using fun h => hx h.symm
        rw [decide_eq_false hx]
        show Instr.findNow kd (enc k) es (j + 1) = _
        rw [ih]
        by_cases hm : k ∈ r
        · rw [if_pos hm, if_pos (List.mem_cons_of_mem _ hm), List.idxOf_cons, hx']
          simp only [cond_false]
          congr 3
          · omega
          · congr 1; omega
        · rw [if_neg hm, if_neg (by simp [hx, hm])]
theorem findKey_num {kt : TypeId} {kd : TypeDesc} (hd : P.underlying kt = some kd) (hk : ∀ x y, Instr.sameNow kd (enc x) (enc y) = some (decide (x = y))) (k : κ) {es : Array MapEntry} (h : es.toList.map (fun e => (e.key, e.val)) = xs.zipIdx.map (fun p => (enc p.1, Value.int .i64 (p.2 : Int)))) :
    (Instr.findKey kt (enc k) es.toList).run P w = .ok (if k ∈ xs then some (xs.idxOf k, .int .i64 (xs.idxOf k : Int)) else none) w := by
  have := findNow_num hk k es.toList xs 0 0 h
  simp only [Nat.zero_add] at this
  simp [Instr.findKey, run_underlying hd, this]
theorem Still.lookup {t : TypeId} {m x : Operand} {k : κ} (ht : KeyT P t enc) (hm : MapN enc w b xs) (hx : ev l m = some (.map (some b))) (hk : ev l x = some (enc k)) :
    Still P N l ⟨some d, .lookup t m x true, ty, pos, after, g⟩ (.tuple #[.int .i64 (if k ∈ xs then (xs.idxOf k : Int) else 0), .bool (decide (k ∈ xs))]) w := fun a ha => by
  obtain ⟨kt, et, kd, h1, h2, h3, h4, h5⟩ := ht.types
  obtain ⟨es, c, hb, hes⟩ := hm
  have hf := findKey_num (P := P) (w := w) h2 h3 k hes
  by_cases hin : k ∈ xs
  · rw [if_pos hin] at hf
    simp [execOp, Instr.lookup, ha.ev hx, ha.ev hk, run_underlying h1, MapKept.run_getObj_map hb, MapKept.run_checkKey h2 (h5 k), hf, hin, Result.andThen]
  · rw [if_neg hin] at hf
    simp [execOp, Instr.lookup, ha.ev hx, ha.ev hk, run_underlying h1, MapKept.run_getObj_map hb, MapKept.run_checkKey h2 (h5 k), hf, hin, h4, Result.andThen]
theorem Sq.lookup {t : TypeId} {m x : Operand} {k : κ} (ht : KeyT P t enc) (hm : MapN enc w b xs) (hg : On ops l g) (hN : Nat.blt d N = true) (hx : ev l m = some (.map (some b))) (hk : ev l x = some (enc k))
    (h : Sq P N ops Q rest ((d, .tuple #[.int .i64 (if k ∈ xs then (xs.idxOf k : Int) else 0), .bool (decide (k ∈ xs))]) :: l) w) : Sq P N ops Q (⟨some d, .lookup t m x true, ty, pos, after, g⟩ :: rest) l w := .val hg rfl hN (Still.lookup ht hm hx hk) h
theorem Sq.mapUpdate {t : TypeId} {m x y : Operand} {k : κ} {n : Int} (ht : KeyT P t enc) (hm : MapN enc w b xs) (hg : On ops l g) (hx : ev l m = some (.map (some b))) (hk : ev l x = some (enc k)) (hy : ev l y = some (.int .i64 n)) (hn : n = xs.length) (hin : k ∉ xs)
    (h : ∀ w', w.grownBy w' (some b) → MapN enc w' b (xs ++ [k]) → Sq P N ops Q rest l w') : Sq P N ops Q (⟨none, .mapUpdate t m x y, ty, pos, after, g⟩ :: rest) l w := by
  obtain ⟨kt, et, kd, h1, h2, h3, h4, h5⟩ := ht.types
  obtain ⟨es, c, hb, hes⟩ := hm
  have hf := findKey_num (P := P) (w := w) h2 h3 k hes
  rw [if_neg hin] at hf
  have hs := MapKept.heap_set (o' := .map (es.push { key := enc k, val := .int .i64 n, born := c }) (c + 1)) hb
  refine .unit (w' := { w with heap := w.heap.setIfInBounds b (.map (es.push { key := enc k, val := .int .i64 n, born := c }) (c + 1)) }) hg rfl (fun a ha => ?_) (h _ ⟨rfl, rfl, rfl, by simp, fun j _ hne => hs.2 j (fun e => hne (congrArg some e))⟩ ⟨_, _, hs.1, ?_⟩)
  · simp [execOp, Instr.mapUpdate, ha.ev hx, ha.ev hk, ha.ev hy, run_underlying h1, MapKept.run_getObj_map hb, MapKept.run_checkKey h2 (h5 k), hf, MapKept.run_setObj_map _ hb, Result.andThen]
  · rw [Array.toList_push, List.map_append, hes, List.zipIdx_append, List.map_append, hn]
    simp
def Apart (v u : Value) : Prop := ∀ k, v.ownBlock = some k → u.ownBlock ≠ some k
theorem Apart.symm {v u : Value} (h : Apart v u) : Apart u v := fun k hk hc => h k hc hk
theorem Apart.nil (u : Value) : Apart (.slice none 0 0) u := fun k hk => by cases hk
theorem Apart.grow {v v' u : Value} {B : Nat} {e : TypeId} {us : List Value} (h : Apart v u) (ho : Own w B e u us) (hf : ∀ k, v'.ownBlock = some k → v.ownBlock = some k ∨ w.heap.size ≤ k) : Apart v' u := fun k hk hc => by
  rcases hf k hk with h1 | h1
  · exact h k h1 hc
  · have := (ho.lt k hc).2; omega
theorem Own.other {B : Nat} {e : TypeId} {v u : Value} {vs : List Value} (h : Own w B e v vs) (hg : w.grownBy w' u.ownBlock) (ha : Apart u v) : Own w' B e v vs := h.grown hg fun k hk hc => ha k hc hk
theorem fresh_of {B n m size c : Nat} {t e : TypeId} {i : TypeInfo} {z : Value} {v v' : Value} {xs news : List Value} {ad : Addr} {w'' : World} (ht : P.underlying t = some (.slice e)) (hi : P.info? e = some i) (hz : i.zero = some z) (hsize : i.size = size)
    (hown : w.ownsRow B e size v n xs) (hl : news.length = m * size) (hnews : ∀ j u, news[j]? = some u → w.cell? (ad.add j) = some u) (h1 : ∀ u ∈ news, u.oneCell' = true) (h63 : n + m ≤ maxLen) (hbytes : (n + m) * i.bytes ≤ 140737488355328) (hm : 0 < m)
    (hr : (Builtin.append_ #[t, t] ty #[v, .slice (some ad) m c]).run P w = .ok v' w'') : ∀ k, v'.ownBlock = some k → v.ownBlock = some k ∨ w.heap.size ≤ k := by
  subst hsize
  have h63' : n + m ≤ 9223372036854775807 := by simp only [maxLen] at h63; omega
  intro k hk
  rcases hown.2 with ⟨rfl, rfl⟩ | ⟨gb, cap, cur, rfl, hbg, hgg, hnc, hcm, hcs, htake⟩
  · have e2 := run_append_nil (P := P) w t ty e i z ht hi hz ad m c news hl hnews (by omega) (by omega) (Nat.le_trans (by simpa using hbytes) (by decide : 140737488355328 ≤ 281474976710656))
    rw [e2] at hr
    injection hr with hv _
    subst hv
    simp [Value.ownBlock] at hk
    omega
  · by_cases hroom : n + m ≤ cap
    · have hfit : n * i.size + news.length ≤ cur.size := by rw [hl, hcs, ← Nat.add_mul]; exact Nat.mul_le_mul_right _ hroom
      have e2 := run_append_room (P := P) w t ty e i ht hi gb n cap cur hgg ad m c news hl hnews h1 hroom hfit
      rw [e2] at hr
      injection hr with hv _
      subst hv
      exact .inl hk
    · have holds : ∀ j u, xs[j]? = some u → w.cell? ((⟨gb, 0, none⟩ : Addr).add j) = some u := hown.cells (g := gb) rfl
      have e2 := run_append_grow (P := P) w t ty e i z ht hi hz ⟨gb, 0, none⟩ n cap xs hown.1 holds ad m c news hl hnews (by omega) (by omega) (growslice_fits (by omega) hbytes)
      rw [e2] at hr
      injection hr with hv _
      subst hv
      simp [Value.ownBlock] at hk
      omega
end
end Go.Proofs.Ytdejmfkpohgamaa
set_option linter.unusedSimpArgs false
set_option linter.unusedVariables false
namespace Go.Proofs.Ytdejmfkpohgamaa
open Go.RowKit
structure SlW (P : Program) (t e : TypeId) (z : Value) (n : Nat) : Prop where
  und : P.underlying t = some (.slice e)
  info : ∃ i, P.info? e = some i ∧ i.zero = some z ∧ i.size = n ∧ i.bytes ≤ 1024
  cells : z.cells.size = n
  pos : 0 < n
theorem SlW.elem {P : Program} {t e : TypeId} {z : Value} {n : Nat} (h : SlW P t e z n) : P.elem t = e := by simp [Program.elem, h.und]
theorem SlW.sizeOf {P : Program} {t e : TypeId} {z : Value} {n : Nat} (h : SlW P t e z n) (w : World) : (sizeOf e).run P w = .ok n w := by
  obtain ⟨i, hi, _, hs, _⟩ := h.info
  simp [Go.sizeOf, typeInfo, hi, hs]
theorem SlW.of {P : Program} {t e : TypeId} {z : Value} (h : SlT P t e z) : SlW P t e z 1 := by
  obtain ⟨i, h1, h2, h3, h4⟩ := h.info
  refine ⟨h.und, ⟨i, h1, h2, h3, by omega⟩, ?_, by decide⟩
  have := h.one
  cases z <;> simp_all [Value.cells, Value.oneCell']
def Wid (w : World) (B : Nat) (e : TypeId) (n : Nat) (v : Value) (rows : List (List Value)) : Prop :=
  (∀ r ∈ rows, r.length = n ∧ ∀ u ∈ r, u.oneCell' = true) ∧ w.ownsRow B e n v rows.length rows.flatten
theorem flat_len {n : Nat} : ∀ {rows : List (List Value)}, (∀ r ∈ rows, r.length = n) → rows.flatten.length = rows.length * n
  | [], _ => by simp
  | r :: rows, h => by
    rw [List.flatten_cons, List.length_append, h r (by simp), flat_len (fun q hq => h q (by simp [hq])), List.length_cons, Nat.add_mul]
    omega
theorem flat_at {n : Nat} : ∀ {rows : List (List Value)} {i j : Nat}, (∀ r ∈ rows, r.length = n) → i < rows.length → j < n → rows.flatten[i * n + j]? = (rows.getD i [])[j]?
  | r :: rows, 0, j, h, _, hj => by
    rw [List.flatten_cons, Nat.zero_mul, Nat.zero_add, List.getElem?_append_left (by rw [h r (by simp)]; exact hj)]; rfl
  | r :: rows, i + 1, j, h, hi, hj => by
    have hr := h r (by simp)
    rw [List.flatten_cons, List.getElem?_append_right (by rw [hr, Nat.add_mul]; omega), hr, show (i + 1) * n + j - n = i * n + j by rw [Nat.add_mul]; omega]
    exact flat_at (fun q hq => h q (by simp [hq])) (by simpa using hi) hj
section
variable {w w' : World} {B n : Nat} {e : TypeId} {v : Value} {rows : List (List Value)}
theorem Wid.nil (w : World) (B : Nat) (e : TypeId) (n : Nat) : Wid w B e n (.slice none 0 0) [] := ⟨by simp, World.ownsRow_nil w B e n⟩
theorem Wid.cases (h : Wid w B e n v rows) : (v = .slice none 0 0 ∧ rows = []) ∨ ∃ g cap cs, v = .slice (some ⟨g, 0, none⟩) rows.length cap ∧ B ≤ g ∧ Blk w g e cs ∧ rows.length ≤ cap ∧ cap ≤ maxLen ∧ cs.length = cap * n ∧ cs.take (rows.length * n) = rows.flatten := by
  rcases h.2.2 with ⟨h1, h2⟩ | ⟨g, cap, cur, h1, h2, h3, h4, h5, h6, h7⟩
  · exact .inl ⟨h1, List.eq_nil_of_length_eq_zero h2⟩
  · exact .inr ⟨g, cap, cur.toList, h1, h2, by simpa [Blk] using h3, h4, h5, by simpa using h6, h7⟩
theorem Wid.mk' {g cap : Nat} {cs : List Value} (hr : ∀ r ∈ rows, r.length = n ∧ ∀ u ∈ r, u.oneCell' = true) (h2 : B ≤ g) (h3 : Blk w g e cs) (h4 : rows.length ≤ cap) (h5 : cap ≤ maxLen) (h6 : cs.length = cap * n) (h7 : cs.take (rows.length * n) = rows.flatten) : Wid w B e n (.slice (some ⟨g, 0, none⟩) rows.length cap) rows :=
  ⟨hr, flat_len (fun r h => (hr r h).1), .inr ⟨g, cap, cs.toArray, rfl, h2, h3, h4, h5, by simpa using h6, by simpa using h7⟩⟩
theorem Wid.ext (h : Wid w B e n v rows) (x : Ext w w') : Wid w' B e n v rows := by
  rcases h.cases with ⟨rfl, rfl⟩ | ⟨g, cap, cs, rfl, h2, h3, h4, h5, h6, h7⟩
  · exact Wid.nil _ _ _ _
  · exact Wid.mk' h.1 h2 (h3.ext x) h4 h5 h6 h7
theorem Wid.mono {B' : Nat} (h : Wid w B e n v rows) (hB : B' ≤ B) : Wid w B' e n v rows := by
  rcases h.cases with ⟨rfl, rfl⟩ | ⟨g, cap, cs, rfl, h2, h3, h4, h5, h6, h7⟩
  · exact Wid.nil _ _ _ _
  · exact Wid.mk' h.1 (Nat.le_trans hB h2) h3 h4 h5 h6 h7
theorem Wid.lt (h : Wid w B e n v rows) : ∀ k, v.ownBlock = some k → B ≤ k ∧ k < w.heap.size := by
  rcases h.cases with ⟨rfl, rfl⟩ | ⟨g, cap, cs, rfl, h2, h3, h4, h5, h6, h7⟩
  · intro k hk; cases hk
  · intro k hk
    simp [Value.ownBlock] at hk
    subst hk
    exact ⟨h2, h3.lt⟩
theorem Wid.grown {r : Option Nat} (h : Wid w B e n v rows) (hg : w.grownBy w' r) (hne : ∀ k, v.ownBlock = some k → r ≠ some k) : Wid w' B e n v rows := by
  rcases h.cases with ⟨rfl, rfl⟩ | ⟨g, cap, cs, rfl, h2, h3, h4, h5, h6, h7⟩
  · exact Wid.nil _ _ _ _
  · exact Wid.mk' h.1 h2 (h3.grown hg (hne g rfl)) h4 h5 h6 h7
theorem Wid.stored {g : Nat} {t : TypeId} {cs : List Value} (h : Wid w B e n v rows) (hg : w.grownBy w' (some g)) (hb : Blk w g t cs) (hne : t ≠ e) : Wid w' B e n v rows := by
  refine h.grown hg fun k hk hc => ?_
  injection hc with hc
  subst hc
  rcases h.cases with ⟨rfl, rfl⟩ | ⟨g', cap, cs', rfl, h2, h3, _⟩
  · cases hk
  · simp [Value.ownBlock] at hk
    subst hk
    exact hb.ne h3 hne rfl
theorem Wid.owned {B' : Nat} {t : TypeId} {u : Value} {us : List Value} (h : Wid w B e n v rows) (ho : Own w B' t u us) (hg : w.grownBy w' u.ownBlock) (hne : t ≠ e) : Wid w' B e n v rows := by
  rcases ho.cases with ⟨rfl, rfl⟩ | ⟨g, cap, cs, rfl, hg', hb, _⟩
  · exact h.ext (Ext.of_grown hg)
  · exact h.stored (g := g) hg hb hne
theorem Wid.mapped {κ : Type} {enc : κ → Value} {b : Nat} {xs : List κ} (h : Wid w B e n v rows) (hm : MapN enc w b xs) (hg : w.grownBy w' (some b)) : Wid w' B e n v rows := by
  rcases h.cases with ⟨rfl, rfl⟩ | ⟨g, cap, cs, rfl, h2, h3, h4, h5, h6, h7⟩
  · exact Wid.nil _ _ _ _
  · exact Wid.mk' h.1 h2 (h3.mapped hm hg) h4 h5 h6 h7
variable (ho : Wid w B e n v rows) (hg : w.grownBy w' v.ownBlock)
theorem Row.wid {e' : TypeId} {u : Value} {us : List Value} (h : Row w e' u us) (ho : Wid w B e n v rows) (hg : w.grownBy w' v.ownBlock) (hne : e ≠ e') : Row w' e' u us := by
  rcases ho.cases with ⟨rfl, rfl⟩ | ⟨g, cap, cs, rfl, h2, hb, _⟩
  · exact h.ext (Ext.of_grown hg)
  · exact h.grown (g := g) hg hb hne
theorem Own.wid {B' : Nat} {e' : TypeId} {u : Value} {us : List Value} (h : Own w B' e' u us) (ho : Wid w B e n v rows) (hg : w.grownBy w' v.ownBlock) (hne : e ≠ e') : Own w' B' e' u us := by
  rcases ho.cases with ⟨rfl, rfl⟩ | ⟨g, cap, cs, rfl, h2, hb, _⟩
  · exact h.ext (Ext.of_grown hg)
  · exact h.stored (g := g) hg hb hne
theorem OwnRows.wid {B' U : Nat} {e' e'' : TypeId} {u : Value} {xss : List (List Int)} (h : OwnRows w B' U e' e'' u xss) (ho : Wid w B e n v rows) (hg : w.grownBy w' v.ownBlock) (hne : e ≠ e') (hne' : e ≠ e'') : OwnRows w' B' U e' e'' u xss := by
  rcases ho.cases with ⟨rfl, rfl⟩ | ⟨g, cap, cs, rfl, h2, hb, _⟩
  · exact h.ext (Ext.of_grown hg)
  · exact h.stored (g := g) hg hb hne hne'
theorem Blk.wid {b : Nat} {e' : TypeId} {cs : List Value} (h : Blk w b e' cs) (ho : Wid w B e n v rows) (hg : w.grownBy w' v.ownBlock) (hne : e ≠ e') : Blk w' b e' cs := by
  rcases ho.cases with ⟨rfl, rfl⟩ | ⟨g, cap, cs', rfl, h2, hb, _⟩
  · exact h.ext (Ext.of_grown hg)
  · exact h.grown hg (fun e2 => hb.ne h hne (by simpa [Value.ownBlock] using e2))
theorem Wid.wid {B' n' : Nat} {e' : TypeId} {u : Value} {rows' : List (List Value)} (h : Wid w B' e' n' u rows') (ho : Wid w B e n v rows) (hg : w.grownBy w' v.ownBlock) (hne : e ≠ e') : Wid w' B' e' n' u rows' := by
  rcases ho.cases with ⟨rfl, rfl⟩ | ⟨g, cap, cs, rfl, h2, hb, _⟩
  · exact h.ext (Ext.of_grown hg)
  · exact h.stored (g := g) hg hb hne
theorem MapN.wid {κ : Type} {enc : κ → Value} {b : Nat} {xs : List κ} (h : MapN enc w b xs) (ho : Wid w B e n v rows) (hg : w.grownBy w' v.ownBlock) : MapN enc w' b xs := by
  rcases ho.cases with ⟨rfl, rfl⟩ | ⟨g, cap, cs, rfl, h2, hb, _⟩
  · exact h.ext (Ext.of_grown hg)
  · exact h.stored (gb := g) hg hb
theorem Ext.wid {a : World} (h : Ext a w) (ho : Wid w B e n v rows) (hg : w.grownBy w' v.ownBlock) (hB : a.heap.size ≤ B) : Ext a w' := h.grown hg fun k hk => Nat.le_trans hB (ho.lt k hk).1
theorem Wid.at (h : Wid w B e n v rows) {i : Int} (h0 : 0 ≤ i) (h1 : i < rows.length) : ∃ g c, v = .slice (some ⟨g, 0, none⟩) rows.length c ∧ B ≤ g ∧ g < w.heap.size ∧ ∀ j, j < n → w.cell? ⟨g, i.toNat * n + j, none⟩ = (rows.getD i.toNat [])[j]? := by
  rcases h.cases with ⟨rfl, rfl⟩ | ⟨g, cap, cs, rfl, h2, h3, h4, h5, h6, h7⟩
  · simp at h1; omega
  · refine ⟨g, cap, rfl, h2, h3.lt, fun j hj => ?_⟩
    have hlt : i.toNat < rows.length := by omega
    rw [h3.cell, ← flat_at (fun r hr => (h.1 r hr).1) hlt hj, ← h7, List.getElem?_take, if_pos]
    have : (i.toNat + 1) * n ≤ rows.length * n := Nat.mul_le_mul_right _ hlt
    rw [Nat.add_mul] at this
    omega
end
section
variable {P : Program} {N : Nat} {ops : Array Oper} {Q : Exit → Act → World → Prop} {rest : List Oper} {l : Slots} {w : World}
variable {d : Nat} {ty : TypeId} {pos : String} {after : Array Edge} {g : Option (Nat × Bool)}
theorem Still.ixW {t e : TypeId} {z : Value} {n gb len c : Nat} {x ix : Operand} {k : IntKind} {i : Int} (hs : SlW P t e z n) (hx : ev l x = some (.slice (some ⟨gb, 0, none⟩) len c)) (hix : ev l ix = some (.int k i)) (hi : 0 ≤ i ∧ i < (len : Int)) :
    Still P N l ⟨some d, .indexAddr t x ix, ty, pos, after, g⟩ (.pointer (some ⟨gb, i.toNat * n, none⟩)) w := fun a ha => by
  have := run_indexAt_slice (P := P) (w := w) t ⟨gb, 0, none⟩ len c k i (by rw [hs.elem]; exact hs.und)
  rw [hs.elem, hs.sizeOf] at this
  simp [execOp, ha.ev hx, ha.ev hix, this, hi, addr_add]
theorem fold_cells (off : Nat) : ∀ (vs : List Value) (j : Nat) (zs : Array Value), off + j + vs.length ≤ zs.size →
    ((vs.zipIdx j).foldl (fun (cs : Array Value) (p : Value × Nat) => cs.setIfInBounds (off + p.2) p.1) zs).toList = zs.toList.take (off + j) ++ vs ++ zs.toList.drop (off + j + vs.length)
  | [], j, zs, h => by simp
  | v :: vs, j, zs, h => by
    simp only [List.length_cons] at h
    rw [List.zipIdx_cons, List.foldl_cons, fold_cells off vs (j + 1) _ (by simp; omega)]
    have hlt : off + j < zs.toList.length := by simp; omega
    have h3 : (zs.toList.set (off + j) v).take (off + (j + 1)) = zs.toList.take (off + j) ++ [v] := by
      rw [show off + (j + 1) = (off + j) + 1 by omega, List.take_succ_eq_append_getElem (by simpa using hlt)]
      simp [List.take_set_of_le (Nat.le_refl (off + j))]
    have h4 : (zs.toList.set (off + j) v).drop (off + (j + 1) + vs.length) = zs.toList.drop (off + j + (vs.length + 1)) := by
      rw [List.drop_set_of_lt (by omega)]
      congr 1
      omega
    simp only [Array.toList_setIfInBounds, h3, h4, List.length_cons]
    simp
theorem fill_wide {n : Nat} : ∀ (rows : List (List Value)) (k : Nat) (zs : Array Value), (∀ r ∈ rows, r.length = n) → (k + rows.length) * n ≤ zs.size →
    ∃ cs, Instr.fill (fun i => some (i * n, n)) zs ((List.range' k rows.length).zip (rows.map fun r => Value.agg r.toArray)) = some cs ∧ cs.toList = zs.toList.take (k * n) ++ rows.flatten ++ zs.toList.drop ((k + rows.length) * n)
  | [], k, zs, _, _ => ⟨zs, by simp [Instr.fill], by simp⟩
  | r :: rows, k, zs, h, hk => by
    have hr := h r (by simp)
    simp only [List.length_cons] at hk
    have e1 : (k + (rows.length + 1)) * n = k * n + n + rows.length * n := by rw [Nat.add_mul, Nat.add_mul]; omega
    have e2 : (k + 1) * n = k * n + n := by rw [Nat.add_mul]; omega
    have hf := fold_cells (k * n) r 0 zs (by omega)
    have hsz : ((r.zipIdx 0).foldl (fun (cs : Array Value) (p : Value × Nat) => cs.setIfInBounds (k * n + p.2) p.1) zs).size = zs.size := by
      rw [← Array.length_toList, hf]; simp; omega
    obtain ⟨cs, f1, f2⟩ := fill_wide rows (k + 1) _ (fun q hq => h q (by simp [hq])) (by rw [hsz, Nat.add_mul, e2]; omega)
    refine ⟨cs, ?_, ?_⟩
    · have h1 : ¬ zs.size < k * n + r.length := by omega
      simp only [List.length_cons, List.range'_succ, List.map_cons, List.zip_cons_cons, Instr.fill, Value.cells]
      simp only [List.size_toArray, hr]
      rw [if_neg (by simp; omega)]
      have e3 : (r.toArray.zipIdx.foldl (fun (cs : Array Value) (p : Value × Nat) => cs.setIfInBounds (k * n + p.2) p.1) zs) = ((r.zipIdx 0).foldl (fun (cs : Array Value) (p : Value × Nat) => cs.setIfInBounds (k * n + p.2) p.1) zs) := by simp
      exact e3 ▸ f1
    · rw [f2, hf]
      simp only [Nat.add_zero, List.flatten_cons, List.length_cons]
      have e4 : (k + 1 + rows.length) * n = k * n + n + rows.length * n := by rw [Nat.add_mul, e2]
      have t1 : (zs.toList.take (k * n) ++ r ++ zs.toList.drop (k * n + r.length)).take ((k + 1) * n) = zs.toList.take (k * n) ++ r := by
        rw [e2, List.take_append_of_le_length (by simp; omega), List.take_of_length_le (by simp; omega)]
      have t2 : (zs.toList.take (k * n) ++ r ++ zs.toList.drop (k * n + r.length)).drop ((k + 1 + rows.length) * n) = zs.toList.drop ((k + (rows.length + 1)) * n) := by
        rw [e4, e1, List.drop_append, List.drop_of_length_le (by simp; omega), List.nil_append, List.drop_drop]
        congr 1
        simp
        omega
      rw [t1, t2]
      simp
theorem Sq.litW {t e : TypeId} {z : Value} {n m : Nat} {parts : List (Nat × Operand)} {rows : List (List Value)} (hs : SlW P t e z n) (hp : parts.map (·.1) = List.range m) (hm : rows.length = m) (hn : m * n ≤ 1000) (hg : On ops l g) (hN : Nat.blt d N = true)
    (hx : evs l (parts.map (·.2)) = some (rows.map fun r => Value.agg r.toArray)) (h1 : ∀ r ∈ rows, r.length = n ∧ ∀ u ∈ r, u.oneCell' = true)
    (h : ∀ b w', Ext w w' → w.heap.size ≤ b → (∀ B, B ≤ w.heap.size → Wid w' B e n (.slice (some ⟨b, 0, none⟩) m m) rows) → Blk w' b e rows.flatten → Sq P N ops Q rest ((d, .slice (some ⟨b, 0, none⟩) m m) :: l) w') :
    Sq P N ops Q (⟨some d, .buildSlice t m parts.toArray, ty, pos, after, g⟩ :: rest) l w := by
  obtain ⟨i, hi, hz, hsz, hby⟩ := hs.info
  have hfl := flat_len (fun r hr => (h1 r hr).1)
  have hbn := Blk.new w e rows.flatten
  refine .val (w' := w.alloc (.cells rows.flatten.toArray e)) hg rfl hN (fun a ha => ?_) (h _ _ (Ext.alloc _ _) (Nat.le_refl _) (fun B hB => ?_) hbn)
  · obtain ⟨cs, f1, f2⟩ := fill_wide (n := n) rows 0 ((Array.range (m * n)).map (fun j => z.cells[j % z.cells.size]!)) (fun r hr => (h1 r hr).1) (by simp [hm])
    have f3 : cs = rows.flatten.toArray := by
      have : cs.toList = rows.flatten := by
        rw [f2, hm]
        simp
      rw [← this]
    subst f3
    have e1 : (parts.toArray.map fun (i, x) => (i, a.eval x)) = ((List.range m).zip (rows.map fun r => Value.agg r.toArray)).toArray := by
      rw [← hp, ← ha.evs hx]
      simp [List.zip_map', List.map_map]
    have hlim : ¬ 16777216 < m * n := by omega
    rw [List.range_eq_range'] at e1
    rw [hm] at f1
    simp only [execOp]
    rw [e1]
    by_cases h0 : m * n = 0
    · have hm0 : m = 0 := by
        rcases Nat.mul_eq_zero.1 h0 with h | h
        · exact h
        · have := hs.pos; omega
      subst hm0
      obtain rfl : rows = [] := List.eq_nil_of_length_eq_zero hm
      have hr0 : Array.map (fun j : Nat => z.cells[j % z.cells.size]!) (Array.range 0) = #[] := by apply Array.ext <;> simp
      have hr1 : Array.map (fun _ : Nat => (default : Value)) (Array.range 0) = #[] := by apply Array.ext <;> simp
      simp [Instr.buildSlice, run_underlying hs.und, hs.sizeOf, newRow, Instr.fill, hr0, hr1]
    · simp [Instr.buildSlice, run_underlying hs.und, hs.sizeOf, newRow, zeroValue, typeInfo, hi, hz, hlim, h0, f1]
  · have := Wid.mk' (w := w.alloc (.cells rows.flatten.toArray e)) (B := B) (e := e) (n := n) (rows := rows) (g := w.heap.size) (cap := m) (cs := rows.flatten) h1 hB hbn (by omega) (by unfold maxLen; have := Nat.le_mul_of_pos_right m hs.pos; omega) (by rw [hfl, hm]) (by rw [List.take_of_length_le (by rw [hfl]; exact Nat.le_refl _)])
    rw [hm] at this
    exact this
theorem Sq.appS {t e : TypeId} {z : Value} {n b c : Nat} {s x : Operand} {v : Value} {r : List Value} {rows : List (List Value)} {B : Nat}
    (hs : SlW P t e z n) (ho : Wid w B e n v rows) (hB : B ≤ w.heap.size) (hlen : rows.length < 1048576) (hb : Blk w b e r) (hr : r.length = n ∧ ∀ u ∈ r, u.oneCell' = true) (hg : On ops l g) (hN : Nat.blt d N = true) (hsv : ev l s = some v) (hxv : ev l x = some (.slice (some ⟨b, 0, none⟩) 1 c))
    (h : ∀ v' w', Wid w' B e n v' (rows ++ [r]) → w.grownBy w' v.ownBlock → (∀ k, v'.ownBlock = some k → v.ownBlock = some k ∨ w.heap.size ≤ k) → v' ≠ .slice none 0 0 → Sq P N ops Q rest ((d, v') :: l) w') :
    Sq P N ops Q (⟨some d, .call ⟨.builtin .append, #[s, x], #[t, t]⟩, ty, pos, after, g⟩ :: rest) l w := by
  obtain ⟨i, hi, hz, hsz, hby⟩ := hs.info
  have hnews : ∀ j u, r[j]? = some u → w.cell? ((⟨b, 0, none⟩ : Addr).add j) = some u := fun j u hj => by rw [addr_add, hb.cell]; simpa using hj
  have hl : r.length = 1 * n := by rw [hr.1, Nat.one_mul]
  have h63 : rows.length + 1 ≤ maxLen := by unfold maxLen; omega
  have hby' : (rows.length + 1) * i.bytes ≤ 140737488355328 := Nat.le_trans (Nat.mul_le_mul (show rows.length + 1 ≤ 1048576 by omega) hby) (by decide)
  obtain ⟨v', w', hrun, r1, r2, r3⟩ := run_append_own (P := P) w B t ty e i z n i.bytes hs.und hi hz hsz rfl hs.cells hs.pos v rows.length rows.flatten ho.2 ⟨b, 0, none⟩ 1 c r hl hnews hr.2 h63 hby' hB
  have hf := fresh_of (P := P) (ty := ty) hs.und hi hz hsz ho.2 hl hnews hr.2 h63 hby' (by decide) hrun
  have hW : Wid w' B e n v' (rows ++ [r]) := ⟨fun q hq => by
    rcases List.mem_append.1 hq with h | h
    · exact ho.1 q h
    · rw [List.mem_singleton.1 h]; exact hr, by simpa using r1⟩
  refine .val (w' := w') hg rfl hN (fun a ha => ?_) (h v' w' hW r2 hf (fun hc => by simpa using r3.1 hc))
  rw [BigFrame.execOp_builtin, BigFrame.builtin_append]
  simp only [List.map_toArray, List.map_cons, List.map_nil, ha.ev hsv, ha.ev hxv, Sem.run_bind, hrun, Result.andThen, Sem.run_pure]
def ones (vs : List Value) : List (List Value) := vs.map fun v => [v]
theorem ones_flat (vs : List Value) : (ones vs).flatten = vs := by
  unfold ones
  induction vs with
  | nil => rfl
  | cons v r ih => rw [List.map_cons, List.flatten_cons, ih]; rfl
theorem Wid.of_own {B : Nat} {e : TypeId} {v : Value} {vs : List Value} (h : Own w B e v vs) (h1 : ∀ u ∈ vs, u.oneCell' = true) : Wid w B e 1 v (ones vs) := by
  refine ⟨fun r hr => ?_, ?_⟩
  · obtain ⟨u, hu, rfl⟩ := List.mem_map.1 hr
    exact ⟨rfl, fun y hy => by rw [List.mem_singleton.1 hy]; exact h1 u hu⟩
  · rw [ones_flat]
    have : (ones vs).length = vs.length := List.length_map _
    rw [this]
    exact h
theorem Wid.to_own {B : Nat} {e : TypeId} {v : Value} {vs : List Value} (h : Wid w B e 1 v (ones vs)) : Own w B e v vs := by
  have h2 := h.2
  rw [ones_flat] at h2
  have : (ones vs).length = vs.length := List.length_map _
  rw [this] at h2
  exact h2
theorem Sq.app1F {t e : TypeId} {z : Value} {b c : Nat} {s x : Operand} {v u : Value} {vs : List Value} {B : Nat}
    (hs : SlT P t e z) (ho : Own w B e v vs) (h1 : ∀ u ∈ vs, u.oneCell' = true) (hB : B ≤ w.heap.size) (hlen : vs.length < 1048576) (hb : Blk w b e [u]) (hu : u.oneCell' = true) (hg : On ops l g) (hN : Nat.blt d N = true) (hsv : ev l s = some v) (hxv : ev l x = some (.slice (some ⟨b, 0, none⟩) 1 c))
    (h : ∀ v' w', Own w' B e v' (vs ++ [u]) → w.grownBy w' v.ownBlock → (∀ k, v'.ownBlock = some k → v.ownBlock = some k ∨ w.heap.size ≤ k) → v' ≠ .slice none 0 0 → Sq P N ops Q rest ((d, v') :: l) w') :
    Sq P N ops Q (⟨some d, .call ⟨.builtin .append, #[s, x], #[t, t]⟩, ty, pos, after, g⟩ :: rest) l w :=
  Sq.appS (SlW.of hs) (Wid.of_own ho h1) hB (by simpa [ones] using hlen) hb ⟨rfl, by simpa using hu⟩ hg hN hsv hxv fun v' w' g1 g2 g3 g4 => h v' w' (Wid.to_own (by simpa [ones] using g1)) g2 g3 g4
end
end Go.Proofs.Ytdejmfkpohgamaa
set_option linter.unusedSimpArgs false
set_option linter.unusedVariables false
namespace Go.Proofs.Ytdejmfkpohgamaa
def InB (v : List Int) (b : Int) : Prop := ∀ x ∈ v, 0 ≤ x ∧ x ≤ b
theorem InB.at {v : List Int} {b : Int} (h : InB v b) (hb : 0 ≤ b) (k : Nat) : 0 ≤ v.getD k 0 ∧ v.getD k 0 ≤ b := by
  rcases Nat.lt_or_ge k v.length with hk | hk
  · exact h _ (getD_mem hk)
  · simp [hk, hb]
theorem InB.mono {v : List Int} {b b' : Int} (h : InB v b) (hb : b ≤ b') : InB v b' := fun x hx => ⟨(h x hx).1, Int.le_trans (h x hx).2 hb⟩
theorem InB.add {v : List Int} {b c m : Int} (h : InB v b) (hb : 0 ≤ b) (hc : 0 ≤ c ∧ c ≤ m) (k : Nat) : InB (v.set k (v.getD k 0 + c)) (b + m) := by
  intro x hx
  have hv := h.at hb k
  rcases List.mem_or_eq_of_mem_set hx with h1 | h1
  · have := h x h1; omega
  · subst h1; omega
end Go.Proofs.Ytdejmfkpohgamaa
set_option linter.unusedSimpArgs false
set_option linter.unusedVariables false
namespace Go.Proofs.Ytdejmfkpohgamaa
def lts (s : ByteArray) : List Int := s.data.toList.map fun b => (b.toNat : Int) - 97
theorem lts_length (s : ByteArray) : (lts s).length = s.size := by
  rw [lts, List.length_map]; rfl
theorem lts_at {s : ByteArray} {k : Nat} (h : k < s.size) : (lts s).getD k 0 = ((s.data.toList.getD k 0).toNat : Int) - 97 := by
  have h1 : k < s.data.toList.length := h
  rw [lts, List.getD_eq_getElem?_getD, List.getElem?_map, List.getElem?_eq_getElem h1, List.getD_eq_getElem?_getD, List.getElem?_eq_getElem h1]
  rfl
def within (s : ByteArray) (al : Int) : Bool := decide (0 ≤ al ∧ al ≤ 63) && (decide ((s.size : Int) ≤ 50000) && (lts s).all (hs al))
theorem within_al {s : ByteArray} {al : Int} (h : ¬ (0 ≤ al ∧ al ≤ 63)) : within s al = false := by simp only [within, decide_eq_false h, Bool.false_and]
theorem within_size {s : ByteArray} {al : Int} (h : ¬ (s.size : Int) ≤ 50000) : within s al = false := by simp only [within, decide_eq_false h, Bool.false_and, Bool.and_false]
theorem within_bad {s : ByteArray} {al : Int} {k : Nat} (h : k < s.size) (hb : hs al ((lts s).getD k 0) = false) : within s al = false := by
  simp only [within, all_bad (l := lts s) (d := 0) (by rw [lts_length]; exact h) hb, Bool.and_false]
theorem within_good {s : ByteArray} {al : Int} {k : Nat} (h1 : 0 ≤ al ∧ al ≤ 63) (h2 : (s.size : Int) ≤ 50000) (hp : ((lts s).take k).all (hs al) = true) (hk : s.size ≤ k) : within s al = true := by
  simp only [within, decide_eq_true h1, decide_eq_true h2, all_done (l := lts s) hp (by rw [lts_length]; exact hk), Bool.and_self]
theorem within_spec {s : ByteArray} {al : Int} : within s al = true ↔ (0 ≤ al ∧ al ≤ 63) ∧ s.size ≤ 50000 ∧ ∀ x ∈ lts s, hs al x = true := by
  simp only [within, Bool.and_eq_true, decide_eq_true_eq, List.all_eq_true]
  constructor
  · rintro ⟨h1, h2, h3⟩; exact ⟨h1, by omega, h3⟩
  · rintro ⟨h1, h2, h3⟩; exact ⟨h1, by omega, h3⟩
theorem hs_small {al x : Int} (h : 0 ≤ al ∧ al ≤ 63) (hx : hs al x = true) : 0 ≤ x ∧ x < 6 := by
  unfold hs at hx
  simp only [Bool.and_eq_true, decide_eq_true_eq] at hx
  refine ⟨hx.1, ?_⟩
  rcases Int.lt_or_le x 6 with h1 | h1
  · exact h1
  · have h2 : al.toNat < 2 ^ 6 := by omega
    have h3 : al.toNat < 2 ^ x.toNat := Nat.lt_of_lt_of_le h2 (Nat.pow_le_pow_right (by decide) (by omega))
    rw [Nat.testBit_lt_two_pow h3] at hx
    cases hx.2
theorem hs63 (x : Int) : hs 63 x = decide (0 ≤ x ∧ x < 6) := by
  by_cases h : 0 ≤ x ∧ x < 6
  · rw [decide_eq_true h]
    obtain ⟨m, rfl⟩ := Int.eq_ofNat_of_zero_le h.1
    have : ∀ m : Fin 6, hs 63 (m.val : Int) = true := by decide
    exact this ⟨m, by omega⟩
  · rw [decide_eq_false h]
    cases hh : hs 63 x with
    | false => rfl
    | true => exact absurd (hs_small (by decide) hh) h
def runTo (a : A) (q : Int) (s : ByteArray) (k : Nat) : Int := ((lts s).take k).foldl (goA a) q
theorem runTo_succ {a : A} {q : Int} {s : ByteArray} {k : Nat} (h : k < s.size) : runTo a q s (k + 1) = goA a (runTo a q s k) ((lts s).getD k 0) := by
  unfold runTo
  rw [take_snoc 0 (by rw [lts_length]; exact h), List.foldl_append]
  rfl
theorem foldl_in {a : A} (hv : validA a = true) : ∀ (w : List Int) (q : Int), (∀ x ∈ w, 0 ≤ x ∧ x < 6) → (0 ≤ q ∧ q < a.next.length) → 0 ≤ w.foldl (goA a) q ∧ w.foldl (goA a) q < a.next.length
  | [], q, _, hq => hq
  | x :: w, q, h, hq => foldl_in hv w _ (fun y hy => h y (by simp [hy])) (goA_in hv hq (h x (by simp)))
theorem runTo_in {a : A} {q : Int} {s : ByteArray} {al : Int} (hv : validA a = true) (hw : within s al = true) (hq : 0 ≤ q ∧ q < a.next.length) (k : Nat) : 0 ≤ runTo a q s k ∧ runTo a q s k < a.next.length := by
  obtain ⟨h1, h2, h3⟩ := within_spec.1 hw
  exact foldl_in hv _ _ (fun x hx => hs_small h1 (h3 x (List.mem_of_mem_take hx))) hq
def after (a : A) (s : ByteArray) : Int := if validA a = true ∧ within s a.al = true then runTo a 0 s s.size else -1
theorem after_good {a : A} {s : ByteArray} (h : validA a = true) (hw : within s a.al = true) {k : Nat} (hk : k = s.size) : after a s = runTo a 0 s k := by rw [after, if_pos ⟨h, hw⟩, hk]
theorem after_bad {a : A} {s : ByteArray} (h : ¬ (validA a = true ∧ within s a.al = true)) : after a s = -1 := if_neg h
def clip (x : Int) : Int := if 0 ≤ x ∧ x < 6 then x else -1
theorem clip_in {x : Int} (h : 0 ≤ x ∧ x < 6) : clip x = x := if_pos h
theorem clip_out {x : Int} (h : ¬ (0 ≤ x ∧ x < 6)) : clip x = -1 := if_neg h
theorem hs_clip {al x : Int} (h : 0 ≤ al ∧ al ≤ 63) : hs al (clip x) = hs al x := by
  by_cases hx : 0 ≤ x ∧ x < 6
  · rw [clip_in hx]
  · rw [clip_out hx]
    cases hh : hs al x with
    | false => simp [hs]
    | true => exact absurd (hs_small h hh) hx
theorem within_at {s : ByteArray} {al : Int} (h : within s al = true) {k : Nat} (hk : k < s.size) : clip ((lts s).getD k 0) = (lts s).getD k 0 ∧ 0 ≤ (lts s).getD k 0 ∧ (lts s).getD k 0 < 6 := by
  obtain ⟨h1, _, h3⟩ := within_spec.1 h
  have := hs_small h1 (h3 _ (getD_mem (d := 0) (by rw [lts_length]; exact hk)))
  exact ⟨clip_in this, this⟩
end Go.Proofs.Ytdejmfkpohgamaa
set_option linter.unusedSimpArgs false
set_option linter.unusedVariables false
namespace Go.Proofs.Ytdejmfkpohgamaa
def run (a : A) (q : Int) (w : List Int) : Int := w.foldl (goA a) q
theorem runTo_run (a : A) (q : Int) (s : ByteArray) (k : Nat) : runTo a q s k = run a q ((lts s).take k) := rfl
theorem runTo_all (a : A) (q : Int) (s : ByteArray) : runTo a q s s.size = run a q (lts s) := by rw [runTo_run, List.take_of_length_le (by rw [lts_length]; exact Nat.le_refl _)]
theorem after_run {a : A} {s : ByteArray} (h : validA a = true) (hw : within s a.al = true) : after a s = run a 0 (lts s) := by rw [after_good h hw rfl, runTo_all]
theorem zero_in {a : A} (hv : validA a = true) : 0 ≤ (0 : Int) ∧ (0 : Int) < a.next.length := by have := (validA_spec.1 hv).2.1; omega
section
variable {P : Program} {N : Nat} {ops : Array Oper} {Q : Exit → Act → World → Prop} {S : World → Prop} {k fuel : Nat} {listed : Array Bool} {l : Slots} {w : World}
theorem Gq.beT {b : Bool} {d : Nat} (e : b = true) (h : Gq P N ops Q S k fuel listed ((d, .bool true) :: l) w) : Gq P N ops Q S k fuel listed ((d, .bool b) :: l) w := by rw [e]; exact h
theorem Gq.beF {b : Bool} {d : Nat} (e : b = false) (h : Gq P N ops Q S k fuel listed ((d, .bool false) :: l) w) : Gq P N ops Q S k fuel listed ((d, .bool b) :: l) w := by rw [e]; exact h
end
theorem Own.setU2 {w : World} {B : Nat} {e : TypeId} {v : Value} {ys : List UInt8} {x y : UInt8} {i j : Nat} (h : Own w B e v (((ys.map fun b => Value.int .u8 (b.toNat : Int)).set i (Value.int .u8 (x.toNat : Int))).set j (Value.int .u8 (y.toNat : Int)))) : Own w B e v (((ys.set i x).set j y).map fun b => Value.int .u8 (b.toNat : Int)) := by
  rw [List.map_set, List.map_set]; exact h
def RevAt (xs : List UInt8) (k : Nat) (ys : List UInt8) : Prop := ys.length = xs.length ∧ ∀ m, m < xs.length → ys.getD m 0 = if m < k ∨ xs.length - 1 - k < m then xs.getD (xs.length - 1 - m) 0 else xs.getD m 0
theorem RevAt.zero (xs : List UInt8) : RevAt xs 0 xs := ⟨rfl, fun m hm => by rw [if_neg (by omega)]⟩
theorem getD_setU (l : List UInt8) (k m : Nat) (x : UInt8) (hk : k < l.length) : (l.set k x).getD m 0 = if k = m then x else l.getD m 0 := by
  rw [List.getD_eq_getElem?_getD, List.getElem?_set]
  by_cases h : k = m
  · subst h; simp [hk]
  · simp [h]
theorem RevAt.step {xs ys : List UInt8} {k : Nat} (h : RevAt xs k ys) (hk : k < xs.length - 1 - k) : RevAt xs (k + 1) ((ys.set k (ys.getD (xs.length - 1 - k) 0)).set (xs.length - 1 - k) (ys.getD k 0)) := by
  obtain ⟨h1, h2⟩ := h
  refine ⟨by simp [h1], fun m hm => ?_⟩
  rw [getD_setU _ _ _ _ (by rw [List.length_set]; omega), getD_setU _ _ _ _ (by omega)]
  by_cases e1 : xs.length - 1 - k = m
  · subst e1
    rw [if_pos rfl, h2 k (by omega), if_neg (by omega), if_pos (by omega)]
    congr 1; omega
  · rw [if_neg e1]
    by_cases e2 : k = m
    · subst e2
      rw [if_pos rfl, h2 _ (by omega), if_neg (by omega), if_pos (by omega)]
    · rw [if_neg e2, h2 m hm]
      by_cases h3 : m < k ∨ xs.length - 1 - k < m
      · rw [if_pos h3, if_pos (by omega)]
      · rw [if_neg h3, if_neg (by omega)]
theorem RevAt.done {xs ys : List UInt8} {k : Nat} (h : RevAt xs k ys) (hk : xs.length - 1 ≤ k + k) : ys = xs.reverse := by
  obtain ⟨h1, h2⟩ := h
  refine List.ext_getElem (by rw [h1, List.length_reverse]) fun m m1 m2 => ?_
  have h3 := h2 m (by omega)
  rw [List.getD_eq_getElem?_getD, List.getElem?_eq_getElem m1] at h3
  rw [List.getElem_reverse]
  have h4 : xs.length - 1 - m < xs.length := by omega
  have e : xs.getD (xs.length - 1 - m) 0 = xs[xs.length - 1 - m] := by rw [List.getD_eq_getElem?_getD, List.getElem?_eq_getElem h4]; rfl
  rw [← e]
  by_cases h5 : m < k ∨ xs.length - 1 - k < m
  · rw [if_pos h5] at h3; exact h3
  · rw [if_neg h5] at h3
    have : xs.length - 1 - m = m := by omega
    rw [this]; exact h3
end Go.Proofs.Ytdejmfkpohgamaa
set_option linter.unusedSimpArgs false
set_option linter.unusedVariables false
namespace Go.Proofs.Ytdejmfkpohgamaa
def many (n : Nat) : Nat := if h : n = 0 then 200 else many (n - 1)
  termination_by n
theorem many_eq : many 0 = 200 := by rw [many]; simp
section bfs
variable {α : Type} [DecidableEq α]
def addNode (ns : List α) (x : α) : List α := if x ∈ ns then ns else ns ++ [x]
def addAll (ns : List α) (xs : List α) : List α := xs.foldl addNode ns
theorem addNode_T {ns : List α} {x : α} (h : x ∈ ns) : addNode ns x = ns := if_pos h
theorem addNode_F {ns : List α} {x : α} (h : x ∉ ns) : addNode ns x = ns ++ [x] := if_neg h
theorem addNode_prefix (ns : List α) (x : α) : ns <+: addNode ns x := by
  unfold addNode
  split
  · exact List.prefix_refl _
  · exact List.prefix_append _ _
theorem mem_addNode {ns : List α} {x y : α} : y ∈ addNode ns x ↔ y ∈ ns ∨ y = x := by
  unfold addNode
  split
  · exact ⟨.inl, fun h => h.elim id (fun h => h ▸ by assumption)⟩
  · simp
theorem nodup_addNode {ns : List α} (h : ns.Nodup) (x : α) : (addNode ns x).Nodup := by
  unfold addNode
  split
  · exact h
  · rename_i hx
    rw [List.nodup_append]
    exact ⟨h, by simp, fun a ha b hb hab => hx (by rw [List.mem_singleton.1 hb] at hab; exact hab ▸ ha)⟩
theorem addAll_snoc (ns xs : List α) (x : α) : addAll ns (xs ++ [x]) = addNode (addAll ns xs) x := by
  unfold addAll
  rw [List.foldl_append]
  rfl
theorem addAll_nil (ns : List α) : addAll ns [] = ns := rfl
theorem addAll_cons (ns : List α) (x : α) (xs : List α) : addAll ns (x :: xs) = addAll (addNode ns x) xs := rfl
theorem addAll_prefix : ∀ (xs ns : List α), ns <+: addAll ns xs
  | [], ns => List.prefix_refl _
  | x :: xs, ns => (addNode_prefix ns x).trans (addAll_prefix xs _)
theorem mem_addAll {y : α} : ∀ {xs ns : List α}, y ∈ addAll ns xs ↔ y ∈ ns ∨ y ∈ xs
  | [], ns => by simp [addAll_nil]
  | x :: xs, ns => by rw [addAll_cons, mem_addAll, mem_addNode, List.mem_cons, or_assoc]
theorem nodup_addAll : ∀ {xs ns : List α}, ns.Nodup → (addAll ns xs).Nodup
  | [], _, h => h
  | x :: xs, _, h => nodup_addAll (xs := xs) (nodup_addNode h x)
def bfs (f : α → Int → α) (s : α) (L : List Int) : Nat → List α
  | 0 => [s]
  | i + 1 => match (bfs f s L i)[i]? with
    | some q => addAll (bfs f s L i) (L.map (f q))
    | none => bfs f s L i
variable {f : α → Int → α} {s : α} {L : List Int}
theorem bfs_succ {i : Nat} {q : α} (h : (bfs f s L i)[i]? = some q) : bfs f s L (i + 1) = addAll (bfs f s L i) (L.map (f q)) := by rw [bfs, h]
theorem bfs_prefix1 (i : Nat) : bfs f s L i <+: bfs f s L (i + 1) := by
  rw [bfs]
  split
  · exact addAll_prefix _ _
  · exact List.prefix_refl _
theorem bfs_prefix {i j : Nat} (h : i ≤ j) : bfs f s L i <+: bfs f s L j := by
  induction j with
  | zero => rw [Nat.le_zero.1 h]; exact List.prefix_refl _
  | succ j ih =>
    rcases Nat.lt_or_ge j i with h1 | h1
    · rw [show i = j + 1 by omega]; exact List.prefix_refl _
    · exact (ih h1).trans (bfs_prefix1 j)
theorem bfs_nodup (i : Nat) : (bfs f s L i).Nodup := by
  induction i with
  | zero => simp [bfs]
  | succ i ih =>
    rw [bfs]
    split
    · exact nodup_addAll ih
    · exact ih
theorem bfs_stop {i : Nat} (h : (bfs f s L i).length ≤ i) {j : Nat} (hj : i ≤ j) : bfs f s L j = bfs f s L i := by
  induction j with
  | zero => rw [Nat.le_zero.1 hj]
  | succ j ih =>
    rcases Nat.lt_or_ge j i with h1 | h1
    · rw [show i = j + 1 by omega]
    · rw [bfs, ih h1, List.getElem?_eq_none (by omega)]
theorem bfs_all {P : α → Prop} (h0 : P s) (hs : ∀ q, P q → ∀ l ∈ L, P (f q l)) (i : Nat) : ∀ q ∈ bfs f s L i, P q := by
  induction i with
  | zero => simp [bfs, h0]
  | succ i ih =>
    rw [bfs]
    split
    · rename_i q hq
      have hq' : q ∈ bfs f s L i := List.mem_of_getElem? hq
      intro y hy
      rcases mem_addAll.1 hy with h | h
      · exact ih y h
      · obtain ⟨l, hl, rfl⟩ := List.mem_map.1 h
        exact hs q (ih q hq') l hl
    · exact ih
theorem bfs_closed {i j : Nat} {q : α} (hj : j < i) (h : (bfs f s L i)[j]? = some q) : ∀ l ∈ L, f q l ∈ bfs f s L i := by
  intro l hl
  have h1 : (bfs f s L (j + 1)) <+: bfs f s L i := bfs_prefix hj
  have h0 : (bfs f s L j) <+: bfs f s L i := bfs_prefix (by omega)
  rcases Nat.lt_or_ge j (bfs f s L j).length with h2 | h2
  · have h3 : (bfs f s L j)[j]? = some q := by
      obtain ⟨t, ht⟩ := h0
      rw [← ht, List.getElem?_append_left h2] at h
      exact h
    rw [bfs_succ h3] at h1
    exact h1.subset (mem_addAll.2 (.inr (List.mem_map.2 ⟨l, hl, rfl⟩)))
  · rw [bfs_stop h2 (by omega), List.getElem?_eq_none h2] at h
    cases h
theorem nodup_len : ∀ {xs U : List α}, xs.Nodup → (∀ q ∈ xs, q ∈ U) → xs.length ≤ U.length
  | [], _, _, _ => Nat.zero_le _
  | x :: xs, U, h, hs => by
    obtain ⟨h1, h2⟩ := List.nodup_cons.1 h
    have hx := hs x (by simp)
    have h3 := nodup_len (U := U.erase x) h2 (fun q hq => (List.mem_erase_of_ne (by rintro rfl; exact h1 hq)).2 (hs q (by simp [hq])))
    rw [List.length_erase_of_mem hx] at h3
    have := List.length_pos_of_mem hx
    simp only [List.length_cons]
    omega
theorem bfs_len {M : Nat} {U : List α} (h0 : s ∈ U) (hs : ∀ q ∈ U, ∀ l ∈ L, f q l ∈ U) (hU : U.length ≤ M) (i : Nat) : (bfs f s L i).length ≤ M :=
  Nat.le_trans (nodup_len (bfs_nodup i) (fun q hq => bfs_all (P := (· ∈ U)) h0 hs i q hq)) hU
def ord (f : α → Int → α) (s : α) (L : List Int) : List α := bfs f s L (many 0)
theorem ord_done {i : Nat} (h : (bfs f s L i).length ≤ i) (hi : i ≤ 200) : bfs f s L i = ord f s L := (bfs_stop h (by rw [many_eq]; exact hi)).symm
theorem ord_prefix {i : Nat} (hi : i ≤ 200) : bfs f s L i <+: ord f s L := bfs_prefix (by rw [many_eq]; exact hi)
theorem ord_nodup : (ord f s L).Nodup := bfs_nodup _
theorem ord_mem0 : s ∈ ord f s L := (bfs_prefix (Nat.zero_le (many 0))).subset (by simp [bfs])
theorem ord_zero : (ord f s L)[0]? = some s := by
  obtain ⟨t, ht⟩ := bfs_prefix (f := f) (s := s) (L := L) (Nat.zero_le (many 0))
  unfold ord
  rw [← ht]; rfl
theorem ord_pos : 0 < (ord f s L).length := List.length_pos_of_mem ord_mem0
theorem ord_closed (h : (ord f s L).length ≤ 200) {q : α} (hq : q ∈ ord f s L) : ∀ l ∈ L, f q l ∈ ord f s L := by
  obtain ⟨j, hj, rfl⟩ := List.mem_iff_getElem.1 hq
  exact bfs_closed (Nat.lt_of_lt_of_le hj (by rw [many_eq]; exact h)) (List.getElem?_eq_getElem hj)
theorem ord_all {P : α → Prop} (h0 : P s) (hs : ∀ q, P q → ∀ l ∈ L, P (f q l)) : ∀ q ∈ ord f s L, P q := bfs_all h0 hs _
theorem ord_zero' (h : (ord f s L).length ≤ 200) : (ord f s L).idxOf s = 0 := by
  have h0 := ord_zero (f := f) (s := s) (L := L)
  cases hl : ord f s L with
  | nil => rw [hl] at h0; cases h0
  | cons x r => rw [hl] at h0; simp at h0; subst h0; simp
theorem idx_prefix {xs ys : List α} (h : xs <+: ys) {x : α} (hx : x ∈ xs) : ys.idxOf x = xs.idxOf x := by
  obtain ⟨t, rfl⟩ := h
  rw [List.idxOf_append, if_pos hx]
theorem idx_new {xs : List α} {x : α} (hx : x ∉ xs) : (addNode xs x).idxOf x = xs.length := by
  rw [addNode_F hx, List.idxOf_append, if_neg hx]
  simp
theorem idx_getElem {xs : List α} (h : xs.Nodup) {i : Nat} {x : α} (hi : xs[i]? = some x) : xs.idxOf x = i := by
  obtain ⟨hl, rfl⟩ := List.getElem?_eq_some_iff.1 hi
  exact h.idxOf_getElem i hl
theorem getElem_idx {xs : List α} {x : α} (h : x ∈ xs) : xs[xs.idxOf x]? = some x := by
  rw [List.getElem?_eq_some_iff]
  exact ⟨List.idxOf_lt_length_iff.2 h, List.getElem_idxOf _⟩
def rowAt (f : α → Int → α) (L : List Int) (ns : List α) (q : α) : List Int := L.map fun l => (ns.idxOf (f q l) : Int)
def rowsAt (f : α → Int → α) (L : List Int) (ns : List α) (i : Nat) : List (List Int) := (ns.take i).map (rowAt f L ns)
theorem rowAt_prefix {ns ms : List α} {q : α} (h : ns <+: ms) (hm : ∀ l ∈ L, f q l ∈ ns) : rowAt f L ms q = rowAt f L ns q :=
  List.map_congr_left fun l hl => by rw [idx_prefix h (hm l hl)]
theorem rowsAt_step {i : Nat} {q : α} (h : (bfs f s L i)[i]? = some q) : rowsAt f L (bfs f s L (i + 1)) (i + 1) = rowsAt f L (bfs f s L i) i ++ [rowAt f L (bfs f s L (i + 1)) q] := by
  have hi := (List.getElem?_eq_some_iff.1 h).1
  have hp := bfs_prefix1 (f := f) (s := s) (L := L) i
  have e1 : (bfs f s L (i + 1)).take (i + 1) = (bfs f s L i).take i ++ [q] := by
    obtain ⟨t, ht⟩ := hp
    rw [← ht, List.take_append_of_le_length (by omega), List.take_succ_eq_append_getElem hi]
    congr 1
    simp only [List.cons.injEq, and_true]
    rw [List.getElem?_eq_getElem hi] at h
    exact Option.some.inj h
  unfold rowsAt
  rw [e1, List.map_append]
  congr 1
  refine List.map_congr_left fun p hp' => rowAt_prefix hp ?_
  obtain ⟨j, hj, rfl⟩ := List.mem_iff_getElem.1 hp'
  rw [List.length_take] at hj
  rw [List.getElem_take]
  exact bfs_closed (by omega) (List.getElem?_eq_getElem (by omega))
theorem rowsAt_length (ns : List α) (i : Nat) (h : i ≤ ns.length) : (rowsAt f L ns i).length = i := by simp [rowsAt]; omega
def rowTo (f : α → Int → α) (L : List Int) (ns : List α) (q : α) (k : Nat) : List Int := (L.take k).map fun l => (ns.idxOf (f q l) : Int)
theorem rowTo_step {ns : List α} {q : α} {k : Nat} (hk : k < L.length) (hm : ∀ l ∈ L.take k, f q l ∈ ns) : rowTo f L (addNode ns (f q (L.getD k 0))) q (k + 1) = rowTo f L ns q k ++ [((addNode ns (f q (L.getD k 0))).idxOf (f q (L.getD k 0)) : Int)] := by
  unfold rowTo
  rw [take_snoc 0 hk, List.map_append]
  congr 1
  exact List.map_congr_left fun l hl => by rw [idx_prefix (addNode_prefix _ _) (hm l hl)]
theorem rowTo_done {ns : List α} {q : α} {k : Nat} (h : L.length ≤ k) : rowTo f L ns q k = rowAt f L ns q := by unfold rowTo; rw [List.take_of_length_le h]; rfl
def mid (f : α → Int → α) (s : α) (L : List Int) (i : Nat) (q : α) (k : Nat) : List α := addAll (bfs f s L i) ((L.take k).map (f q))
theorem mid_succ {i : Nat} {q : α} {k : Nat} (hk : k < L.length) : mid f s L i q (k + 1) = addNode (mid f s L i q k) (f q (L.getD k 0)) := by
  unfold mid
  rw [take_snoc 0 hk, List.map_append]
  exact addAll_snoc _ _ _
theorem mid_done {i : Nat} {q : α} {k : Nat} (h : L.length ≤ k) (hq : (bfs f s L i)[i]? = some q) : mid f s L i q k = bfs f s L (i + 1) := by
  unfold mid
  rw [List.take_of_length_le h, bfs_succ hq]
theorem mid_mem {i : Nat} {q : α} {k : Nat} : ∀ l ∈ L.take k, f q l ∈ mid f s L i q k := fun l hl => mem_addAll.2 (.inr (List.mem_map.2 ⟨l, hl, rfl⟩))
theorem mid_prefix {i : Nat} {q : α} {k : Nat} (hq : (bfs f s L i)[i]? = some q) : mid f s L i q k <+: bfs f s L (i + 1) := by
  rw [bfs_succ hq]
  unfold mid
  have : L.map (f q) = (L.take k).map (f q) ++ (L.drop k).map (f q) := by rw [← List.map_append, List.take_append_drop]
  rw [this]
  unfold addAll
  rw [List.foldl_append]
  exact addAll_prefix _ _
theorem mid_prefix0 (i : Nat) (q : α) (k : Nat) : bfs f s L i <+: mid f s L i q k := addAll_prefix _ _
end bfs
section maps
variable {α β : Type} [DecidableEq α] [DecidableEq β] {f : α → Int → α} {s : α} {L : List Int} {f' : β → Int → β} {g : α → β} {P : α → Prop}
end maps
def num {α : Type} [DecidableEq α] (al : Int) (f : α → Int → α) (s : α) (acc : α → Bool) : A :=
  ⟨al, (ord f s (letters al)).map (rowAt f (letters al) (ord f s (letters al))), (ord f s (letters al)).map acc⟩
section num
variable {α : Type} [DecidableEq α] {al : Int} {f : α → Int → α} {s : α} {acc : α → Bool}
theorem num_len : (num al f s acc).next.length = (ord f s (letters al)).length := by simp [num]
theorem num_accs : (num al f s acc).acc.length = (ord f s (letters al)).length := by simp [num]
theorem num_valid (hal : 0 ≤ al ∧ al ≤ 63) (h : (ord f s (letters al)).length ≤ 12) : validA (num al f s acc) = true := by
  have h0 := ord_pos (f := f) (s := s) (L := letters al)
  refine validA_spec.2 ⟨hal, by rw [num_len]; omega, by rw [num_accs, num_len], fun row hr => ?_⟩
  obtain ⟨q, hq, rfl⟩ := List.mem_map.1 hr
  refine ⟨by simp [rowAt, num], fun y hy => ?_⟩
  obtain ⟨l, hl, rfl⟩ := List.mem_map.1 hy
  rw [num_len]
  have := List.idxOf_lt_length_iff.2 (ord_closed (by omega) hq l hl)
  omega
theorem letters_mem {b x : Int} (hx : 0 ≤ x ∧ x < 6) (h : hs b x = true) : x ∈ letters b := by
  simp only [letters, lettersTo, List.mem_filter, List.mem_map, List.mem_range]
  exact ⟨⟨x.toNat, by omega, by omega⟩, h⟩
theorem goA_num (hal : 0 ≤ al ∧ al ≤ 63) {q : α} (hq : q ∈ ord f s (letters al)) {l : Int} (hl : l ∈ letters al) : goA (num al f s acc) ((ord f s (letters al)).idxOf q : Int) l = ((ord f s (letters al)).idxOf (f q l) : Int) := by
  obtain ⟨hx0, hx6, hh⟩ := mem_letters hl
  obtain ⟨p1, p2⟩ := place_lt hal ⟨hx0, hx6⟩ hh
  have hlt := List.idxOf_lt_length_iff.2 hq
  have hh' : hs (num al f s acc).al l = true := hh
  have e0 : (num al f s acc).next = (ord f s (letters al)).map (rowAt f (letters al) (ord f s (letters al))) := rfl
  have e9 : place (num al f s acc).al l = place al l := rfl
  have e2 : ((ord f s (letters al)).map (rowAt f (letters al) (ord f s (letters al)))).getD ((ord f s (letters al)).idxOf q) [] = rowAt f (letters al) (ord f s (letters al)) q := by
    rw [List.getD_eq_getElem?_getD, List.getElem?_map, getElem_idx hq]; rfl
  have e3 : (letters al)[place al l]? = some l := by
    rw [List.getElem?_eq_getElem p1]
    rw [List.getD_eq_getElem?_getD, List.getElem?_eq_getElem p1] at p2
    exact congrArg some p2
  rw [goA_yes hh', e0, e9, Int.toNat_natCast, e2]
  unfold rowAt
  rw [List.getD_eq_getElem?_getD, List.getElem?_map, e3]
  rfl
theorem num_acc : (num al f s acc).acc = (ord f s (letters al)).map acc := rfl
theorem acc_num {q : α} (hq : q ∈ ord f s (letters al)) : (num al f s acc).acc.getD (((ord f s (letters al)).idxOf q : Int)).toNat false = acc q := by
  rw [num_acc, Int.toNat_natCast, List.getD_eq_getElem?_getD, List.getElem?_map, getElem_idx hq]
  rfl
theorem run_num (hal : 0 ≤ al ∧ al ≤ 63) (h : (ord f s (letters al)).length ≤ 200) : ∀ (w : List Int) {q : α}, q ∈ ord f s (letters al) → (∀ x ∈ w, x ∈ letters al) → run (num al f s acc) ((ord f s (letters al)).idxOf q : Int) w = ((ord f s (letters al)).idxOf (w.foldl f q) : Int) ∧ w.foldl f q ∈ ord f s (letters al)
  | [], q, hq, _ => ⟨rfl, hq⟩
  | x :: w, q, hq, hw => by
    have hx := hw x (by simp)
    have hn := ord_closed h hq x hx
    have := run_num hal h w hn (fun y hy => hw y (by simp [hy]))
    refine ⟨?_, this.2⟩
    have e : run (num al f s acc) ((ord f s (letters al)).idxOf q : Int) (x :: w) = run (num al f s acc) (goA (num al f s acc) ((ord f s (letters al)).idxOf q : Int) x) w := rfl
    rw [e, goA_num hal hq hx]
    exact this.1
end num
def accA (a : A) (q : Int) : Bool := a.acc.getD q.toNat false
def trim (a : A) : A := num a.al (goA a) 0 (accA a)
theorem inU {n : Nat} {q : Int} : q ∈ (List.range n).map (fun i : Nat => (i : Int)) ↔ 0 ≤ q ∧ q < n := by
  rw [List.mem_map]
  constructor
  · rintro ⟨i, hi, rfl⟩; have := List.mem_range.1 hi; omega
  · rintro ⟨h1, h2⟩; exact ⟨q.toNat, List.mem_range.2 (by omega), by omega⟩
theorem trim_bfs_len {a : A} (hv : validA a = true) (i : Nat) : (bfs (goA a) 0 (letters a.al) i).length ≤ a.next.length :=
  bfs_len (U := (List.range a.next.length).map (fun i : Nat => (i : Int))) (inU.2 (zero_in hv)) (fun q hq l hl => inU.2 (goA_in hv (inU.1 hq) ⟨(mem_letters hl).1, (mem_letters hl).2.1⟩)) (by simp) i
theorem trim_len {a : A} (hv : validA a = true) : (ord (goA a) 0 (letters a.al)).length ≤ a.next.length := trim_bfs_len hv _
theorem trim_valid {a : A} (hv : validA a = true) : validA (trim a) = true := num_valid (validA_spec.1 hv).1 (by have := trim_len hv; have := (validA_spec.1 hv).2.1; omega)
def step2 (a b : A) (p : Int × Int) (l : Int) : Int × Int := (goA a p.1 l, goA b p.2 l)
theorem in2 {a b : A} (hv : validA a = true) (hv' : validA b = true) {p : Int × Int} (hp : (0 ≤ p.1 ∧ p.1 < a.next.length) ∧ 0 ≤ p.2 ∧ p.2 < b.next.length) {l : Int} (hl : 0 ≤ l ∧ l < 6) : (0 ≤ (step2 a b p l).1 ∧ (step2 a b p l).1 < a.next.length) ∧ 0 ≤ (step2 a b p l).2 ∧ (step2 a b p l).2 < b.next.length :=
  ⟨goA_in hv hp.1 hl, goA_in hv' hp.2 hl⟩
end Go.Proofs.Ytdejmfkpohgamaa
set_option linter.unusedSimpArgs false
set_option linter.unusedVariables false
namespace Go.Proofs.Ytdejmfkpohgamaa
def In2 (a b : A) (p : Int × Int) : Prop := (0 ≤ p.1 ∧ p.1 < a.next.length) ∧ 0 ≤ p.2 ∧ p.2 < b.next.length
theorem in_zero {a b : A} (hv : validA a = true) (hv' : validA b = true) : In2 a b (0, 0) := ⟨zero_in hv, zero_in hv'⟩
theorem le144 {a b : A} (hv : validA a = true) (hv' : validA b = true) : a.next.length * b.next.length ≤ 144 := Nat.mul_le_mul (validA_spec.1 hv).2.1.2 (validA_spec.1 hv').2.1.2
def enc2 (b : A) (p : Int × Int) : Int := p.1 * (b.next.length : Int) + p.2
def fP (a b : A) (q x : Int) : Int := goA a (q / (b.next.length : Int)) x * (b.next.length : Int) + goA b (q % (b.next.length : Int)) x
def InP (a b : A) (q : Int) : Prop := 0 ≤ q ∧ q < ((a.next.length * b.next.length : Nat) : Int)
theorem inP_div {a b : A} {q : Int} (hv' : validA b = true) (h : InP a b q) : In2 a b (q / (b.next.length : Int), q % (b.next.length : Int)) := by
  have hb : 0 < (b.next.length : Int) := (zero_in hv').2
  refine ⟨⟨Int.ediv_nonneg h.1 (Int.le_of_lt hb), ?_⟩, Int.emod_nonneg _ (by omega), Int.emod_lt_of_pos _ hb⟩
  have h2 := h.2
  rw [Int.natCast_mul] at h2
  exact Int.ediv_lt_of_lt_mul hb h2
theorem inP_enc {a b : A} {p : Int × Int} (h : In2 a b p) : InP a b (enc2 b p) := by
  obtain ⟨⟨h1, h2⟩, h3, h4⟩ := h
  have hb : 0 ≤ (b.next.length : Int) := by omega
  have h5 : p.1 * (b.next.length : Int) ≤ ((a.next.length : Int) - 1) * (b.next.length : Int) := Int.mul_le_mul_of_nonneg_right (by omega) hb
  have h6 : 0 ≤ p.1 * (b.next.length : Int) := Int.mul_nonneg h1 hb
  unfold InP enc2
  rw [Int.natCast_mul]
  rw [Int.sub_mul] at h5
  omega
theorem enc_div {a b : A} {p : Int × Int} (h : In2 a b p) : enc2 b p / (b.next.length : Int) = p.1 ∧ enc2 b p % (b.next.length : Int) = p.2 := by
  obtain ⟨⟨h1, h2⟩, h3, h4⟩ := h
  have hb : 0 < (b.next.length : Int) := by omega
  unfold enc2
  constructor
  · rw [Int.add_comm, Int.add_mul_ediv_right _ _ (by omega), Int.ediv_eq_zero_of_lt h3 h4, Int.zero_add]
  · rw [Int.add_comm, Int.add_mul_emod_self_right, Int.emod_eq_of_lt h3 h4]
theorem fP_enc {a b : A} {p : Int × Int} (h : In2 a b p) (x : Int) : fP a b (enc2 b p) x = enc2 b (step2 a b p x) := by
  obtain ⟨h1, h2⟩ := enc_div h
  unfold fP
  rw [h1, h2]
  rfl
theorem fP_in {a b : A} (hv : validA a = true) (hv' : validA b = true) {q : Int} (h : InP a b q) {x : Int} (hx : 0 ≤ x ∧ x < 6) : InP a b (fP a b q x) :=
  inP_enc (p := (goA a (q / (b.next.length : Int)) x, goA b (q % (b.next.length : Int)) x)) (in2 hv hv' (inP_div hv' h) hx)
theorem enc_inj {a b : A} (p q : Int × Int) (hp : In2 a b p) (hq : In2 a b q) (e : enc2 b p = enc2 b q) : p = q := by
  have h1 := enc_div hp
  have h2 := enc_div hq
  rw [e] at h1
  ext
  · rw [← h1.1, h2.1]
  · rw [← h1.2, h2.2]
theorem fP_mul {a b : A} (hv : validA a = true) (hv' : validA b = true) {q : Int} (h : InP a b q) {x : Int} (hx : 0 ≤ x ∧ x < 6) : 0 ≤ goA a (q / (b.next.length : Int)) x * (b.next.length : Int) ∧ goA a (q / (b.next.length : Int)) x * (b.next.length : Int) ≤ 144 := by
  have h1 : 0 ≤ goA a (q / (b.next.length : Int)) x ∧ goA a (q / (b.next.length : Int)) x < a.next.length := goA_in hv (inP_div hv' h).1 hx
  have h2 := (validA_spec.1 hv).2.1
  have h3 := (validA_spec.1 hv').2.1
  refine ⟨Int.mul_nonneg h1.1 (by omega), ?_⟩
  have : goA a (q / (b.next.length : Int)) x * (b.next.length : Int) ≤ 12 * (b.next.length : Int) := Int.mul_le_mul_of_nonneg_right (by omega) (by omega)
  have h4 : (b.next.length : Int) ≤ 12 := by omega
  omega
end Go.Proofs.Ytdejmfkpohgamaa
set_option linter.unusedSimpArgs false
set_option linter.unusedVariables false
namespace Go.Proofs.Ytdejmfkpohgamaa
open Go.RowKit
def encI (x : Int) : Value := .int .i64 x
def OwnRowsZ (w : World) (B U : Nat) (e e' : TypeId) (v : Value) (xss : List (List Int)) (z : Value) : Prop :=
  ∃ rs, Own w B e v rs ∧ rs.length = xss.length ∧ (∀ i r, rs[i]? = some r → Own w B e' r ((xss.getD i []).map (Value.int .i64)) ∧ ∀ k, r.ownBlock = some k → k < U ∧ z.ownBlock ≠ some k) ∧
    ∀ (i j : Nat) (r r' : Value), rs[i]? = some r → rs[j]? = some r' → i ≠ j → ∀ k, r.ownBlock = some k → r'.ownBlock ≠ some k
section
variable {w w' : World} {B U : Nat} {e e' : TypeId} {v z : Value} {xss : List (List Int)}
theorem OwnRowsZ.nil (w : World) (B U : Nat) (e e' : TypeId) (z : Value) : OwnRowsZ w B U e e' (.slice none 0 0) [] z := ⟨[], Own.nil _ _ _, rfl, by simp, by simp⟩
theorem OwnRowsZ.to (h : OwnRowsZ w B U e e' v xss z) : OwnRows w B U e e' v xss := by
  obtain ⟨rs, h1, h2, h3, h4⟩ := h
  exact ⟨rs, h1, h2, fun i r hr => ⟨(h3 i r hr).1, fun k hk => ((h3 i r hr).2 k hk).1⟩, h4⟩
theorem OwnRowsZ.ext (h : OwnRowsZ w B U e e' v xss z) (x : Ext w w') : OwnRowsZ w' B U e e' v xss z := by
  obtain ⟨rs, h1, h2, h3, h4⟩ := h
  exact ⟨rs, h1.ext x, h2, fun i r hr => ⟨(h3 i r hr).1.ext x, (h3 i r hr).2⟩, h4⟩
theorem OwnRowsZ.up {U' : Nat} (h : OwnRowsZ w B U e e' v xss z) (hU : U ≤ U') : OwnRowsZ w B U' e e' v xss z := by
  obtain ⟨rs, h1, h2, h3, h4⟩ := h
  exact ⟨rs, h1, h2, fun i r hr => ⟨(h3 i r hr).1, fun k hk => ⟨Nat.lt_of_lt_of_le ((h3 i r hr).2 k hk).1 hU, ((h3 i r hr).2 k hk).2⟩⟩, h4⟩
theorem OwnRowsZ.now (h : OwnRowsZ w B U e e' v xss z) : OwnRowsZ w B w.heap.size e e' v xss z := by
  obtain ⟨rs, h1, h2, h3, h4⟩ := h
  exact ⟨rs, h1, h2, fun i r hr => ⟨(h3 i r hr).1, fun k hk => ⟨((h3 i r hr).1.lt k hk).2, ((h3 i r hr).2 k hk).2⟩⟩, h4⟩
theorem OwnRowsZ.mapped {κ : Type} {enc : κ → Value} {b : Nat} {xs : List κ} (h : OwnRowsZ w B U e e' v xss z) (hm : MapN enc w b xs) (hg : w.grownBy w' (some b)) : OwnRowsZ w' B U e e' v xss z := by
  obtain ⟨rs, h1, h2, h3, h4⟩ := h
  exact ⟨rs, h1.mapped hm hg, h2, fun i r hr => ⟨(h3 i r hr).1.mapped hm hg, (h3 i r hr).2⟩, h4⟩
theorem OwnRowsZ.apart {B' : Nat} {u : Value} {us : List Value} (h : OwnRowsZ w B U e e' v xss z) (ho : Own w B' e' u us) (hg : w.grownBy w' u.ownBlock) (hB : U ≤ B') (hne : e' ≠ e) : OwnRowsZ w' B U e e' v xss z := by
  obtain ⟨rs, h1, h2, h3, h4⟩ := h
  refine ⟨rs, h1.owned ho hg hne, h2, fun i r hr => ⟨(h3 i r hr).1.grown hg (fun k hk hc => ?_), (h3 i r hr).2⟩, h4⟩
  have := ((h3 i r hr).2 k hk).1
  have := (ho.lt k hc).1
  omega
theorem OwnRowsZ.grow {B' : Nat} {z' : Value} {us : List Value} (h : OwnRowsZ w B U e e' v xss z) (ho : Own w B' e' z us) (hg : w.grownBy w' z.ownBlock) (hf : ∀ k, z'.ownBlock = some k → z.ownBlock = some k ∨ w.heap.size ≤ k) (hne : e' ≠ e) : OwnRowsZ w' B U e e' v xss z' := by
  obtain ⟨rs, h1, h2, h3, h4⟩ := h
  refine ⟨rs, h1.owned ho hg hne, h2, fun i r hr => ⟨(h3 i r hr).1.grown hg (fun k hk hc => ((h3 i r hr).2 k hk).2 hc), fun k hk => ⟨((h3 i r hr).2 k hk).1, fun hc => ?_⟩⟩, h4⟩
  rcases hf k hc with h5 | h5
  · exact ((h3 i r hr).2 k hk).2 h5
  · have := ((h3 i r hr).1.lt k hk).2; omega
theorem OwnRowsZ.open (h : OwnRowsZ w B U e e' v xss z) (hne : e ≠ e') : ∃ rs, Own w B e v rs ∧ rs.length = xss.length ∧
    ∀ r xs w1 v' w', Ext w w1 → Own w1 U e' r (xs.map (Value.int .i64)) → Apart z r → B ≤ U → Own w' B e v' (rs ++ [r]) → w1.grownBy w' v.ownBlock → OwnRowsZ w' B w'.heap.size e e' v' (xss ++ [xs]) z := by
  obtain ⟨rs, h1, h2, h3, h4⟩ := h
  refine ⟨rs, h1, h2, fun r xs w1 v' w' x hr ha hBU hv hg => ?_⟩
  have hv1 := h1.ext x
  have hr' := hr.owned hv1 hg hne
  have hrow : ∀ i q, (rs ++ [r])[i]? = some q → (rs[i]? = some q ∧ i < rs.length) ∨ (i = rs.length ∧ q = r) := by
    intro i q hq
    rw [List.getElem?_append] at hq
    split at hq
    · exact .inl ⟨hq, by assumption⟩
    · right
      have : i - rs.length = 0 := by
        rcases Nat.eq_zero_or_pos (i - rs.length) with h | h
        · exact h
        · rw [List.getElem?_eq_none (by simp; omega)] at hq; cases hq
      rw [this] at hq
      simp at hq
      exact ⟨by omega, hq.symm⟩
  refine ⟨rs ++ [r], hv, by simp [h2], fun i q hq => ?_, fun i j q q' hq hq' hij k hk hk' => ?_⟩
  · rcases hrow i q hq with ⟨hq, hlt⟩ | ⟨rfl, rfl⟩
    · have e1 : (xss ++ [xs]).getD i [] = xss.getD i [] := by
        simp [List.getElem?_append, show i < xss.length by omega]
      rw [e1]
      have ho := ((h3 i q hq).1.ext x).owned hv1 hg hne
      exact ⟨ho, fun k hk => ⟨(ho.lt k hk).2, ((h3 i q hq).2 k hk).2⟩⟩
    · have e1 : (xss ++ [xs]).getD rs.length [] = xs := by
        simp [List.getElem?_append, h2]
      rw [e1]
      exact ⟨hr'.mono hBU, fun k hk => ⟨(hr'.lt k hk).2, fun hc => ha k hc hk⟩⟩
  · rcases hrow i q hq with ⟨hq1, _⟩ | ⟨hi1, hq1⟩ <;> rcases hrow j q' hq' with ⟨hq2, _⟩ | ⟨hj1, hq2⟩
    · exact h4 i j q q' hq1 hq2 hij k hk hk'
    · have a1 := ((h3 i q hq1).2 k hk).1
      have a2 := (hr.lt k (hq2 ▸ hk')).1
      omega
    · have a1 := ((h3 j q' hq2).2 k hk').1
      have a2 := (hr.lt k (hq1 ▸ hk)).1
      omega
    · exact hij (by omega)
end
theorem Sq.insert {P : Program} {N : Nat} {ops : Array Oper} {Q : Exit → Act → World → Prop} {rest : List Oper} {l : Slots} {w : World} {ty : TypeId} {pos : String} {after : Array Edge} {g : Option (Nat × Bool)}
    {κ : Type} [DecidableEq κ] {enc : κ → Value} {b : Nat} {xs : List κ} {t : TypeId} {m x y : Operand} {k : κ} {n : Int} (ht : KeyT P t enc) (hm : MapN enc w b xs) (hg : On ops l g) (hx : ev l m = some (.map (some b))) (hk : ev l x = some (enc k)) (hy : ev l y = some (.int .i64 n)) (hn : n = xs.length) (hin : k ∉ xs)
    (h : ∀ w', w.grownBy w' (some b) → MapN enc w' b (xs ++ [k]) → Sq P N ops Q rest l w') : Sq P N ops Q (⟨none, .insert t m x y, ty, pos, after, g⟩ :: rest) l w := by
  obtain ⟨kt, et, kd, h1, h2, h3, h4, h5⟩ := ht.types
  obtain ⟨es, c, hb, hes⟩ := hm
  have hf := findKey_num (P := P) (w := w) h2 h3 k hes
  rw [if_neg hin] at hf
  have hs := MapKept.heap_set (o' := .map (es.push { key := enc k, val := .int .i64 n, born := c }) (c + 1)) hb
  refine .unit (w' := { w with heap := w.heap.setIfInBounds b (.map (es.push { key := enc k, val := .int .i64 n, born := c }) (c + 1)) }) hg rfl (fun a ha => ?_) (h _ ⟨rfl, rfl, rfl, by simp, fun j _ hne => hs.2 j (fun e => hne (congrArg some e))⟩ ⟨_, _, hs.1, ?_⟩)
  · simp [execOp, Instr.mapUpdate, ha.ev hx, ha.ev hk, ha.ev hy, run_underlying h1, MapKept.run_getObj_map hb, MapKept.run_checkKey h2 (h5 k), hf, MapKept.run_setObj_map _ hb, Result.andThen]
  · rw [Array.toList_push, List.map_append, hes, List.zipIdx_append, List.map_append, hn]
    simp
theorem keyI {P : Program} {t kt et : TypeId} (h1 : P.underlying t = some (.map kt et)) (h2 : P.underlying kt = some (.int .i64)) (h3 : ∀ w, (zeroValue et).run P w = .ok (.int .i64 0) w) : KeyT P t encI :=
  ⟨kt, et, .int .i64, h1, h2, fun x y => by simp only [Instr.sameNow, encI, if_true]; first | done | (congr 1; first | done | (rw [Bool.eq_iff_iff]; simp)), h3, fun x => rfl⟩
def Clo (P : Program) (w0 : World) (fv : Value) (D : Int → Prop) (f : Int → Int → Int) : Prop :=
  ∃ k fn, ∃ cs : List Value, fv = .func (.func k) #[] cs.toArray ∧ Fn P k fn ∧ ∀ w q x, Ext w0 w → D q → 0 ≤ x ∧ x < 6 → Ret P k ([Value.int .i64 q, Value.int .i64 x] ++ cs).toArray w fun v w' => v = .int .i64 (f q x) ∧ Ext w w'
theorem ord_lim {f : Int → Int → Int} {s : Int} {L : List Int} {i k : Nat} {q : Int} {lim : Int} (hq : (bfs f s L i)[i]? = some q) (hi : i + 1 ≤ 200) (hl : (((mid f s L i q k).length : Nat) : Int) = lim) (hk : k < L.length) (hn : f q (L.getD k 0) ∉ mid f s L i q k) : ¬ (((ord f s L).length : Nat) : Int) ≤ lim := by
  have h1 := (mid_prefix (k := k + 1) hq).length_le
  rw [mid_succ hk, addNode_F hn, List.length_append] at h1
  have h2 := (ord_prefix (f := f) (s := s) (L := L) hi).length_le
  simp only [List.length_singleton] at h1
  omega
theorem ord_fin {f : Int → Int → Int} {s : Int} {L : List Int} {i : Nat} {lim : Int} (h : (bfs f s L i).length ≤ i) (hi : i ≤ 200) (hl : (((bfs f s L i).length : Nat) : Int) ≤ lim) : bfs f s L i = ord f s L ∧ ((((ord f s L).length : Nat) : Int) ≤ lim) := by
  have e := ord_done h hi
  exact ⟨e, by rw [← e]; exact hl⟩
theorem rowsAt_fin {f : Int → Int → Int} {s : Int} {L : List Int} {i : Nat} (h : (bfs f s L i).length ≤ i) (hi : i ≤ 200) : rowsAt f L (bfs f s L i) i = (ord f s L).map (rowAt f L (ord f s L)) := by
  rw [ord_done h hi]
  unfold rowsAt
  rw [List.take_of_length_le (by rw [← ord_done h hi]; exact h)]
theorem mid_at {f : Int → Int → Int} {s : Int} {L : List Int} {i k : Nat} {q : Int} (hq : (bfs f s L i)[i]? = some q) : (mid f s L i q k).getD i 0 = q := by
  obtain ⟨t, ht⟩ := mid_prefix0 (f := f) (s := s) (L := L) i q k
  have hi := (List.getElem?_eq_some_iff.1 hq).1
  rw [← ht, List.getD_eq_getElem?_getD, List.getElem?_append_left hi, hq]
  rfl
theorem notin_snoc {xs : List Int} {n : Int} {k : Nat} (hp : n ∉ xs.take k) (hk : k < xs.length) (hne : ¬ xs.getD k 0 = n) : n ∉ xs.take (k + 1) := by
  rw [take_snoc 0 hk]
  simp only [List.mem_append, List.mem_singleton, not_or]
  exact ⟨hp, fun h => hne h.symm⟩
theorem notin_done {xs : List Int} {n : Int} {k : Nat} (hp : n ∉ xs.take k) (hk : xs.length ≤ k) : n ∉ xs := by rwa [List.take_of_length_le hk] at hp
theorem notin_lt {xs : List Int} {n : Int} {k : Nat} (hm : n ∈ xs) (hp : n ∉ xs.take k) : k < xs.length := by
  rcases Nat.lt_or_ge k xs.length with h | h
  · exact h
  · exact absurd hm (notin_done hp h)
theorem idx_here {xs : List Int} {n : Int} {k : Nat} (hp : n ∉ xs.take k) (hk : k < xs.length) (he : xs.getD k 0 = n) : xs.idxOf n = k := by
  have e : xs = xs.take k ++ xs.drop k := (List.take_append_drop k xs).symm
  have hd : xs.drop k = n :: xs.drop (k + 1) := by
    rw [List.drop_eq_getElem_cons hk]
    congr 1
    rw [List.getD_eq_getElem?_getD, List.getElem?_eq_getElem hk] at he
    exact he
  rw [e, List.idxOf_append, if_neg hp, hd]
  simp
  omega
theorem row_go {a : A} (hv : validA a = true) {q : Nat} (hq : q < a.next.length) {k : Nat} (hk : k < (letters a.al).length) : (a.next.getD q []).getD k 0 = goA a q ((letters a.al).getD k 0) := by
  obtain ⟨h1, h2⟩ := place_at (validA_spec.1 hv).1 hk
  rw [goA_yes h1, h2, Int.toNat_natCast]
theorem rowTo_succ {f : Int → Int → Int} {L ns : List Int} {q : Int} {k : Nat} (hk : k < L.length) : rowTo f L ns q (k + 1) = rowTo f L ns q k ++ [(ns.idxOf (f q (L.getD k 0)) : Int)] := by
  unfold rowTo
  rw [take_snoc 0 hk, List.map_append]
  rfl
theorem Ints.low {w : World} {e : TypeId} {v : Value} {xs : List Int} (h : Ints w e v xs) (hx : 0 < xs.length) : ∀ k, v.ownBlock = some k → k < w.heap.size := by
  intro k hk
  rcases h with ⟨h0, _⟩ | ⟨b, o, c, cur, fr, rfl, hb, _⟩
  · rw [List.map_eq_nil_iff] at h0; subst h0; simp at hx
  · simp [Value.ownBlock] at hk
    subst hk
    exact lt_of_block hb
theorem getD_app {α : Type} {xs ys : List α} {d : α} {k : Nat} (h : k < xs.length) : (xs ++ ys).getD k d = xs.getD k d := by
  rw [List.getD_eq_getElem?_getD, List.getElem?_append_left h, ← List.getD_eq_getElem?_getD]
theorem Small.push2 {n m : Nat} {a : A} {row : List Int} {b : Bool} (h : Small n a) (hm : n + 1 ≤ m) (hr : row.length ≤ m) : Small m ⟨a.al, a.next ++ [row], a.acc ++ [b]⟩ := by
  have h1 := h.2.1
  have h2 := h.2.2.1
  refine ⟨h.1, by simp only [List.length_append, List.length_singleton]; omega, by simp only [List.length_append, List.length_singleton]; omega, fun r hr' => ?_⟩
  rcases List.mem_append.1 hr' with h3 | h3
  · have := h.2.2.2 r h3; omega
  · rw [List.mem_singleton.1 h3]; exact hr
theorem Small.accs {n m : Nat} {a : A} {ys : List Bool} (h : Small n a) (hm : n ≤ m) (hy : ys.length = a.acc.length) : Small m ⟨a.al, a.next, ys⟩ :=
  ⟨h.1, Nat.le_trans h.2.1 hm, by have := h.2.2.1; show ys.length ≤ m; omega, fun r hr => Nat.le_trans (h.2.2.2 r hr) hm⟩
section three
variable {P : Program} {N : Nat} {ops : Array Oper} {Q : Exit → Act → World → Prop} {S : World → Prop} {k fuel : Nat} {listed : Array Bool} {l : Slots} {w : World}
theorem Gq.three {o o' o'' : Oper} (i j m : Nat) (hi : ops[i]? = some o) (hj : ops[j]? = some o') (hm : ops[m]? = some o'') (hr : (Region.ready .any ops listed == [i, j, m]) = true) (h : Sq P N ops (AfterG P ops Q S k fuel i listed) [o] l w) (h' : Sq P N ops (AfterG P ops Q S k fuel j listed) [o'] l w) (h'' : Sq P N ops (AfterG P ops Q S k fuel m listed) [o''] l w) : Gq P N ops Q S k (fuel + 1) listed l w := by
  intro a ha
  have hr' : Region.ready .any ops listed = [i, j, m] := by simpa using hr
  refine ⟨fun h0 => absurd (hr' ▸ h0) (by simp), fun n hn => ?_⟩
  rw [hr'] at hn
  rcases List.mem_cons.1 hn with rfl | hn
  · exact wpOp_of_list (Q' := AfterG P ops Q S k fuel _ listed) hi (fun _ _ => rfl) (fun _ _ _ => rfl) (fun _ _ => rfl) (h a ha)
  · rcases List.mem_cons.1 hn with rfl | hn
    · exact wpOp_of_list (Q' := AfterG P ops Q S k fuel _ listed) hj (fun _ _ => rfl) (fun _ _ _ => rfl) (fun _ _ => rfl) (h' a ha)
    · obtain rfl : n = m := by simpa using hn
      exact wpOp_of_list (Q' := AfterG P ops Q S k fuel _ listed) hm (fun _ _ => rfl) (fun _ _ _ => rfl) (fun _ _ => rfl) (h'' a ha)
end three
theorem Eq.ret3 {P : Program} {fn : Func} {N t u x : Nat} {l : Slots} {w : World} {v v' v'' : Value} {R : Value → World → Prop} (hr : fn.results = #[.tmp t, .tmp u, .tmp x]) (hv : look l t = some v) (hv' : look l u = some v') (hv'' : look l x = some v'') (h : R (.tuple #[v, v', v'']) w) :
    Eq N (bodyPost P fn fun e w' => ∃ v, e = .returned v ∧ R v w') .ret l w := fun a ha =>
  bodyPost_ret (v := .tuple #[v, v', v'']) (by
    have e : (results fn a.tmps).run P w = .ok (.tuple #[a.tmps.getD t undef, a.tmps.getD u undef, a.tmps.getD x undef]) w := by simp [results, hr]
    rw [e, ha.slot _ _ hv, ha.slot _ _ hv', ha.slot _ _ hv'']) ha.defers ⟨_, rfl, h⟩
section wid2
variable {w : World} {B : Nat} {e : TypeId} {v : Value} {ps : List (Int × Int)}
theorem Wid.shape {n : Nat} {rows : List (List Value)} (h : Wid w B e n v rows) : ∃ p c, v = .slice p rows.length c := by
  rcases h.cases with ⟨rfl, rfl⟩ | ⟨g, cap, cs, rfl, _⟩
  · exact ⟨none, 0, rfl⟩
  · exact ⟨_, _, rfl⟩
end wid2
section wid3
variable {P : Program} {N : Nat} {ops : Array Oper} {Q : Exit → Act → World → Prop} {rest : List Oper} {l : Slots} {w : World}
variable {d : Nat} {ty : TypeId} {pos : String} {after : Array Edge} {g : Option (Nat × Bool)}
theorem Still.ixV {t e : TypeId} {z : Value} {n gb len c : Nat} {x ix : Operand} {k : IntKind} {i : Int} {v : Value} (hs : SlW P t e z n) (hv : v = .slice (some ⟨gb, 0, none⟩) len c) (hx : ev l x = some v) (hix : ev l ix = some (.int k i)) (hi : 0 ≤ i ∧ i < (len : Int)) :
    Still P N l ⟨some d, .indexAddr t x ix, ty, pos, after, g⟩ (.pointer (some ⟨gb, i.toNat * n, none⟩)) w := Still.ixW hs (by rw [hx, hv]) hix hi
theorem Sq.lenWid {t e : TypeId} {n B : Nat} {x : Operand} {v : Value} {rows : List (List Value)} (hr : Wid w B e n v rows) (hg : On ops l g) (hN : Nat.blt d N = true) (ht : P.underlying t = some (.slice (P.elem t))) (hx : ev l x = some v)
    (h : Sq P N ops Q rest ((d, .int .i64 rows.length) :: l) w) : Sq P N ops Q (⟨some d, .call ⟨.builtin .len, #[x], #[t]⟩, ty, pos, after, g⟩ :: rest) l w := by
  obtain ⟨p, c, rfl⟩ := hr.shape
  exact .len hg hN ht hx h
end wid3
theorem Wid.low {w : World} {B n : Nat} {e : TypeId} {v : Value} {rows : List (List Value)} (h : Wid w B e n v rows) : ∀ k, v.ownBlock = some k → k < w.heap.size := fun k hk => (h.lt k hk).2
theorem mul144 {a b : A} (hv : validA a = true) (hv' : validA b = true) : -9223372036854775808 ≤ (a.next.length : Int) * (b.next.length : Int) ∧ (a.next.length : Int) * (b.next.length : Int) ≤ 9223372036854775807 := by
  have h := le144 hv hv'
  have h2 : ((a.next.length * b.next.length : Nat) : Int) ≤ 144 := by omega
  rw [Int.natCast_mul] at h2
  have h3 : 0 ≤ (a.next.length : Int) * (b.next.length : Int) := Int.mul_nonneg (by omega) (by omega)
  omega
end Go.Proofs.Ytdejmfkpohgamaa
set_option linter.unusedSimpArgs false
set_option linter.unusedVariables false
namespace Go.Proofs.Ytdejmfkpohgamaa
set_option maxRecDepth 100000
theorem key94 : KeyT Try.prog 94 encI := keyI (kt := 3) (et := 3) (by kernel_rfl) (by kernel_rfl) zero3
theorem slw116 : SlW Try.prog 116 118 (.agg #[.int .i64 0, .int .i64 0, .slice none 0 0]) 3 := ⟨by kernel_rfl, ⟨_, rfl, by kernel_rfl, by kernel_rfl, by decide⟩, by kernel_rfl, by decide⟩
end Go.Proofs.Ytdejmfkpohgamaa
set_option linter.unusedSimpArgs false
set_option linter.unusedVariables false
namespace Go.Proofs.Ytdejmfkpohgamaa
open Go.RowKit
set_option maxRecDepth 100000 in
theorem numbered_c (w0 : World) (f : Int → Int → Int) (s : Int) (L : List Int) (lv fv : Value) (lim : Int) (D : Int → Prop) (hlim : 1 ≤ lim ∧ lim ≤ 1000) (hx : Ints w0 3 lv L) (hLl : L.length ≤ 100) (hL : ∀ x ∈ L, 0 ≤ x ∧ x < 6) (hD0 : D s) (hD : ∀ q, D q → ∀ x ∈ L, D (f q x)) (hM0 : ∀ i, (bfs f s L i).length ≤ 150) (hclo : Clo Try.prog w0 fv D f) : Ret Try.prog 49 #[Value.int .i64 s, lv, Value.int .i64 lim, fv] w0 (fun v w => (∃ nv xv, v = .tuple #[nv, xv, .bool (decide ((((ord f s L).length : Nat) : Int) ≤ lim))] ∧ Own w w0.heap.size 3 nv ((if (((ord f s L).length : Nat) : Int) ≤ lim then ord f s L else []).map (Value.int .i64)) ∧ OwnRows w w0.heap.size w.heap.size 56 3 xv (if (((ord f s L).length : Nat) : Int) ≤ lim then (ord f s L).map (rowAt f L (ord f s L)) else [])) ∧ Ext w0 w) := by
  have E := Ext.refl w0
  obtain ⟨kf, fnf, cf, hfv, hFn, hcall⟩ := hclo
  refine Ret.of (args := [Value.int .i64 s, lv, Value.int .i64 lim, fv]) Try.func49 rfl rfl rfl ?_
  rintro _ rfl
  show Cq _ _ _ _ [(0, Value.int .i64 s), (1, lv), (2, Value.int .i64 lim), (3, fv)] _
  refine Cq.seq ?_
  refine Cq.region ?_
  refine Sq.assign .plain rfl rfl ?_
  refine Sq.assign .plain rfl rfl ?_
  refine Sq.assign .plain rfl rfl ?_
  refine Sq.nil ?_
  refine Eq.next ?_
  refine Cq.seq ?_
  refine Cq.region ?_
  refine Sq.move .plain rfl rfl ?_
  refine Sq.lit sl56 rfl rfl .plain rfl rfl (one_cons rfl one_nil) (fun b1 w2 e3 hlo4 ho5 _ => ?_)
  have hs6 := Below.size e3
  replace E := E.trans e3
  have hno := ho5 w0.heap.size (by omega)
  refine Sq.assign .plain rfl rfl ?_
  refine Sq.nil ?_
  refine Eq.next ?_
  refine Cq.seq ?_
  refine Cq.region ?_
  refine Sq.makeMap encI .plain rfl (fun mb w7 e8 hM hlo9 => ?_)
  have hs10 := Below.size e8
  replace E := E.trans e8
  replace hno := hno.ext e8
  have hmb : w0.heap.size ≤ mb := by omega
  refine Sq.move .plain rfl rfl ?_
  refine Sq.insert key94 hM .plain rfl (k := s) rfl rfl rfl (by simp) (fun w11 g12 hm13 => ?_)
  have hs14 := World.grownBy.size g12
  replace E := E.mapped g12 (by omega)
  replace hno := hno.mapped hM g12
  replace hM := hm13
  simp only [List.nil_append] at hM
  refine Sq.move .plain rfl rfl ?_
  refine Sq.assign .plain rfl rfl ?_
  refine Sq.nil ?_
  refine Eq.next ?_
  refine Cq.seq ?_
  refine Cq.region ?_
  refine Sq.assign .plain rfl rfl ?_
  refine Sq.nil ?_
  refine Eq.next ?_
  refine Cq.seq ?_
  refine Cq.seq ?_
  refine Cq.region ?_
  refine Sq.assign .plain rfl rfl ?_
  refine Sq.nil ?_
  refine Eq.next ?_
  refine Cq.block ?_
  refine Cq.loop (fun nn w ls => ∃ (i : Int), ∃ (nv : Value), ∃ (xv : Value), ls = [(1, lv), (2, Value.int .i64 lim), (3, fv), (11, nv), (12, Value.map (some mb)), (13, xv), (14, Value.int .i64 i)] ∧ (0 ≤ i ∧ i ≤ (bfs f s L i.toNat).length) ∧ Own w w0.heap.size 3 nv ((bfs f s L i.toNat).map (Value.int .i64)) ∧ MapN encI w mb (bfs f s L i.toNat) ∧ OwnRowsZ w w0.heap.size w.heap.size 56 3 xv (rowsAt f L (bfs f s L i.toNat) i.toNat) nv ∧ (((bfs f s L i.toNat).length : Nat) : Int) ≤ lim ∧ Ext w0 w ∧ nn = (151 - i).toNat) _ _ ⟨0, _, _, rfl, ⟨by omega, by omega⟩, hno, hM, OwnRowsZ.nil _ _ _ _ _ _, by show ((1 : Nat) : Int) ≤ lim; omega, E, rfl⟩ (.cons rfl (.cons rfl (.cons rfl (.cons rfl (.cons rfl (.cons rfl (.cons rfl (.nil)))))))) ?_
  rintro nn wl1 ls ⟨i, nv, xv, rfl, hi, hno, hM, hrs, hlm, E, rfl⟩
  have hs15 := Below.size E
  have hMi := hM0 i.toNat
  have hMi1 := hM0 (i.toNat + 1)
  refine Cq.seq ?_
  refine Cq.seq ?_
  refine Cq.region ?_
  refine Sq.move .plain rfl rfl ?_
  refine Sq.move .plain rfl rfl ?_
  refine Sq.lenInts (Own.row hno) .plain rfl und56 rfl ?_
  refine Sq.lss .plain rfl rfl rfl ?_
  refine Sq.part (fun c16 => ?_) (fun c16 => ?_)
  · refine Sq.nil ?_
    refine Eq.next ?_
    refine Cq.thn rfl ?_
    refine Cq.skip ?_
    refine Eq.next ?_
    refine Cq.seq ?_
    refine Cq.block ?_
    refine Cq.seq ?_
    refine Cq.region ?_
    refine Sq.assign .plain rfl rfl ?_
    refine Sq.nil ?_
    refine Eq.next ?_
    refine Cq.seq ?_
    refine Cq.seq ?_
    refine Cq.region ?_
    refine Sq.move .plain rfl rfl ?_
    refine Sq.lenInts (hx.ext E) .plain rfl und56 rfl ?_
    refine Sq.move .plain rfl rfl ?_
    refine Sq.nil ?_
    refine Eq.next ?_
    refine Cq.block ?_
    obtain ⟨q, hq⟩ : ∃ q, (bfs f s L i.toNat)[i.toNat]? = some q := ⟨_, List.getElem?_eq_getElem (by omega)⟩
    have hDq : D q := bfs_all hD0 hD _ q (List.mem_of_getElem? hq)
    refine Cq.loop (fun nn w ls => ∃ (k : Int), ∃ (nv2 : Value), ∃ (rv : Value), ls = [(1, lv), (2, Value.int .i64 lim), (3, fv), (11, nv2), (12, Value.map (some mb)), (13, xv), (14, Value.int .i64 i), (15, rv), (32, lv), (33, Value.int .i64 (List.length L : Int)), (34, Value.int .i64 k)] ∧ (0 ≤ k ∧ k ≤ L.length) ∧ wl1.heap.size ≤ w.heap.size ∧ Own w w0.heap.size 3 nv2 ((mid f s L i.toNat q k.toNat).map (Value.int .i64)) ∧ MapN encI w mb (mid f s L i.toNat q k.toNat) ∧ Own w wl1.heap.size 3 rv ((rowTo f L (mid f s L i.toNat q k.toNat) q k.toNat).map (Value.int .i64)) ∧ OwnRowsZ w w0.heap.size wl1.heap.size 56 3 xv (rowsAt f L (bfs f s L i.toNat) i.toNat) nv2 ∧ Apart nv2 rv ∧ (((mid f s L i.toNat q k.toNat).length : Nat) : Int) ≤ lim ∧ Ext w0 w ∧ nn = ((L.length : Int) - k).toNat) _ _ ⟨0, _, _, rfl, by omega, by omega, hno, hM, Own.nil _ _ _, hrs, (Apart.nil _).symm, hlm, E, rfl⟩ (.cons rfl (.cons rfl (.cons rfl (.cons rfl (.cons rfl (.cons rfl (.cons rfl (.cons rfl (.cons rfl (.cons rfl (.cons rfl (.nil)))))))))))) ?_
    rintro nn wl2 ls ⟨k, nv2, rv, rfl, hk, hsz, hno, hM, hro, hrs, hap, hlk, E, rfl⟩
    have hs17 := Below.size E
    have hml := (mid_prefix0 (f := f) (s := s) (L := L) i.toNat q k.toNat).length_le
    have hmh := (mid_prefix (f := f) (s := s) (L := L) (k := k.toNat) hq).length_le
    have hmq := mid_at (k := k.toNat) hq
    have hrl : (rowTo f L (mid f s L i.toNat q k.toNat) q k.toNat).length ≤ L.length := by unfold rowTo; rw [List.length_map, List.length_take]; omega
    refine Cq.seq ?_
    refine Cq.region ?_
    refine Sq.lss .plain rfl rfl rfl ?_
    refine Sq.part (fun c18 => ?_) (fun c18 => ?_)
    · refine Sq.nil ?_
      refine Eq.next ?_
      refine Cq.seq ?_
      refine Cq.thn rfl ?_
      refine Cq.skip ?_
      refine Eq.next ?_
      refine Cq.seq ?_
      refine Cq.block ?_
      refine Cq.seq ?_
      refine Cq.region ?_
      refine Sq.idxInts sl56 one3 (hx.ext E) .plain rfl rfl rfl .plain rfl rfl (by omega) (by omega) ?_
      refine Sq.assign .plain rfl rfl ?_
      refine Sq.nil ?_
      refine Eq.next ?_
      refine Cq.seq ?_
      refine Cq.region ?_
      refine Sq.move .plain rfl rfl ?_
      refine Sq.move .plain rfl rfl ?_
      refine Sq.move .plain rfl rfl ?_
      refine Sq.idxInts sl56 one3 (Own.row hno) .plain rfl rfl rfl .plain rfl rfl (by omega) (by omega) ?_
      rw [hmq]
      refine Sq.move .plain rfl rfl ?_
      refine Sq.callC hFn .plain rfl (by rw [← hfv]; rfl) rfl (hcall _ q (L.getD k.toNat 0) E hDq (hL _ (getD_mem (by omega)))) ?_
      rintro _ w19 ⟨rfl, e20⟩
      have hs21 := Below.size e20
      replace E := E.trans e20
      replace hno := hno.ext e20
      replace hM := hM.ext e20
      replace hrs := hrs.ext e20
      replace hro := hro.ext e20
      refine Sq.assign .plain rfl rfl ?_
      refine Sq.nil ?_
      refine Eq.next ?_
      refine Cq.seq ?_
      refine Cq.region ?_
      refine Sq.move .plain rfl rfl ?_
      refine Sq.move .plain rfl rfl ?_
      refine Sq.lookup key94 hM .plain rfl rfl (k := f q (L.getD k.toNat 0)) rfl ?_
      refine Sq.move .plain rfl rfl ?_
      refine Sq.extract .plain rfl rfl rfl ?_
      refine Sq.extract .plain rfl rfl rfl ?_
      refine Sq.assign .plain rfl rfl ?_
      refine Sq.assign .plain rfl rfl ?_
      refine Sq.nil ?_
      refine Eq.next ?_
      refine Cq.seq ?_
      refine Cq.seq ?_
      refine Cq.region ?_
      refine Sq.move .plain rfl rfl ?_
      refine Sq.part (fun hin => ?_) (fun hin => ?_)
      · refine Sq.notT .plain rfl rfl ?_
        refine Sq.nil ?_
        refine Eq.next ?_
        refine Cq.els rfl ?_
        refine Cq.skip ?_
        refine Eq.next ?_
        refine Cq.region ?_
        refine Sq.move .plain rfl rfl ?_
        refine Sq.move .plain rfl rfl ?_
        refine Sq.lit sl56 rfl rfl .plain rfl rfl (one_cons rfl one_nil) (fun b22 w23 e24 hlo25 ho26 hk27 => ?_)
        have hs28 := Below.size e24
        replace E := E.trans e24
        replace hno := hno.ext e24
        replace hM := hM.ext e24
        replace hrs := hrs.ext e24
        replace hro := hro.ext e24
        refine Sq.app1F sl56 hro (one_ints _) (by omega) (by rw [List.length_map]; omega) hk27 rfl .plain rfl rfl rfl (fun v29 w30 ho32 g31 hf33 _ => ?_)
        have hs34 := World.grownBy.size g31
        replace E := E.owned hro g31 (by omega)
        replace hM := hM.owned hro g31
        replace hrs := hrs.apart hro g31 (Nat.le_refl _) (by decide)
        have hap2 := (hap.symm.grow hno hf33).symm
        replace hno := Own.other hno g31 hap.symm
        replace hro := Own.snocI ho32
        replace hap := hap2
        refine Sq.assign .plain rfl rfl ?_
        refine Sq.nil ?_
        refine Eq.end ?_
        refine Eq.next ?_
        refine Cq.region ?_
        refine Sq.add .plain rfl rfl rfl (by omega) ?_
        refine Sq.move .plain rfl rfl ?_
        refine Sq.nil ?_
        have e2 := toNat_succ hk.1
        have e5 := mid_succ (f := f) (s := s) (i := i.toNat) (q := q) (k := k.toNat) (L := L) (by omega)
        have e6 := rowTo_step (f := f) (q := q) (k := k.toNat) (L := L) (by omega) (mid_mem (f := f) (s := s) (i := i.toNat))
        rw [← e5] at e6
        rw [addNode_T hin] at e5
        rw [if_pos hin] at hro
        refine Eq.round _ _ ⟨k + 1, _, _, rfl, by omega, by omega, by rw [e2, e5]; exact hno, by rw [e2, e5]; exact hM, by rw [e2, e6, e5]; exact hro, hrs, hap, by rw [e2, e5]; exact hlk, E, rfl⟩ (by omega) (.cons rfl (.cons rfl (.cons rfl (.cons rfl (.cons rfl (.cons rfl (.cons rfl (.cons rfl (.cons rfl (.cons rfl (.cons rfl (.nil))))))))))))
      refine Sq.notF .plain rfl rfl ?_
      refine Sq.nil ?_
      refine Eq.next ?_
      refine Cq.thn rfl ?_
      refine Cq.seq ?_
      refine Cq.seq ?_
      refine Cq.region ?_
      refine Sq.move .plain rfl rfl ?_
      refine Sq.lenInts (Own.row hno) .plain rfl und56 rfl ?_
      refine Sq.move .plain rfl rfl ?_
      refine Sq.eql .plain rfl rfl rfl ?_
      refine Sq.part (fun hfull => ?_) (fun hfull => ?_)
      · refine Sq.nil ?_
        refine Eq.next ?_
        refine Cq.thn rfl ?_
        refine Cq.seq ?_
        refine Cq.region ?_
        refine Sq.assign .plain rfl rfl ?_
        refine Sq.assign .plain rfl rfl ?_
        refine Sq.assign .plain rfl rfl ?_
        refine Sq.nil ?_
        refine Eq.next ?_
        refine Cq.ret ?_
        refine Eq.pastRet ?_
        refine Eq.pastRet ?_
        refine Eq.outRet ?_
        refine Eq.pastRet ?_
        refine Eq.pastRet ?_
        refine Eq.outRet ?_
        refine Eq.pastRet ?_
        refine Eq.outRet ?_
        refine Eq.pastRet ?_
        refine Eq.pastRet ?_
        refine Eq.outRet ?_
        refine Eq.pastRet ?_
        refine Eq.ret3 rfl rfl rfl rfl ?_
        have e8 := ord_lim hq (by omega) hfull (by omega) hin
        exact ⟨⟨_, _, by rw [decide_eq_false e8], by rw [if_neg e8]; exact Own.nil _ _ _, by rw [if_neg e8]; exact OwnRows.nil _ _ _ _ _⟩, E⟩
      refine Sq.nil ?_
      refine Eq.next ?_
      refine Cq.els rfl ?_
      refine Cq.skip ?_
      refine Eq.next ?_
      refine Cq.seq ?_
      refine Cq.region ?_
      refine Sq.move .plain rfl rfl ?_
      refine Sq.lenInts (Own.row hno) .plain rfl und56 rfl ?_
      refine Sq.assign .plain rfl rfl ?_
      refine Sq.nil ?_
      refine Eq.next ?_
      refine Cq.seq ?_
      refine Cq.region ?_
      refine Sq.move .plain rfl rfl ?_
      refine Sq.move .plain rfl rfl ?_
      refine Sq.move .plain rfl rfl ?_
      refine Sq.mapUpdate key94 hM .plain rfl (k := f q (L.getD k.toNat 0)) rfl rfl rfl hin (fun w35 g36 hm37 => ?_)
      have hs38 := World.grownBy.size g36
      replace E := E.mapped g36 (by omega)
      replace hno := hno.mapped hM g36
      replace hro := hro.mapped hM g36
      replace hrs := hrs.mapped hM g36
      replace hM := hm37
      refine Sq.nil ?_
      refine Eq.next ?_
      refine Cq.region ?_
      refine Sq.move .plain rfl rfl ?_
      refine Sq.move .plain rfl rfl ?_
      refine Sq.lit sl56 rfl rfl .plain rfl rfl (one_cons rfl one_nil) (fun b39 w40 e41 hlo42 ho43 hk44 => ?_)
      have hs45 := Below.size e41
      replace E := E.trans e41
      replace hno := hno.ext e41
      replace hM := hM.ext e41
      replace hrs := hrs.ext e41
      replace hro := hro.ext e41
      refine Sq.app1F sl56 hno (one_ints _) (by omega) (by rw [List.length_map]; omega) hk44 rfl .plain rfl rfl rfl (fun v46 w47 ho49 g48 hf50 _ => ?_)
      have hs51 := World.grownBy.size g48
      replace E := E.owned hno g48 (Nat.le_refl _)
      replace hM := hM.owned hno g48
      replace hrs := hrs.grow hno g48 hf50 (by decide)
      have hap2 := hap.grow hro hf50
      replace hro := Own.other hro g48 hap
      replace hno := Own.snocI ho49
      replace hap := hap2
      refine Sq.assign .plain rfl rfl ?_
      refine Sq.nil ?_
      refine Eq.next ?_
      refine Cq.region ?_
      refine Sq.move .plain rfl rfl ?_
      refine Sq.move .plain rfl rfl ?_
      refine Sq.lit sl56 rfl rfl .plain rfl rfl (one_cons rfl one_nil) (fun b52 w53 e54 hlo55 ho56 hk57 => ?_)
      have hs58 := Below.size e54
      replace E := E.trans e54
      replace hno := hno.ext e54
      replace hM := hM.ext e54
      replace hrs := hrs.ext e54
      replace hro := hro.ext e54
      refine Sq.app1F sl56 hro (one_ints _) (by omega) (by rw [List.length_map]; omega) hk57 rfl .plain rfl rfl rfl (fun v59 w60 ho62 g61 hf63 _ => ?_)
      have hs64 := World.grownBy.size g61
      replace E := E.owned hro g61 (by omega)
      replace hM := hM.owned hro g61
      replace hrs := hrs.apart hro g61 (Nat.le_refl _) (by decide)
      have hap2 := (hap.symm.grow hno hf63).symm
      replace hno := Own.other hno g61 hap.symm
      replace hro := Own.snocI ho62
      replace hap := hap2
      refine Sq.assign .plain rfl rfl ?_
      refine Sq.nil ?_
      refine Eq.end ?_
      refine Eq.next ?_
      refine Cq.region ?_
      refine Sq.add .plain rfl rfl rfl (by omega) ?_
      refine Sq.move .plain rfl rfl ?_
      refine Sq.nil ?_
      have e2 := toNat_succ hk.1
      have e5 := mid_succ (f := f) (s := s) (i := i.toNat) (q := q) (k := k.toNat) (L := L) (by omega)
      have e6 := rowTo_step (f := f) (q := q) (k := k.toNat) (L := L) (by omega) (mid_mem (f := f) (s := s) (i := i.toNat))
      rw [← e5] at e6
      have e7 := idx_new hin
      rw [← e5] at e7
      rw [addNode_F hin] at e5
      refine Eq.round _ _ ⟨k + 1, _, _, rfl, by omega, by omega, by rw [e2, e5]; exact hno, by rw [e2, e5]; exact hM, by rw [e2, e6, e7]; exact hro, hrs, hap, by rw [e2, e5, List.length_append]; simp only [List.length_singleton]; omega, E, rfl⟩ (by omega) (.cons rfl (.cons rfl (.cons rfl (.cons rfl (.cons rfl (.cons rfl (.cons rfl (.cons rfl (.cons rfl (.cons rfl (.cons rfl (.nil))))))))))))
    refine Sq.nil ?_
    refine Eq.next ?_
    refine Cq.seq ?_
    refine Cq.els rfl ?_
    refine Cq.exit ?_
    refine Eq.past ?_
    refine Eq.past ?_
    refine Eq.hit ?_
    refine Eq.next ?_
    refine Cq.region ?_
    refine Sq.move .plain rfl rfl ?_
    refine Sq.move .plain rfl rfl ?_
    obtain ⟨rs, hr1, hr2, hr3⟩ := OwnRowsZ.open hrs (by decide)
    have hx0 := Ext.refl wl2
    refine Sq.lit sl23 rfl rfl .plain rfl rfl (one_cons (Row.one (Own.row hro)) one_nil) (fun b65 w66 e67 hlo68 ho69 _ => ?_)
    have hs74 := Below.size e67
    replace E := E.trans e67
    replace hno := hno.ext e67
    replace hM := hM.ext e67
    replace hro := hro.ext e67
    replace hr1 := hr1.ext e67
    replace hx0 := hx0.trans e67
    refine Sq.app sl23 hr1 (by omega) (Own.row (ho69 _ (Nat.le_refl _))) (one_cons (Row.one (Own.row hro)) one_nil) (by rw [hr2]; have := rowsAt_length (f := f) (L := L) (bfs f s L i.toNat) i.toNat (by omega); simp only [List.length_cons, List.length_nil]; omega) .plain rfl rfl rfl rfl (fun v70 w71 ho73 g72 => ?_)
    have hs75 := World.grownBy.size g72
    have hrs := hr3 _ _ _ _ _ hx0 hro hap (by omega) ho73 g72
    replace E := E.owned hr1 g72 (Nat.le_refl _)
    replace hM := hM.owned hr1 g72
    replace hno := hno.owned hr1 g72 (by decide)
    refine Sq.assign .plain rfl rfl ?_
    refine Sq.nil ?_
    refine Eq.end ?_
    refine Eq.next ?_
    refine Cq.region ?_
    refine Sq.move .plain rfl rfl ?_
    refine Sq.add .plain rfl rfl rfl (by omega) ?_
    refine Sq.assign .plain rfl rfl ?_
    refine Sq.nil ?_
    have e1 := toNat_succ hi.1
    have e3 := mid_done (k := k.toNat) (by omega) hq
    have e4 := (bfs_prefix1 (f := f) (s := s) (L := L) i.toNat).length_le
    refine Eq.round _ _ ⟨i + 1, _, _, rfl, by rw [e1]; omega, by rw [e1, ← e3]; exact hno, by rw [e1, ← e3]; exact hM, by rw [e1, rowsAt_step hq, ← e3, ← rowTo_done (k := k.toNat) (by omega)]; exact hrs, by rw [e1, ← e3]; exact hlk, E, rfl⟩ (by omega) (.cons rfl (.cons rfl (.cons rfl (.cons rfl (.cons rfl (.cons rfl (.cons rfl (.nil))))))))
  refine Sq.nil ?_
  refine Eq.next ?_
  refine Cq.els rfl ?_
  refine Cq.exit ?_
  refine Eq.past ?_
  refine Eq.past ?_
  refine Eq.hit ?_
  refine Eq.next ?_
  refine Cq.seq ?_
  refine Cq.region ?_
  refine Sq.move .plain rfl rfl ?_
  refine Sq.move .plain rfl rfl ?_
  refine Sq.assign .plain rfl rfl ?_
  refine Sq.assign .plain rfl rfl ?_
  refine Sq.assign .plain rfl rfl ?_
  refine Sq.nil ?_
  refine Eq.next ?_
  refine Cq.ret ?_
  refine Eq.ret3 rfl rfl rfl rfl ?_
  obtain ⟨e8, e9⟩ := ord_fin (f := f) (s := s) (L := L) (i := i.toNat) (by omega) (by omega) hlm
  have e10 := rowsAt_fin (f := f) (s := s) (L := L) (i := i.toNat) (by omega) (by omega)
  rw [e10] at hrs
  rw [e8] at hno
  exact ⟨⟨_, _, by rw [decide_eq_true e9], by rw [if_pos e9]; exact hno, by rw [if_pos e9]; exact hrs.to⟩, E⟩
end Go.Proofs.Ytdejmfkpohgamaa
set_option linter.unusedSimpArgs false
set_option linter.unusedVariables false
namespace Go.Proofs.Ytdejmfkpohgamaa
open Go.RowKit
set_option maxRecDepth 100000 in
theorem trim1_c (w0 : World) (q x : Int) (a : A) (bt b : Nat) (xs : List Int) (hB : Blk w0 bt 57 [Value.slice (some ⟨b, 0, none⟩) a.next.length a.next.length]) (hT : Blk w0 b 62 (xs.map (Value.int .i64))) (hTab : Tab a xs) (hq : 0 ≤ q ∧ q < a.next.length) (hx : 0 ≤ x ∧ x < 6) : Ret Try.prog 93 #[Value.int .i64 q, Value.int .i64 x, Value.pointer (some ⟨bt, 0, none⟩)] w0 (fun v w => v = .int .i64 (goA a q x) ∧ w0 = w) := by
  refine Ret.of (args := [Value.int .i64 q, Value.int .i64 x, Value.pointer (some ⟨bt, 0, none⟩)]) Try.func93 rfl rfl rfl ?_
  rintro _ rfl
  show Cq _ _ _ _ [(0, Value.int .i64 q), (1, Value.int .i64 x), (2, Value.pointer (some ⟨bt, 0, none⟩))] _
  refine Cq.seq ?_
  refine Cq.region ?_
  refine Sq.assign .plain rfl rfl ?_
  refine Sq.nil ?_
  refine Eq.next ?_
  refine Cq.seq ?_
  refine Cq.region ?_
  refine Sq.loadB one57 .plain rfl rfl hB rfl ?_
  refine Sq.move .plain rfl rfl ?_
  refine Sq.move .plain rfl rfl ?_
  refine Sq.val .plain rfl rfl (Still.ixS slk57 rfl rfl (by omega) (by omega)) ?_
  refine Sq.val .plain rfl rfl (Still.ixA ar62 rfl rfl (by omega) (by omega)) ?_
  refine Sq.val .plain rfl rfl (Still.loadB one3 rfl hT (by rw [Nat.zero_add, List.getElem?_map, hTab.2 q x (by first | omega | assumption) (by omega)]; rfl)) ?_
  refine Sq.assign .plain rfl rfl ?_
  refine Sq.nil ?_
  refine Eq.next ?_
  refine Cq.ret ?_
  refine Eq.ret1 rfl rfl ?_
  exact ⟨rfl, rfl⟩
set_option maxRecDepth 100000 in
theorem trim_c (w0 : World) (a : A) (nx ac : Value) (hnx : Rows w0 56 3 nx a.next) (hac : Bools w0 4 ac a.acc) (hv : validA a = true) : Ret Try.prog 59 #[Value.agg #[Value.int .i64 a.al, nx, ac]] w0 (fun v w => OwnA w w0.heap.size v (trim a) ∧ Ext w0 w) := by
  have E := Ext.refl w0
  have hal := (validA_spec.1 hv).1
  refine Ret.of (args := [Value.agg #[Value.int .i64 a.al, nx, ac]]) Try.func59 rfl rfl rfl ?_
  rintro _ rfl
  show Cq _ _ _ _ [(0, Value.agg #[Value.int .i64 a.al, nx, ac])] _
  refine Cq.seq ?_
  refine Cq.region ?_
  refine Sq.box .plain rfl rfl (fun b1 w2 e3 hB4 hlo5 => ?_)
  have hd6 := Nat.le_trans (Below.size E) hlo5
  have hs7 := Below.size e3
  replace E := E.trans e3
  refine Sq.alloc zero26 .plain rfl (fun b8 w9 e10 hB11 hlo12 => ?_)
  have hd13 := Nat.le_trans (Below.size E) hlo12
  have hd14 := Nat.lt_of_lt_of_le hB4.lt hlo12
  have hs15 := Below.size e10
  replace E := E.trans e10
  replace hB4 := hB4.ext e10
  refine Sq.nil ?_
  refine Eq.next ?_
  refine Cq.seq ?_
  refine Cq.region ?_
  refine Sq.loadAgg agg26 .plain rfl rfl hB4 rfl ?_
  have hd24 := hB4.lt
  have hd25 := hB11.lt
  refine Sq.call fn48 .plain rfl rfl (tableOf_c _ a _ _ (hnx.ext E) (hac.ext E) hv) ?_
  rintro _ w17 ⟨⟨b19, xs20, rfl, hlo21, hT22, hTab23⟩, e18⟩
  have hs26 := Below.size E
  have hs27 := Below.size e18
  replace E := E.trans e18
  replace hB4 := hB4.ext e18
  replace hB11 := hB11.ext e18
  refine Sq.alloc1 zero57 rfl .plain rfl (fun b28 w29 e30 hB31 hlo32 => ?_)
  have hd33 := Nat.le_trans (Below.size E) hlo32
  have hd34 := Nat.lt_of_lt_of_le hB4.lt hlo32
  have hd35 := Nat.lt_of_lt_of_le hB11.lt hlo32
  have hd36 := Nat.lt_of_lt_of_le hT22.lt hlo32
  have hs37 := Below.size e30
  replace E := E.trans e30
  replace hB4 := hB4.ext e30
  replace hB11 := hB11.ext e30
  replace hT22 := hT22.ext e30
  refine Sq.store one57 .plain rfl rfl rfl hB31 (by simp) (fun w38 g39 hB40 => ?_)
  have hs41 := World.grownBy.size g39
  replace E := E.grown g39 (fun k hk => by injection hk with hk; subst hk; omega)
  replace hB4 := hB4.grown g39 (by intro h; injection h with h; omega)
  replace hB11 := hB11.grown g39 (by intro h; injection h with h; omega)
  replace hT22 := hT22.grown g39 (by intro h; injection h with h; omega)
  replace hB31 := hB40
  refine Sq.nil ?_
  refine Eq.next ?_
  refine Cq.seq ?_
  refine Cq.drawS 13 (fun w' => Blk w' b1 26 [Value.int .i64 a.al, nx, ac] ∧ Blk w' b28 57 [Value.slice (some ⟨b19, 0, none⟩) a.next.length a.next.length]) mixed (⟨hB4, hB31⟩) (fun w42 e43 hS => ?_)
  clear hS
  have hs44 := Below.size e43
  replace E := E.trans e43
  replace hB4 := hB4.ext e43
  replace hB11 := hB11.ext e43
  replace hT22 := hT22.ext e43
  replace hB31 := hB31.ext e43
  refine Gq.st 0 rfl (by kernel_rfl) rfl .plain rfl (fun _ _ _ h => h) ⟨hB4, hB31⟩ (fun w' x => Still.fieldAddr fld26_0 rfl) ?_
  refine Gq.st 1 rfl (by kernel_rfl) rfl .plain rfl (fun _ _ _ h => h) ⟨hB4, hB31⟩ (fun w' x => Still.loadB one3 rfl x.1 rfl) ?_
  refine Gq.st 3 rfl (by kernel_rfl) rfl .plain rfl (fun _ _ _ h => h) ⟨hB4, hB31⟩ (fun w' x => Still.loadB one57 rfl x.2 rfl) ?_
  refine Gq.st 4 rfl (by kernel_rfl) rfl .plain rfl (fun _ _ _ h => h) ⟨hB4, hB31⟩ (fun w' x => Still.len und57 rfl) ?_
  refine Gq.st 5 rfl (by kernel_rfl) rfl .plain rfl (fun _ _ _ h => h) ⟨hB4, hB31⟩ (fun w' x => Still.makeFunc rfl) ?_
  refine Gq.one 2 rfl (by kernel_rfl) ?_
  have hd49 := hB4.lt
  have hd50 := hB11.lt
  have hd51 := hT22.lt
  have hd52 := hB31.lt
  refine Sq.call fn50 .plain rfl rfl (lettersOf_c a.al (by omega) _) ?_
  rintro v45 w46 ⟨hl48, e47⟩
  have hs53 := Below.size E
  have hs54 := Below.size e47
  replace E := E.trans e47
  replace hB4 := hB4.ext e47
  replace hB11 := hB11.ext e47
  replace hT22 := hT22.ext e47
  replace hB31 := hB31.ext e47
  refine Sq.nil ?_
  refine Eq.goes (fun _ => ⟨hB4, hB31⟩) ?_
  refine Gq.one 6 rfl (by kernel_rfl) ?_
  have hd63 := hB4.lt
  have hd64 := hB11.lt
  have hd65 := hT22.lt
  have hd66 := hB31.lt
  have hvs := validA_spec.1 hv
  have hlet := letters_len6 a.al
  have htl := trim_len hv
  refine Sq.call fn49 .plain rfl rfl (numbered_c _ (goA a) 0 (letters a.al) _ _ (List.length a.next : Int) (fun q => 0 ≤ q ∧ q < (a.next.length : Int)) (by omega) (Own.row hl48) (by omega) (fun x hx => ⟨(mem_letters hx).1, (mem_letters hx).2.1⟩) (zero_in hv) (fun q hq x hx => goA_in hv hq ⟨(mem_letters hx).1, (mem_letters hx).2.1⟩) (fun i => Nat.le_trans (trim_bfs_len hv i) (by omega)) ⟨93, _, [Value.pointer (some ⟨b28, 0, none⟩)], rfl, fn93, fun w q x hx hq hxx => (trim1_c w q x a _ _ _ (hB31.ext hx) (hT22.ext hx) hTab23 hq hxx).mono fun v w' h => ⟨h.1, h.2 ▸ Ext.refl w⟩⟩) ?_
  rintro _ w56 ⟨⟨nv58, xv59, rfl, hn60, hx61⟩, e57⟩
  have hs67 := Below.size E
  have hs68 := Below.size e57
  replace E := E.trans e57
  replace hB4 := hB4.ext e57
  replace hB11 := hB11.ext e57
  replace hT22 := hT22.ext e57
  replace hB31 := hB31.ext e57
  have hl62 : ((((ord (goA a) 0 (letters a.al)).length : Nat) : Int) ≤ (List.length a.next : Int)) := by omega
  rw [if_pos hl62] at hn60 hx61
  refine Sq.nil ?_
  refine Eq.goes (fun _ => ⟨hB4, hB31⟩) ?_
  refine Gq.st 7 rfl (by kernel_rfl) rfl .plain rfl (fun _ _ _ h => h) ⟨hB4, hB31⟩ (fun w' x => Still.move rfl) ?_
  refine Gq.st 8 rfl (by kernel_rfl) rfl .plain rfl (fun _ _ _ h => h) ⟨hB4, hB31⟩ (fun w' x => Still.extract rfl rfl) ?_
  refine Gq.st 9 rfl (by kernel_rfl) rfl .plain rfl (fun _ _ _ h => h) ⟨hB4, hB31⟩ (fun w' x => Still.extract rfl rfl) ?_
  refine Gq.st 10 rfl (by kernel_rfl) rfl .plain rfl (fun _ _ _ h => h) ⟨hB4, hB31⟩ (fun w' x => Still.extract rfl rfl) ?_
  refine Gq.isT (hl62) ?_
  refine Gq.st 11 rfl (by kernel_rfl) rfl .plain rfl (fun _ _ _ h => h) ⟨hB4, hB31⟩ (fun w' x => Still.assign rfl) ?_
  refine Gq.st 12 rfl (by kernel_rfl) rfl .plain rfl (fun _ _ _ h => h) ⟨hB4, hB31⟩ (fun w' x => Still.assign rfl) ?_
  refine Gq.one 13 rfl (by kernel_rfl) ?_
  refine Sq.assign .plain rfl rfl ?_
  refine Sq.nil ?_
  refine Eq.goes (fun h => absurd h (by decide)) ?_
  refine Gq.done (by kernel_rfl) ?_
  refine Eq.next ?_
  refine Cq.seq ?_
  refine Cq.region ?_
  refine Sq.fieldAddr fld26_0 .plain rfl rfl ?_
  refine Sq.loadB one3 .plain rfl rfl hB4 rfl ?_
  refine Sq.move .plain rfl rfl ?_
  refine Sq.build st26 rfl rfl .plain rfl rfl (one_cons rfl (one_cons (Rows.one (OwnRows.rows hx61)) one_nil)) rfl ?_
  refine Sq.alloc zero26 .plain rfl (fun b69 w70 e71 hB72 hlo73 => ?_)
  have hd74 := Nat.le_trans (Below.size E) hlo73
  have hd75 := Nat.lt_of_lt_of_le hB4.lt hlo73
  have hd76 := Nat.lt_of_lt_of_le hB11.lt hlo73
  have hd77 := Nat.lt_of_lt_of_le hT22.lt hlo73
  have hd78 := Nat.lt_of_lt_of_le hB31.lt hlo73
  have hs79 := Below.size e71
  replace E := E.trans e71
  replace hB4 := hB4.ext e71
  replace hB11 := hB11.ext e71
  replace hn60 := hn60.ext e71
  replace hx61 := hx61.ext e71
  refine Sq.storeAgg agg26 .plain rfl rfl (one_cons rfl (one_cons (Rows.one (OwnRows.rows hx61)) (one_cons rfl one_nil))) hB72 rfl rfl (fun w80 g81 hB82 => ?_)
  have hs83 := World.grownBy.size g81
  replace E := E.grown g81 (fun k hk => by injection hk with hk; subst hk; omega)
  replace hB4 := hB4.grown g81 (by intro h; injection h with h; omega)
  replace hB11 := hB11.grown g81 (by intro h; injection h with h; omega)
  replace hn60 := hn60.stored g81 hB72 (by decide)
  replace hx61 := hx61.stored g81 hB72 (by decide) (by decide)
  replace hB72 := hB82
  refine Sq.nil ?_
  refine Eq.next ?_
  refine Cq.seq ?_
  refine Cq.seq ?_
  refine Cq.region ?_
  refine Sq.move .plain rfl rfl ?_
  refine Sq.lenInts (Own.row hn60) .plain rfl und56 rfl ?_
  refine Sq.move .plain rfl rfl ?_
  refine Sq.nil ?_
  refine Eq.next ?_
  refine Cq.block ?_
  have hall := ord_all (f := goA a) (s := 0) (L := letters a.al) (P := fun q => 0 ≤ q ∧ q < (a.next.length : Int)) (zero_in hv) (fun q hq x hx => goA_in hv hq ⟨(mem_letters hx).1, (mem_letters hx).2.1⟩)
  refine Cq.loop (fun nn w ls => ∃ (k : Int), ∃ (acv : Value), ∃ (ys : List Bool), ls = [(1, Value.pointer (some ⟨b1, 0, none⟩)), (2, Value.pointer (some ⟨b8, 0, none⟩)), (7, Value.pointer (some ⟨b69, 0, none⟩)), (27, nv58), (28, Value.int .i64 ((List.length (ord (goA a) 0 (letters a.al)) : Int))), (29, Value.int .i64 k)] ∧ (0 ≤ k ∧ k ≤ (ord (goA a) 0 (letters a.al)).length) ∧ Blk w b69 26 [Value.int .i64 a.al, xv59, acv] ∧ Own w w0.heap.size 4 acv (ys.map Value.bool) ∧ ys = ((ord (goA a) 0 (letters a.al)).take k.toNat).map (accA a) ∧ Ext w0 w ∧ Blk w b1 26 [Value.int .i64 a.al, nx, ac] ∧ Blk w b8 26 [Value.int .i64 0, Value.slice none 0 0, Value.slice none 0 0] ∧ OwnRows w w46.heap.size w56.heap.size 56 3 xv59 ((ord (goA a) 0 (letters a.al)).map (rowAt (goA a) (letters a.al) (ord (goA a) 0 (letters a.al)))) ∧ Own w w46.heap.size 3 nv58 ((ord (goA a) 0 (letters a.al)).map (Value.int .i64)) ∧ nn = (((ord (goA a) 0 (letters a.al)).length : Int) - k).toNat) _ _ ⟨0, _, [], rfl, by omega, hB72, Own.nil _ _ _, rfl, E, hB4, hB11, hx61, hn60, rfl⟩ (.cons rfl (.cons rfl (.cons rfl (.cons rfl (.cons rfl (.cons rfl (.nil))))))) ?_
  rintro nn wl1 ls ⟨k, acv, ys, rfl, hk, hB7, hoa, hys, E, hB4, hB11, hx61, hn60, rfl⟩
  have hs84 := Below.size E
  have hat : k < (ord (goA a) 0 (letters a.al)).length → 0 ≤ (ord (goA a) 0 (letters a.al)).getD k.toNat 0 ∧ (ord (goA a) 0 (letters a.al)).getD k.toNat 0 < a.next.length := fun h => hall _ (getD_mem (by omega))
  have hyl : ys.length ≤ 20 := by rw [hys, List.length_map, List.length_take]; omega
  refine Cq.seq ?_
  refine Cq.region ?_
  refine Sq.lss .plain rfl rfl rfl ?_
  refine Sq.part (fun c85 => ?_) (fun c85 => ?_)
  · refine Sq.nil ?_
    refine Eq.next ?_
    refine Cq.seq ?_
    refine Cq.thn rfl ?_
    refine Cq.skip ?_
    refine Eq.next ?_
    refine Cq.seq ?_
    refine Cq.block ?_
    refine Cq.seq ?_
    refine Cq.region ?_
    refine Sq.idxInts sl56 one3 (Own.row hn60) .plain rfl rfl rfl .plain rfl rfl (by omega) (by omega) ?_
    refine Sq.assign .plain rfl rfl ?_
    refine Sq.nil ?_
    refine Eq.next ?_
    refine Cq.drawS 9 (fun w' => Blk w' b1 26 [Value.int .i64 a.al, nx, ac] ∧ Blk w' b69 26 [Value.int .i64 a.al, xv59, acv] ∧ Ext w0 w') mixed (⟨hB4, hB7, E⟩) (fun w86 e87 hS => ?_)
    clear hS
    have hs88 := Below.size e87
    replace E := E.trans e87
    replace hB4 := hB4.ext e87
    replace hB11 := hB11.ext e87
    replace hx61 := hx61.ext e87
    replace hn60 := hn60.ext e87
    replace hB7 := hB7.ext e87
    replace hoa := hoa.ext e87
    refine Gq.st 0 rfl (by kernel_rfl) rfl .plain rfl (fun _ _ _ h => h) ⟨hB4, hB7, E⟩ (fun w' x => Still.fieldAddr fld26_2 rfl) ?_
    refine Gq.st 1 rfl (by kernel_rfl) rfl .plain rfl (fun _ _ _ h => h) ⟨hB4, hB7, E⟩ (fun w' x => Still.loadB one24 rfl x.2.1 rfl) ?_
    refine Gq.st 2 rfl (by kernel_rfl) rfl .plain rfl (fun _ _ _ h => h) ⟨hB4, hB7, E⟩ (fun w' x => Still.fieldAddr fld26_2 rfl) ?_
    refine Gq.st 3 rfl (by kernel_rfl) rfl .plain rfl (fun _ _ _ h => h) ⟨hB4, hB7, E⟩ (fun w' x => Still.loadB one24 rfl x.1 rfl) ?_
    refine Gq.st 4 rfl (by kernel_rfl) rfl .plain rfl (fun _ _ _ h => h) ⟨hB4, hB7, E⟩ (fun w' x => Still.move rfl) ?_
    obtain ⟨p89, hp90_w86⟩ := Bools.at hac (i := (ord (goA a) 0 (letters a.al)).getD k.toNat 0) (by have := hat (by omega); omega) (by have := hat (by omega); omega)
    refine Gq.st 5 rfl (by kernel_rfl) rfl .plain rfl (fun _ _ _ h => h) ⟨hB4, hB7, E⟩ (fun w' x => Still.at' sl24 hp90_w86 rfl rfl) ?_
    refine Gq.st 6 rfl (by kernel_rfl) rfl .plain rfl (fun _ _ _ h => h) ⟨hB4, hB7, E⟩ (fun w' x => Still.loadA one4 rfl (hp90_w86.ext (x.2.2)).1) ?_
    refine Gq.one 7 rfl (by kernel_rfl) ?_
    refine Sq.lit sl24 rfl rfl .plain rfl rfl (one_cons rfl one_nil) (fun b91 w92 e93 hlo94 ho95 _ => ?_)
    replace ho95 := ho95 w86.heap.size (Nat.le_refl _)
    have hs97 := Below.size e93
    replace E := E.trans e93
    replace hB4 := hB4.ext e93
    replace hB11 := hB11.ext e93
    replace hx61 := hx61.ext e93
    replace hn60 := hn60.ext e93
    replace hB7 := hB7.ext e93
    replace hoa := hoa.ext e93
    refine Sq.nil ?_
    refine Eq.goes (fun _ => ⟨hB4, hB7, E⟩) ?_
    refine Gq.one 8 rfl (by kernel_rfl) ?_
    refine Sq.app sl24 hoa (by omega) (Own.row ho95) (one_cons rfl one_nil) (by first | omega | (simp; omega)) .plain rfl rfl rfl rfl (fun v98 w99 ho101 g100 => ?_)
    have hs102 := g100.size
    replace E := E.owned hoa g100 (by omega)
    replace hB4 := hB4.owned hoa g100 (by decide)
    replace hB11 := hB11.owned hoa g100 (by decide)
    replace hx61 := hx61.owned hoa g100 (by decide) (by decide)
    replace hn60 := hn60.owned hoa g100 (by decide)
    replace hB7 := hB7.owned hoa g100 (by decide)
    refine Sq.nil ?_
    refine Eq.goes (fun _ => ⟨hB4, hB7, E⟩) ?_
    refine Gq.one 9 rfl (by kernel_rfl) ?_
    refine Sq.fieldAddr fld26_2 .plain rfl rfl ?_
    refine Sq.nil ?_
    refine Eq.goes (fun h => absurd h (by decide)) ?_
    refine Gq.one 10 rfl (by kernel_rfl) ?_
    refine Sq.store one24 .plain rfl rfl (Row.one (Own.row ho101)) hB7 (by simp) (fun w103 g104 hB105 => ?_)
    have hs106 := World.grownBy.size g104
    replace E := E.grown g104 (fun k hk => by injection hk with hk; subst hk; omega)
    replace hB4 := hB4.grown g104 (by intro h; injection h with h; omega)
    replace hB11 := hB11.grown g104 (by intro h; injection h with h; omega)
    replace hx61 := hx61.stored g104 hB7 (by decide) (by decide)
    replace hn60 := hn60.stored g104 hB7 (by decide)
    replace ho101 := ho101.stored g104 hB7 (by decide)
    replace hB7 := hB105
    refine Sq.nil ?_
    refine Eq.goes (fun h => absurd h (by decide)) ?_
    refine Gq.done (by kernel_rfl) ?_
    refine Eq.end ?_
    refine Eq.next ?_
    refine Cq.region ?_
    refine Sq.add .plain rfl rfl rfl (by omega) ?_
    refine Sq.move .plain rfl rfl ?_
    refine Sq.nil ?_
    have e1 := toNat_succ hk.1
    refine Eq.round _ _ ⟨k + 1, _, _, rfl, by omega, hB7, Own.snocB ho101, by rw [e1, take_snoc 0 (by omega), List.map_append, ← hys]; rfl, E, hB4, hB11, hx61, hn60, rfl⟩ (by omega) (.cons rfl (.cons rfl (.cons rfl (.cons rfl (.cons rfl (.cons rfl (.nil)))))))
  refine Sq.nil ?_
  refine Eq.next ?_
  refine Cq.seq ?_
  refine Cq.els rfl ?_
  refine Cq.exit ?_
  refine Eq.past ?_
  refine Eq.past ?_
  refine Eq.hit ?_
  refine Eq.next ?_
  refine Cq.seq ?_
  refine Cq.region ?_
  refine Sq.loadAgg agg26 .plain rfl rfl hB7 rfl ?_
  refine Sq.storeAgg agg26 .plain rfl rfl (one_cons rfl (one_cons (Rows.one (OwnRows.rows hx61)) (one_cons (Row.one (Own.row hoa)) one_nil))) hB11 rfl rfl (fun w107 g108 hB109 => ?_)
  have hs110 := World.grownBy.size g108
  replace E := E.grown g108 (fun k hk => by injection hk with hk; subst hk; omega)
  replace hx61 := hx61.stored g108 hB11 (by decide) (by decide)
  replace hoa := hoa.stored g108 hB11 (by decide)
  replace hB11 := hB109
  refine Sq.nil ?_
  refine Eq.next ?_
  refine Cq.ret ?_
  refine Eq.retCell rfl rfl agg26 hB11 rfl ?_
  have e : ys = (trim a).acc := by rw [hys, List.take_of_length_le (by omega)]; rfl
  rw [e] at hoa
  exact ⟨⟨_, _, rfl, OwnRows.now (OwnRows.mono hx61 (by omega)), hoa⟩, E⟩
set_option maxRecDepth 100000 in
theorem trimA_c (w0 : World) (a : A) (nx ac : Value) (hnx : Rows w0 56 3 nx a.next) (hac : Bools w0 4 ac a.acc) : Ret Try.prog 19 #[Value.agg #[Value.int .i64 a.al, nx, ac]] w0 (fun v w => (∃ u, v = .tuple #[u, .bool (validA a)] ∧ OwnA w w0.heap.size u (if validA a then trim a else zeroA)) ∧ Ext w0 w) := by
  have E := Ext.refl w0
  refine Ret.of (args := [Value.agg #[Value.int .i64 a.al, nx, ac]]) Try.func19 rfl rfl rfl ?_
  rintro _ rfl
  show Cq _ _ _ _ [(0, Value.agg #[Value.int .i64 a.al, nx, ac])] _
  refine Cq.seq ?_
  refine Cq.region ?_
  refine Sq.box .plain rfl rfl (fun b1 w2 e3 hB4 hlo5 => ?_)
  have hd6 := Nat.le_trans (Below.size E) hlo5
  have hs7 := Below.size e3
  replace E := E.trans e3
  refine Sq.alloc zero26 .plain rfl (fun b8 w9 e10 hB11 hlo12 => ?_)
  have hd13 := Nat.le_trans (Below.size E) hlo12
  have hd14 := Nat.lt_of_lt_of_le hB4.lt hlo12
  have hs15 := Below.size e10
  replace E := E.trans e10
  replace hB4 := hB4.ext e10
  refine Sq.assign .plain rfl rfl ?_
  refine Sq.nil ?_
  refine Eq.next ?_
  refine Cq.seq ?_
  refine Cq.seq ?_
  refine Cq.region ?_
  refine Sq.loadAgg agg26 .plain rfl rfl hB4 rfl ?_
  have hd19 := hB4.lt
  have hd20 := hB11.lt
  refine Sq.call fn22 .plain rfl rfl (valid_c _ a _ _ (hnx.ext E) (hac.ext E)) ?_
  rintro _ w17 ⟨rfl, e18⟩
  have hs21 := Below.size E
  have hs22 := Below.size e18
  replace E := E.trans e18
  replace hB4 := hB4.ext e18
  replace hB11 := hB11.ext e18
  refine Sq.partB (fun hv => ?_) (fun hv => ?_)
  · refine Sq.notT .plain rfl rfl ?_
    refine Sq.nil ?_
    refine Eq.next ?_
    refine Cq.els rfl ?_
    refine Cq.skip ?_
    refine Eq.next ?_
    refine Cq.seq ?_
    refine Cq.region ?_
    refine Sq.loadAgg agg26 .plain rfl rfl hB4 rfl ?_
    have hd30 := hB4.lt
    have hd31 := hB11.lt
    refine Sq.call fn59 .plain rfl rfl (trim_c _ a _ _ (hnx.ext E) (hac.ext E) hv) ?_
    rintro _ w24 ⟨⟨nx26, ac27, rfl, hn28, ha29⟩, e25⟩
    have hs32 := Below.size E
    have hs33 := Below.size e25
    replace E := E.trans e25
    replace hB11 := hB11.ext e25
    refine Sq.storeAgg agg26 .plain rfl rfl (one_cons rfl (one_cons (Rows.one (OwnRows.rows hn28)) (one_cons (Row.one (Own.row ha29)) one_nil))) hB11 rfl rfl (fun w34 g35 hB36 => ?_)
    have hs37 := World.grownBy.size g35
    replace E := E.grown g35 (fun k hk => by injection hk with hk; subst hk; omega)
    replace hn28 := hn28.stored g35 hB11 (by decide) (by decide)
    replace ha29 := ha29.stored g35 hB11 (by decide)
    replace hB11 := hB36
    refine Sq.assign .plain rfl rfl ?_
    refine Sq.nil ?_
    refine Eq.next ?_
    refine Cq.ret ?_
    refine Eq.retCell2 rfl rfl agg26 hB11 rfl rfl ?_
    exact ⟨⟨_, by rw [hv], by rw [if_pos hv]; exact ⟨_, _, rfl, OwnRows.now (OwnRows.mono hn28 (by omega)), Own.mono ha29 (by omega)⟩⟩, E⟩
  refine Sq.notF .plain rfl rfl ?_
  refine Sq.nil ?_
  refine Eq.next ?_
  refine Cq.thn rfl ?_
  refine Cq.seq ?_
  refine Cq.region ?_
  refine Sq.build st26 rfl rfl .plain rfl rfl one_nil rfl ?_
  refine Sq.storeAgg agg26 .plain rfl rfl (one_cons rfl (one_cons rfl (one_cons rfl one_nil))) hB11 rfl rfl (fun w38 g39 hB40 => ?_)
  have hs41 := World.grownBy.size g39
  replace E := E.grown g39 (fun k hk => by injection hk with hk; subst hk; omega)
  replace hB11 := hB40
  refine Sq.assign .plain rfl rfl ?_
  refine Sq.nil ?_
  refine Eq.next ?_
  refine Cq.ret ?_
  refine Eq.pastRet ?_
  refine Eq.retCell2 rfl rfl agg26 hB11 rfl rfl ?_
  exact ⟨⟨_, by rw [hv], by rw [if_neg (by simp [hv])]; exact ⟨_, _, rfl, OwnRows.nil _ _ _ _ _, Own.nil _ _ _⟩⟩, E⟩
theorem trimA_c_T (w0 : World) (a : A) (nx ac : Value) (hnx : Rows w0 56 3 nx a.next) (hac : Bools w0 4 ac a.acc) (hC : (validA a) = true) : Ret Try.prog 19 #[Value.agg #[Value.int .i64 a.al, nx, ac]] w0 (fun v w => (∃ u, v = .tuple #[u, .bool true] ∧ OwnA w w0.heap.size u (trim a)) ∧ Ext w0 w) :=
  (trimA_c w0 a nx ac hnx hac).mono fun v w h => by rw [hC, if_pos rfl] at h; exact h
theorem trimA_c_F (w0 : World) (a : A) (nx ac : Value) (hnx : Rows w0 56 3 nx a.next) (hac : Bools w0 4 ac a.acc) (hC : (validA a) = false) : Ret Try.prog 19 #[Value.agg #[Value.int .i64 a.al, nx, ac]] w0 (fun v w => (∃ u, v = .tuple #[u, .bool false] ∧ OwnA w w0.heap.size u (zeroA)) ∧ Ext w0 w) :=
  (trimA_c w0 a nx ac hnx hac).mono fun v w h => by rw [hC, if_neg (by decide)] at h; exact h
set_option maxRecDepth 100000 in
theorem l4In_c (w0 : World) (xs : List Int) (r : Value) (hr : Ints w0 3 r xs) (n : Int) (hl : xs.length ≤ 1000000) : Ret Try.prog 125 #[r, Value.int .i64 n] w0 (fun v w => v = .bool (decide (n ∈ xs)) ∧ w0 = w) := by
  refine Ret.of (args := [r, Value.int .i64 n]) Try.func125 rfl rfl rfl ?_
  rintro _ rfl
  show Cq _ _ _ _ [(0, r), (1, Value.int .i64 n)] _
  refine Cq.seq ?_
  refine Cq.region ?_
  refine Sq.assign .plain rfl rfl ?_
  refine Sq.nil ?_
  refine Eq.next ?_
  refine Cq.seq ?_
  refine Cq.seq ?_
  refine Cq.region ?_
  refine Sq.assign .plain rfl rfl ?_
  refine Sq.nil ?_
  refine Eq.next ?_
  refine Cq.block ?_
  refine Cq.loop (fun nn w ls => ∃ (k : Int), ls = [(0, r), (1, Value.int .i64 n), (5, Value.int .i64 k)] ∧ w0 = w ∧ (0 ≤ k ∧ k ≤ xs.length) ∧ n ∉ xs.take k.toNat ∧ nn = ((xs.length : Int) - k).toNat) _ _ ⟨0, rfl, rfl, by omega, by simp, rfl⟩ (.cons rfl (.cons rfl (.cons rfl (.nil)))) ?_
  rintro n1 w ls ⟨k, rfl, rfl, hk, hp, rfl⟩
  refine Cq.seq ?_
  refine Cq.seq ?_
  refine Cq.region ?_
  refine Sq.move .plain rfl rfl ?_
  refine Sq.move .plain rfl rfl ?_
  refine Sq.lenInts hr .plain rfl und56 rfl ?_
  refine Sq.lss .plain rfl rfl rfl ?_
  refine Sq.part (fun c1 => ?_) (fun c1 => ?_)
  · refine Sq.nil ?_
    refine Eq.next ?_
    refine Cq.thn rfl ?_
    refine Cq.skip ?_
    refine Eq.next ?_
    refine Cq.seq ?_
    refine Cq.block ?_
    refine Cq.seq ?_
    refine Cq.region ?_
    refine Sq.move .plain rfl rfl ?_
    refine Sq.move .plain rfl rfl ?_
    refine Sq.idxInts sl56 one3 hr .plain rfl rfl rfl .plain rfl rfl (by omega) (by omega) ?_
    refine Sq.move .plain rfl rfl ?_
    refine Sq.eql .plain rfl rfl rfl ?_
    refine Sq.part (fun hne => ?_) (fun hne => ?_)
    · refine Sq.nil ?_
      refine Eq.next ?_
      refine Cq.thn rfl ?_
      refine Cq.seq ?_
      refine Cq.region ?_
      refine Sq.assign .plain rfl rfl ?_
      refine Sq.nil ?_
      refine Eq.next ?_
      refine Cq.ret ?_
      refine Eq.outRet ?_
      refine Eq.pastRet ?_
      refine Eq.pastRet ?_
      refine Eq.outRet ?_
      refine Eq.pastRet ?_
      refine Eq.ret1 rfl rfl ?_
      exact ⟨by rw [decide_eq_true (hne ▸ getD_mem (by omega))], rfl⟩
    refine Sq.nil ?_
    refine Eq.next ?_
    refine Cq.els rfl ?_
    refine Cq.skip ?_
    refine Eq.end ?_
    refine Eq.next ?_
    refine Cq.region ?_
    refine Sq.move .plain rfl rfl ?_
    refine Sq.add .plain rfl rfl rfl (by omega) ?_
    refine Sq.assign .plain rfl rfl ?_
    refine Sq.nil ?_
    have e1 := toNat_succ hk.1
    refine Eq.round _ _ ⟨k + 1, rfl, rfl, by omega, by rw [e1]; exact notin_snoc hp (by omega) hne, rfl⟩ (by omega) (.cons rfl (.cons rfl (.cons rfl (.nil))))
  refine Sq.nil ?_
  refine Eq.next ?_
  refine Cq.els rfl ?_
  refine Cq.exit ?_
  refine Eq.past ?_
  refine Eq.past ?_
  refine Eq.hit ?_
  refine Eq.next ?_
  refine Cq.seq ?_
  refine Cq.region ?_
  refine Sq.assign .plain rfl rfl ?_
  refine Sq.nil ?_
  refine Eq.next ?_
  refine Cq.ret ?_
  refine Eq.ret1 rfl rfl ?_
  exact ⟨by rw [decide_eq_false (notin_done hp (by omega))], rfl⟩
set_option maxRecDepth 100000 in
theorem l5Index_c (w0 : World) (xs : List Int) (r : Value) (hr : Ints w0 3 r xs) (n : Int) (hl : xs.length ≤ 1000000) (hm : n ∈ xs) : Ret Try.prog 105 #[r, Value.int .i64 n] w0 (fun v w => v = .int .i64 (xs.idxOf n : Nat) ∧ w0 = w) := by
  refine Ret.of (args := [r, Value.int .i64 n]) Try.func105 rfl rfl rfl ?_
  rintro _ rfl
  show Cq _ _ _ _ [(0, r), (1, Value.int .i64 n)] _
  refine Cq.seq ?_
  refine Cq.region ?_
  refine Sq.assign .plain rfl rfl ?_
  refine Sq.nil ?_
  refine Eq.next ?_
  refine Cq.seq ?_
  refine Cq.region ?_
  refine Sq.assign .plain rfl rfl ?_
  refine Sq.nil ?_
  refine Eq.next ?_
  refine Cq.seq ?_
  refine Cq.block ?_
  refine Cq.loop (fun nn w ls => ∃ (k : Int), ls = [(0, r), (1, Value.int .i64 n), (5, Value.int .i64 k)] ∧ w0 = w ∧ (0 ≤ k) ∧ n ∉ xs.take k.toNat ∧ nn = ((xs.length : Int) - k).toNat) _ _ ⟨0, rfl, rfl, by omega, by simp, rfl⟩ (.cons rfl (.cons rfl (.cons rfl (.nil)))) ?_
  rintro n1 w ls ⟨k, rfl, rfl, hk, hp, rfl⟩
  have hlt := notin_lt hm hp
  refine Cq.seq ?_
  refine Cq.seq ?_
  refine Cq.region ?_
  refine Sq.move .plain rfl rfl ?_
  refine Sq.move .plain rfl rfl ?_
  refine Sq.idxInts sl56 one3 hr .plain rfl rfl rfl .plain rfl rfl (by omega) (by omega) ?_
  refine Sq.move .plain rfl rfl ?_
  refine Sq.neq .plain rfl rfl rfl ?_
  refine Sq.part (fun hne => ?_) (fun hne => ?_)
  · refine Sq.nil ?_
    refine Eq.next ?_
    refine Cq.thn rfl ?_
    refine Cq.skip ?_
    refine Eq.next ?_
    refine Cq.block ?_
    refine Cq.region ?_
    refine Sq.move .plain rfl rfl ?_
    refine Sq.add .plain rfl rfl rfl (by omega) ?_
    refine Sq.assign .plain rfl rfl ?_
    refine Sq.nil ?_
    refine Eq.end ?_
    have e1 := toNat_succ hk
    refine Eq.round _ _ ⟨k + 1, rfl, rfl, by omega, by rw [e1]; exact notin_snoc hp (by omega) hne, rfl⟩ (by omega) (.cons rfl (.cons rfl (.cons rfl (.nil))))
  refine Sq.nil ?_
  refine Eq.next ?_
  refine Cq.els rfl ?_
  refine Cq.exit ?_
  refine Eq.past ?_
  refine Eq.past ?_
  refine Eq.hit ?_
  refine Eq.next ?_
  refine Cq.seq ?_
  refine Cq.region ?_
  refine Sq.move .plain rfl rfl ?_
  refine Sq.assign .plain rfl rfl ?_
  refine Sq.nil ?_
  refine Eq.next ?_
  refine Cq.ret ?_
  refine Eq.ret1 rfl rfl ?_
  have e := idx_here hp (by omega) (by omega)
  exact ⟨by rw [e]; congr 1; omega, rfl⟩
set_option maxRecDepth 100000 in
theorem l5Order_c (w0 : World) (a : A) (nx ac : Value) (hnx : Rows w0 56 3 nx a.next) (hac : Bools w0 4 ac a.acc) (hv : validA a = true) : Ret Try.prog 104 #[Value.agg #[Value.int .i64 a.al, nx, ac]] w0 (fun v w => Own w w0.heap.size 3 v ((ord (goA a) 0 (letters a.al)).map (Value.int .i64)) ∧ Ext w0 w) := by
  have E := Ext.refl w0
  have hvs := validA_spec.1 hv
  have hvn := hvs.2.1
  have hlet := letters_len6 a.al
  refine Ret.of (args := [Value.agg #[Value.int .i64 a.al, nx, ac]]) Try.func104 rfl rfl rfl ?_
  rintro _ rfl
  show Cq _ _ _ _ [(0, Value.agg #[Value.int .i64 a.al, nx, ac])] _
  refine Cq.seq ?_
  refine Cq.region ?_
  refine Sq.box .plain rfl rfl (fun b1 w2 e3 hB4 hlo5 => ?_)
  have hd6 := Nat.le_trans (Below.size E) hlo5
  have hs7 := Below.size e3
  replace E := E.trans e3
  refine Sq.assign .plain rfl rfl ?_
  refine Sq.nil ?_
  refine Eq.next ?_
  refine Cq.seq ?_
  refine Cq.region ?_
  refine Sq.lit sl56 rfl rfl .plain rfl rfl (one_cons rfl one_nil) (fun b8 w9 e10 hlo11 ho12 _ => ?_)
  replace ho12 := ho12 w2.heap.size (Nat.le_refl _)
  have hs14 := Below.size e10
  replace E := E.trans e10
  replace hB4 := hB4.ext e10
  refine Sq.assign .plain rfl rfl ?_
  refine Sq.nil ?_
  refine Eq.next ?_
  refine Cq.seq ?_
  refine Cq.seq ?_
  refine Cq.region ?_
  refine Sq.assign .plain rfl rfl ?_
  refine Sq.nil ?_
  refine Eq.next ?_
  refine Cq.block ?_
  refine Cq.loop (fun nn w ls => ∃ (i : Int), ∃ (nv : Value), ls = [(1, Value.pointer (some ⟨b1, 0, none⟩)), (3, nv), (4, Value.int .i64 i)] ∧ (0 ≤ i ∧ i ≤ (bfs (goA a) 0 (letters a.al) i.toNat).length) ∧ Own w w0.heap.size 3 nv ((bfs (goA a) 0 (letters a.al) i.toNat).map (Value.int .i64)) ∧ Ext w0 w ∧ Blk w b1 26 [Value.int .i64 a.al, nx, ac] ∧ nn = (100 - i).toNat) _ _ ⟨0, _, rfl, ⟨by omega, by show (0 : Int) ≤ ((1 : Nat) : Int); omega⟩, Own.mono ho12 (by omega), E, hB4, rfl⟩ (.cons rfl (.cons rfl (.cons rfl (.nil)))) ?_
  rintro nn wl1 ls ⟨i, nv, rfl, hi, hno, E, hB4, rfl⟩
  have hs15 := Below.size E
  have hbl := trim_bfs_len hv i.toNat
  have hb0 := bfs_all (f := goA a) (s := 0) (L := letters a.al) (P := fun q => 0 ≤ q ∧ q < (a.next.length : Int)) (zero_in hv) (fun q hq x hx => goA_in hv hq ⟨(mem_letters hx).1, (mem_letters hx).2.1⟩) i.toNat
  have hqi : i < (bfs (goA a) 0 (letters a.al) i.toNat).length → 0 ≤ (bfs (goA a) 0 (letters a.al) i.toNat).getD i.toNat 0 ∧ (bfs (goA a) 0 (letters a.al) i.toNat).getD i.toNat 0 < a.next.length := fun h => hb0 _ (getD_mem (by omega))
  refine Cq.seq ?_
  refine Cq.seq ?_
  refine Cq.region ?_
  refine Sq.move .plain rfl rfl ?_
  refine Sq.move .plain rfl rfl ?_
  refine Sq.lenInts (Own.row hno) .plain rfl und56 rfl ?_
  refine Sq.lss .plain rfl rfl rfl ?_
  refine Sq.part (fun c16 => ?_) (fun c16 => ?_)
  · refine Sq.nil ?_
    refine Eq.next ?_
    refine Cq.thn rfl ?_
    refine Cq.skip ?_
    refine Eq.next ?_
    refine Cq.seq ?_
    refine Cq.block ?_
    refine Cq.seq ?_
    refine Cq.draw 8 none mixed (fun w17 e18 => ?_)
    have hs19 := Below.size e18
    replace E := E.trans e18
    replace hB4 := hB4.ext e18
    replace hno := hno.ext e18
    have E_w17 := E
    have hB4_w17 := hB4
    have hno_w17 := hno
    refine Gq.st 0 rfl (by kernel_rfl) rfl .plain rfl (fun _ _ _ h => h) (World.grownBy.refl w17 _) (fun w' x => Still.fieldAddr fld26_1 rfl) ?_
    refine Gq.st 1 rfl (by kernel_rfl) rfl .plain rfl (fun _ _ _ h => h) (World.grownBy.refl w17 _) (fun w' x => Still.loadB one23 rfl (hB4_w17.ext (Ext.of_grown x)) rfl) ?_
    refine Gq.st 2 rfl (by kernel_rfl) rfl .plain rfl (fun _ _ _ h => h) (World.grownBy.refl w17 _) (fun w' x => Still.move rfl) ?_
    refine Gq.st 3 rfl (by kernel_rfl) rfl .plain rfl (fun _ _ _ h => h) (World.grownBy.refl w17 _) (fun w' x => Still.move rfl) ?_
    obtain ⟨p20, hp21_w17⟩ := Ints.at (Own.row hno_w17) (i := i) (by omega) (by omega)
    have hp21o := AtO.of hno_w17 hp21_w17
    refine Gq.st 4 rfl (by kernel_rfl) rfl .plain rfl (fun _ _ _ h => h) (World.grownBy.refl w17 _) (fun w' x => Still.at' sl56 hp21_w17 rfl rfl) ?_
    refine Gq.st 5 rfl (by kernel_rfl) rfl .plain rfl (fun _ _ _ h => h) (World.grownBy.refl w17 _) (fun w' x => Still.loadA one3 rfl (hp21_w17.ext (Ext.of_grown x)).1) ?_
    obtain ⟨p22, r24, hp23_w17, hr25⟩ := Rows.at hnx (i := (bfs (goA a) 0 (letters a.al) i.toNat).getD i.toNat 0) (by omega) (by omega)
    refine Gq.st 6 rfl (by kernel_rfl) rfl .plain rfl (fun _ _ _ h => h) (World.grownBy.refl w17 _) (fun w' x => Still.at' sl23 hp23_w17 rfl rfl) ?_
    refine Gq.st 7 rfl (by kernel_rfl) rfl .plain rfl (fun _ _ _ h => h) (World.grownBy.refl w17 _) (fun w' x => Still.loadA one56 rfl (hp23_w17.ext (E_w17.trans (Ext.of_grown x))).1) ?_
    refine Gq.one 8 rfl (by kernel_rfl) ?_
    refine Sq.assign .plain rfl rfl ?_
    refine Sq.nil ?_
    refine Eq.goes (fun h => absurd h (by decide)) ?_
    refine Gq.done (by kernel_rfl) ?_
    refine Eq.next ?_
    refine Cq.seq ?_
    refine Cq.region ?_
    refine Sq.assign .plain rfl rfl ?_
    refine Sq.nil ?_
    refine Eq.next ?_
    refine Cq.block ?_
    obtain ⟨q, hq⟩ : ∃ q, (bfs (goA a) 0 (letters a.al) i.toNat)[i.toNat]? = some q := ⟨_, List.getElem?_eq_getElem (by omega)⟩
    have hqe : (bfs (goA a) 0 (letters a.al) i.toNat).getD i.toNat 0 = q := by rw [List.getD_eq_getElem?_getD, hq]; rfl
    rw [hqe] at hqi hr25
    have hvr := valid_row hv (k := q.toNat) (by omega)
    refine Cq.loop (fun nn w ls => ∃ (k : Int), ∃ (nv2 : Value), ls = [(1, Value.pointer (some ⟨b1, 0, none⟩)), (3, nv2), (4, Value.int .i64 i), (5, r24), (6, Value.int .i64 k)] ∧ (0 ≤ k ∧ k ≤ (letters a.al).length) ∧ Own w w0.heap.size 3 nv2 ((mid (goA a) 0 (letters a.al) i.toNat q k.toNat).map (Value.int .i64)) ∧ Ext w0 w ∧ Blk w b1 26 [Value.int .i64 a.al, nx, ac] ∧ nn = ((letters a.al).length - k).toNat) _ _ ⟨0, _, rfl, by omega, hno, E, hB4, rfl⟩ (.cons rfl (.cons rfl (.cons rfl (.cons rfl (.cons rfl (.nil)))))) ?_
    rintro nn wl2 ls ⟨k, nv2, rfl, hk, hno, E, hB4, rfl⟩
    have hs26 := Below.size E
    have hbl2 := trim_bfs_len hv (i.toNat + 1)
    have hmh := (mid_prefix (f := goA a) (s := 0) (L := letters a.al) (k := k.toNat) hq).length_le
    have hrg : k < (letters a.al).length → _ := fun h => row_go hv (q := q.toNat) (k := k.toNat) (by omega) (by omega)
    have hml := (mid_prefix0 (f := goA a) (s := 0) (L := letters a.al) i.toNat q k.toNat).length_le
    refine Cq.seq ?_
    refine Cq.seq ?_
    refine Cq.region ?_
    refine Sq.move .plain rfl rfl ?_
    refine Sq.move .plain rfl rfl ?_
    refine Sq.lenInts (hr25.ext E) .plain rfl und56 rfl ?_
    refine Sq.lss .plain rfl rfl rfl ?_
    refine Sq.part (fun c27 => ?_) (fun c27 => ?_)
    · refine Sq.nil ?_
      refine Eq.next ?_
      refine Cq.thn rfl ?_
      refine Cq.skip ?_
      refine Eq.next ?_
      refine Cq.seq ?_
      refine Cq.block ?_
      refine Cq.seq ?_
      refine Cq.region ?_
      refine Sq.move .plain rfl rfl ?_
      refine Sq.move .plain rfl rfl ?_
      refine Sq.move .plain rfl rfl ?_
      refine Sq.idxInts sl56 one3 (hr25.ext E) .plain rfl rfl rfl .plain rfl rfl (by omega) (by omega) ?_
      refine Sq.call fn125 .plain rfl rfl (l4In_c _ ((mid (goA a) 0 (letters a.al) i.toNat q k.toNat)) _ (Own.row hno) ((a.next.getD q.toNat []).getD k.toNat 0) (by omega)) ?_
      rintro _ _ ⟨rfl, rfl⟩
      refine Sq.part (fun hin => ?_) (fun hin => ?_)
      · refine Sq.notT .plain rfl rfl ?_
        refine Sq.nil ?_
        refine Eq.next ?_
        refine Cq.els rfl ?_
        refine Cq.skip ?_
        refine Eq.end ?_
        refine Eq.next ?_
        refine Cq.region ?_
        refine Sq.move .plain rfl rfl ?_
        refine Sq.add .plain rfl rfl rfl (by omega) ?_
        refine Sq.assign .plain rfl rfl ?_
        refine Sq.nil ?_
        have e2 := toNat_succ hk.1
        have e5 := mid_succ (f := goA a) (s := 0) (i := i.toNat) (q := q) (k := k.toNat) (L := letters a.al) (by omega)
        have e6 := hrg (by omega)
        rw [Int.toNat_of_nonneg (hqi (by omega)).1] at e6
        rw [e6] at hin
        rw [addNode_T hin] at e5
        refine Eq.round _ _ ⟨k + 1, _, rfl, by omega, by rw [e2, e5]; exact hno, E, hB4, rfl⟩ (by omega) (.cons rfl (.cons rfl (.cons rfl (.cons rfl (.cons rfl (.nil))))))
      refine Sq.notF .plain rfl rfl ?_
      refine Sq.nil ?_
      refine Eq.next ?_
      refine Cq.thn rfl ?_
      refine Cq.region ?_
      refine Sq.move .plain rfl rfl ?_
      refine Sq.move .plain rfl rfl ?_
      refine Sq.move .plain rfl rfl ?_
      refine Sq.idxInts sl56 one3 (hr25.ext E) .plain rfl rfl rfl .plain rfl rfl (by omega) (by omega) ?_
      refine Sq.app1 sl56 hno (by omega) (by rw [List.length_map]; omega) .plain rfl rfl rfl rfl rfl rfl rfl (fun v28 w29 ho31 g30 _ => ?_)
      have hs32 := g30.size
      replace E := E.owned hno g30 (by omega)
      replace hB4 := hB4.owned hno g30 (by decide)
      refine Sq.assign .plain rfl rfl ?_
      refine Sq.nil ?_
      refine Eq.end ?_
      refine Eq.next ?_
      refine Cq.region ?_
      refine Sq.move .plain rfl rfl ?_
      refine Sq.add .plain rfl rfl rfl (by omega) ?_
      refine Sq.assign .plain rfl rfl ?_
      refine Sq.nil ?_
      have e2 := toNat_succ hk.1
      have e5 := mid_succ (f := goA a) (s := 0) (i := i.toNat) (q := q) (k := k.toNat) (L := letters a.al) (by omega)
      have e6 := hrg (by omega)
      rw [Int.toNat_of_nonneg (hqi (by omega)).1] at e6
      rw [e6] at hin
      rw [addNode_F hin] at e5
      rw [e6] at ho31
      refine Eq.round _ _ ⟨k + 1, _, rfl, by omega, by rw [e2, e5]; exact Own.snocI ho31, E, hB4, rfl⟩ (by omega) (.cons rfl (.cons rfl (.cons rfl (.cons rfl (.cons rfl (.nil))))))
    refine Sq.nil ?_
    refine Eq.next ?_
    refine Cq.els rfl ?_
    refine Cq.exit ?_
    refine Eq.past ?_
    refine Eq.past ?_
    refine Eq.hit ?_
    refine Eq.end ?_
    refine Eq.next ?_
    refine Cq.region ?_
    refine Sq.move .plain rfl rfl ?_
    refine Sq.add .plain rfl rfl rfl (by omega) ?_
    refine Sq.assign .plain rfl rfl ?_
    refine Sq.nil ?_
    have e1 := toNat_succ hi.1
    have e3 := mid_done (f := goA a) (s := 0) (L := letters a.al) (k := k.toNat) (by omega) hq
    have e4 := (bfs_prefix1 (f := goA a) (s := 0) (L := letters a.al) i.toNat).length_le
    refine Eq.round _ _ ⟨i + 1, _, rfl, by rw [e1]; omega, by rw [e1, ← e3]; exact hno, E, hB4, rfl⟩ (by omega) (.cons rfl (.cons rfl (.cons rfl (.nil))))
  refine Sq.nil ?_
  refine Eq.next ?_
  refine Cq.els rfl ?_
  refine Cq.exit ?_
  refine Eq.past ?_
  refine Eq.past ?_
  refine Eq.hit ?_
  refine Eq.next ?_
  refine Cq.seq ?_
  refine Cq.region ?_
  refine Sq.move .plain rfl rfl ?_
  refine Sq.assign .plain rfl rfl ?_
  refine Sq.nil ?_
  refine Eq.next ?_
  refine Cq.ret ?_
  refine Eq.ret1 rfl rfl ?_
  rw [ord_done (f := goA a) (s := 0) (L := letters a.al) (i := i.toNat) (by omega) (by omega)] at hno
  exact ⟨hno, E⟩
end Go.Proofs.Ytdejmfkpohgamaa
set_option linter.unusedSimpArgs false
set_option linter.unusedVariables false
namespace Go.Proofs.Ytdejmfkpohgamaa
open Go.RowKit
set_option maxRecDepth 100000 in
theorem l5Trim_c (w0 : World) (a : A) (nx ac : Value) (hnx : Rows w0 56 3 nx a.next) (hac : Bools w0 4 ac a.acc) (hv : validA a = true) : Ret Try.prog 80 #[Value.agg #[Value.int .i64 a.al, nx, ac]] w0 (fun v w => OwnA w w0.heap.size v (trim a) ∧ Ext w0 w) := by
  have E := Ext.refl w0
  have hvs := validA_spec.1 hv
  have hvn := hvs.2.1
  have hlet := letters_len6 a.al
  have htl := trim_len hv
  have hall := ord_all (f := goA a) (s := 0) (L := letters a.al) (P := fun q => 0 ≤ q ∧ q < (a.next.length : Int)) (zero_in hv) (fun q hq x hx => goA_in hv hq ⟨(mem_letters hx).1, (mem_letters hx).2.1⟩)
  refine Ret.of (args := [Value.agg #[Value.int .i64 a.al, nx, ac]]) Try.func80 rfl rfl rfl ?_
  rintro _ rfl
  show Cq _ _ _ _ [(0, Value.agg #[Value.int .i64 a.al, nx, ac])] _
  refine Cq.seq ?_
  refine Cq.region ?_
  refine Sq.box .plain rfl rfl (fun b1 w2 e3 hB4 hlo5 => ?_)
  have hd6 := Nat.le_trans (Below.size E) hlo5
  have hs7 := Below.size e3
  replace E := E.trans e3
  refine Sq.alloc zero26 .plain rfl (fun b8 w9 e10 hB11 hlo12 => ?_)
  have hd13 := Nat.le_trans (Below.size E) hlo12
  have hd14 := Nat.lt_of_lt_of_le hB4.lt hlo12
  have hs15 := Below.size e10
  replace E := E.trans e10
  replace hB4 := hB4.ext e10
  refine Sq.nil ?_
  refine Eq.next ?_
  refine Cq.seq ?_
  refine Cq.region ?_
  refine Sq.loadAgg agg26 .plain rfl rfl hB4 rfl ?_
  have hd20 := hB4.lt
  have hd21 := hB11.lt
  refine Sq.call fn104 .plain rfl rfl (l5Order_c _ a _ _ (hnx.ext E) (hac.ext E) hv) ?_
  rintro v16 w17 ⟨ho19, e18⟩
  have hs22 := Below.size E
  have hs23 := Below.size e18
  replace E := E.trans e18
  replace hB4 := hB4.ext e18
  replace hB11 := hB11.ext e18
  refine Sq.assign .plain rfl rfl ?_
  refine Sq.nil ?_
  refine Eq.next ?_
  refine Cq.seq ?_
  refine Cq.region ?_
  refine Sq.fieldAddr fld26_0 .plain rfl rfl ?_
  refine Sq.loadB one3 .plain rfl rfl hB4 rfl ?_
  refine Sq.build st26 rfl rfl .plain rfl rfl (one_cons rfl one_nil) rfl ?_
  refine Sq.alloc zero26 .plain rfl (fun b24 w25 e26 hB27 hlo28 => ?_)
  have hd29 := Nat.le_trans (Below.size E) hlo28
  have hd30 := Nat.lt_of_lt_of_le hB4.lt hlo28
  have hd31 := Nat.lt_of_lt_of_le hB11.lt hlo28
  have hs32 := Below.size e26
  replace E := E.trans e26
  replace hB4 := hB4.ext e26
  replace hB11 := hB11.ext e26
  replace ho19 := ho19.ext e26
  refine Sq.storeAgg agg26 .plain rfl rfl (one_cons rfl (one_cons rfl (one_cons rfl one_nil))) hB27 rfl rfl (fun w33 g34 hB35 => ?_)
  have hs36 := World.grownBy.size g34
  replace E := E.grown g34 (fun k hk => by injection hk with hk; subst hk; omega)
  replace hB4 := hB4.grown g34 (by intro h; injection h with h; omega)
  replace hB11 := hB11.grown g34 (by intro h; injection h with h; omega)
  replace ho19 := ho19.stored g34 hB27 (by decide)
  replace hB27 := hB35
  refine Sq.nil ?_
  refine Eq.next ?_
  refine Cq.seq ?_
  refine Cq.seq ?_
  refine Cq.region ?_
  refine Sq.assign .plain rfl rfl ?_
  refine Sq.nil ?_
  refine Eq.next ?_
  refine Cq.block ?_
  refine Cq.loop (fun nn w ls => ∃ (i : Int), ∃ (nxv : Value), ∃ (acv : Value), ∃ (xss : List (List Int)), ∃ (ys : List Bool), ls = [(1, Value.pointer (some ⟨b1, 0, none⟩)), (2, Value.pointer (some ⟨b8, 0, none⟩)), (3, v16), (4, Value.pointer (some ⟨b24, 0, none⟩)), (5, Value.int .i64 i)] ∧ (0 ≤ i ∧ i ≤ (ord (goA a) 0 (letters a.al)).length) ∧ Blk w b24 26 [Value.int .i64 a.al, nxv, acv] ∧ OwnRows w w0.heap.size w.heap.size 56 3 nxv xss ∧ Own w w0.heap.size 4 acv (ys.map Value.bool) ∧ xss = ((ord (goA a) 0 (letters a.al)).take i.toNat).map (rowAt (goA a) (letters a.al) (ord (goA a) 0 (letters a.al))) ∧ ys = ((ord (goA a) 0 (letters a.al)).take i.toNat).map (accA a) ∧ Ext w0 w ∧ Blk w b1 26 [Value.int .i64 a.al, nx, ac] ∧ Blk w b8 26 [Value.int .i64 0, Value.slice none 0 0, Value.slice none 0 0] ∧ Own w w9.heap.size 3 v16 ((ord (goA a) 0 (letters a.al)).map (Value.int .i64)) ∧ nn = (((ord (goA a) 0 (letters a.al)).length : Int) - i).toNat) _ _ ⟨0, _, _, [], [], rfl, by omega, hB27, OwnRows.nil _ _ _ _ _, Own.nil _ _ _, rfl, rfl, E, hB4, hB11, ho19, rfl⟩ (.cons rfl (.cons rfl (.cons rfl (.cons rfl (.cons rfl (.nil)))))) ?_
  rintro nn wl1 ls ⟨i, nxv, acv, xss, ys, rfl, hi, hBr, hor, hoa, hxs, hys, E, hB4, hB11, ho19, rfl⟩
  have hs37 := Below.size E
  have hlow := Own.low ho19
  have hat : i < (ord (goA a) 0 (letters a.al)).length → 0 ≤ ((ord (goA a) 0 (letters a.al)).getD i.toNat 0) ∧ ((ord (goA a) 0 (letters a.al)).getD i.toNat 0) < a.next.length := fun h => hall _ (getD_mem (by omega))
  have hxl : xss.length ≤ 20 := by rw [hxs, List.length_map, List.length_take]; omega
  have hyl : ys.length ≤ 20 := by rw [hys, List.length_map, List.length_take]; omega
  refine Cq.seq ?_
  refine Cq.seq ?_
  refine Cq.region ?_
  refine Sq.move .plain rfl rfl ?_
  refine Sq.move .plain rfl rfl ?_
  refine Sq.lenInts (Own.row ho19) .plain rfl und56 rfl ?_
  refine Sq.lss .plain rfl rfl rfl ?_
  refine Sq.part (fun c38 => ?_) (fun c38 => ?_)
  · refine Sq.nil ?_
    refine Eq.next ?_
    refine Cq.thn rfl ?_
    refine Cq.skip ?_
    refine Eq.next ?_
    refine Cq.seq ?_
    refine Cq.block ?_
    refine Cq.seq ?_
    refine Cq.region ?_
    refine Sq.lit sl56 rfl rfl .plain rfl rfl one_nil (fun b39 w40 e41 hlo42 ho43 _ => ?_)
    replace ho43 := ho43 wl1.heap.size (Nat.le_refl _)
    have hs45 := Below.size e41
    replace E := E.trans e41
    replace hB4 := hB4.ext e41
    replace hB11 := hB11.ext e41
    replace ho19 := ho19.ext e41
    replace hBr := hBr.ext e41
    replace hor := hor.ext e41
    replace hoa := hoa.ext e41
    refine Sq.assign .plain rfl rfl ?_
    refine Sq.nil ?_
    refine Eq.next ?_
    refine Cq.seq ?_
    refine Cq.seq ?_
    refine Cq.region ?_
    refine Sq.assign .plain rfl rfl ?_
    refine Sq.nil ?_
    refine Eq.next ?_
    refine Cq.block ?_
    have hq0 := hat (by omega)
    have hvr := valid_row hv (k := ((ord (goA a) 0 (letters a.al)).getD i.toNat 0).toNat) (by omega)
    refine Cq.loop (fun nn w ls => ∃ (k : Int), ∃ (rv : Value), ∃ (row : List Int), ls = [(1, Value.pointer (some ⟨b1, 0, none⟩)), (2, Value.pointer (some ⟨b8, 0, none⟩)), (3, v16), (4, Value.pointer (some ⟨b24, 0, none⟩)), (5, Value.int .i64 i), (6, rv), (7, Value.int .i64 k)] ∧ (0 ≤ k ∧ k ≤ (letters a.al).length) ∧ wl1.heap.size ≤ w.heap.size ∧ Own w wl1.heap.size 3 rv (row.map (Value.int .i64)) ∧ row = rowTo (goA a) (letters a.al) (ord (goA a) 0 (letters a.al)) ((ord (goA a) 0 (letters a.al)).getD i.toNat 0) k.toNat ∧ Ext w0 w ∧ Blk w b1 26 [Value.int .i64 a.al, nx, ac] ∧ Blk w b8 26 [Value.int .i64 0, Value.slice none 0 0, Value.slice none 0 0] ∧ Own w w9.heap.size 3 v16 ((ord (goA a) 0 (letters a.al)).map (Value.int .i64)) ∧ Blk w b24 26 [Value.int .i64 a.al, nxv, acv] ∧ OwnRows w w0.heap.size wl1.heap.size 56 3 nxv xss ∧ Own w w0.heap.size 4 acv (ys.map Value.bool) ∧ nn = ((letters a.al).length - k).toNat) _ _ ⟨0, _, [], rfl, by omega, by omega, ho43, rfl, E, hB4, hB11, ho19, hBr, hor, hoa, rfl⟩ (.cons rfl (.cons rfl (.cons rfl (.cons rfl (.cons rfl (.cons rfl (.cons rfl (.nil)))))))) ?_
    rintro nn wl2 ls ⟨k, rv, row, rfl, hk, hsz, hro, hrow, E, hB4, hB11, ho19, hBr, hor, hoa, rfl⟩
    have hs46 := Below.size E
    have hrl : row.length ≤ 6 := by rw [hrow, rowTo, List.length_map, List.length_take]; omega
    refine Cq.seq ?_
    refine Cq.seq ?_
    refine Cq.draw 11 none mixed (fun w47 e48 => ?_)
    have hs49 := Below.size e48
    replace E := E.trans e48
    replace hB4 := hB4.ext e48
    replace hB11 := hB11.ext e48
    replace ho19 := ho19.ext e48
    replace hBr := hBr.ext e48
    replace hor := hor.ext e48
    replace hoa := hoa.ext e48
    replace hro := hro.ext e48
    have E_w47 := E
    have hB4_w47 := hB4
    have ho19_w47 := ho19
    refine Gq.st 0 rfl (by kernel_rfl) rfl .plain rfl (fun _ _ _ h => h) (World.grownBy.refl w47 _) (fun w' x => Still.move rfl) ?_
    refine Gq.st 1 rfl (by kernel_rfl) rfl .plain rfl (fun _ _ _ h => h) (World.grownBy.refl w47 _) (fun w' x => Still.fieldAddr fld26_1 rfl) ?_
    refine Gq.st 2 rfl (by kernel_rfl) rfl .plain rfl (fun _ _ _ h => h) (World.grownBy.refl w47 _) (fun w' x => Still.loadB one23 rfl (hB4_w47.ext (Ext.of_grown x)) rfl) ?_
    refine Gq.st 3 rfl (by kernel_rfl) rfl .plain rfl (fun _ _ _ h => h) (World.grownBy.refl w47 _) (fun w' x => Still.move rfl) ?_
    refine Gq.st 4 rfl (by kernel_rfl) rfl .plain rfl (fun _ _ _ h => h) (World.grownBy.refl w47 _) (fun w' x => Still.move rfl) ?_
    obtain ⟨p50, hp51_w47⟩ := Ints.at (Own.row ho19_w47) (i := i) (by omega) (by omega)
    have hp51o := AtO.of ho19_w47 hp51_w47
    refine Gq.st 5 rfl (by kernel_rfl) rfl .plain rfl (fun _ _ _ h => h) (World.grownBy.refl w47 _) (fun w' x => Still.at' sl56 hp51_w47 rfl rfl) ?_
    refine Gq.st 6 rfl (by kernel_rfl) rfl .plain rfl (fun _ _ _ h => h) (World.grownBy.refl w47 _) (fun w' x => Still.loadA one3 rfl (hp51_w47.ext (Ext.of_grown x)).1) ?_
    obtain ⟨p52, r54, hp53_w47, hr55⟩ := Rows.at hnx (i := (ord (goA a) 0 (letters a.al)).getD i.toNat 0) (by omega) (by omega)
    refine Gq.st 7 rfl (by kernel_rfl) rfl .plain rfl (fun _ _ _ h => h) (World.grownBy.refl w47 _) (fun w' x => Still.at' sl23 hp53_w47 rfl rfl) ?_
    refine Gq.st 8 rfl (by kernel_rfl) rfl .plain rfl (fun _ _ _ h => h) (World.grownBy.refl w47 _) (fun w' x => Still.loadA one56 rfl (hp53_w47.ext (E_w47.trans (Ext.of_grown x))).1) ?_
    refine Gq.st 9 rfl (by kernel_rfl) rfl .plain rfl (fun _ _ _ h => h) (World.grownBy.refl w47 _) (fun w' x => Still.lenInts (hr55.ext (E_w47.trans (Ext.of_grown x))) und56 rfl) ?_
    refine Gq.st 10 rfl (by kernel_rfl) rfl .plain rfl (fun _ _ _ h => h) (World.grownBy.refl w47 _) (fun w' x => Still.lss rfl rfl) ?_
    refine Gq.part (fun c56 => ?_) (fun c56 => ?_)
    · refine Gq.done (by kernel_rfl) ?_
      refine Eq.next ?_
      refine Cq.thn rfl ?_
      refine Cq.skip ?_
      refine Eq.next ?_
      refine Cq.seq ?_
      refine Cq.block ?_
      have hq0 := hat (by omega)
      obtain ⟨pO, hpO⟩ := Ints.at (Own.row ho19) (i := i) (by omega) (by omega)
      obtain ⟨pR, rR, hpR, hrR⟩ := Rows.at hnx (i := ((ord (goA a) 0 (letters a.al)).getD i.toNat 0)) (by omega) (by omega)
      obtain ⟨pK, hpK⟩ := Ints.at hrR (i := k) (by omega) (by omega)
      have hlowR := Ints.low hrR (by omega)
      replace hpR := hpR.ext E
      replace hpK := hpK.ext E
      have hrg := row_go hv (q := ((ord (goA a) 0 (letters a.al)).getD i.toNat 0).toNat) (k := k.toNat) (by omega) (by omega)
      rw [Int.toNat_of_nonneg hq0.1] at hrg
      have hisin : ((a.next.getD ((ord (goA a) 0 (letters a.al)).getD i.toNat 0).toNat []).getD k.toNat 0) ∈ (ord (goA a) 0 (letters a.al)) := by rw [hrg]; exact ord_closed (by omega) (getD_mem (by omega)) _ (getD_mem (by omega))
      refine Cq.drawS 16 (fun w' => Blk w' b1 26 [Value.int .i64 a.al, nx, ac] ∧ At w' 3 v16 i pO (.int .i64 ((ord (goA a) 0 (letters a.al)).getD i.toNat 0)) ∧ At w' 56 nx ((ord (goA a) 0 (letters a.al)).getD i.toNat 0) pR rR ∧ At w' 3 rR k pK (.int .i64 ((a.next.getD ((ord (goA a) 0 (letters a.al)).getD i.toNat 0).toNat []).getD k.toNat 0))) mixed (⟨hB4, hpO, hpR, hpK⟩) (fun w57 e58 hS => ?_)
      clear hS
      have hs59 := Below.size e58
      replace E := E.trans e58
      replace hB4 := hB4.ext e58
      replace hB11 := hB11.ext e58
      replace ho19 := ho19.ext e58
      replace hBr := hBr.ext e58
      replace hor := hor.ext e58
      replace hoa := hoa.ext e58
      replace hro := hro.ext e58
      replace hpO := hpO.ext e58
      replace hpR := hpR.ext e58
      replace hpK := hpK.ext e58
      refine Gq.st 0 rfl (by kernel_rfl) rfl .plain rfl (fun _ _ _ h => h) ⟨hB4, hpO, hpR, hpK⟩ (fun w' x => Still.move rfl) ?_
      refine Gq.st 1 rfl (by kernel_rfl) rfl .plain rfl (fun _ _ _ h => h) ⟨hB4, hpO, hpR, hpK⟩ (fun w' x => Still.move rfl) ?_
      refine Gq.st 2 rfl (by kernel_rfl) rfl .plain rfl (fun _ _ _ h => h) ⟨hB4, hpO, hpR, hpK⟩ (fun w' x => Still.fieldAddr fld26_1 rfl) ?_
      refine Gq.st 3 rfl (by kernel_rfl) rfl .plain rfl (fun _ _ _ h => h) ⟨hB4, hpO, hpR, hpK⟩ (fun w' x => Still.loadB one23 rfl x.1 rfl) ?_
      refine Gq.st 4 rfl (by kernel_rfl) rfl .plain rfl (fun _ _ _ h => h) ⟨hB4, hpO, hpR, hpK⟩ (fun w' x => Still.move rfl) ?_
      refine Gq.st 5 rfl (by kernel_rfl) rfl .plain rfl (fun _ _ _ h => h) ⟨hB4, hpO, hpR, hpK⟩ (fun w' x => Still.move rfl) ?_
      refine Gq.st 6 rfl (by kernel_rfl) rfl .plain rfl (fun _ _ _ h => h) ⟨hB4, hpO, hpR, hpK⟩ (fun w' x => Still.at' sl56 hpO rfl rfl) ?_
      refine Gq.st 7 rfl (by kernel_rfl) rfl .plain rfl (fun _ _ _ h => h) ⟨hB4, hpO, hpR, hpK⟩ (fun w' x => Still.loadA one3 rfl (x.2.1).1) ?_
      refine Gq.st 8 rfl (by kernel_rfl) rfl .plain rfl (fun _ _ _ h => h) ⟨hB4, hpO, hpR, hpK⟩ (fun w' x => Still.at' sl23 hpR rfl rfl) ?_
      refine Gq.st 9 rfl (by kernel_rfl) rfl .plain rfl (fun _ _ _ h => h) ⟨hB4, hpO, hpR, hpK⟩ (fun w' x => Still.loadA one56 rfl (x.2.2.1).1) ?_
      refine Gq.st 10 rfl (by kernel_rfl) rfl .plain rfl (fun _ _ _ h => h) ⟨hB4, hpO, hpR, hpK⟩ (fun w' x => Still.move rfl) ?_
      refine Gq.st 11 rfl (by kernel_rfl) rfl .plain rfl (fun _ _ _ h => h) ⟨hB4, hpO, hpR, hpK⟩ (fun w' x => Still.at' sl56 hpK rfl rfl) ?_
      refine Gq.st 12 rfl (by kernel_rfl) rfl .plain rfl (fun _ _ _ h => h) ⟨hB4, hpO, hpR, hpK⟩ (fun w' x => Still.loadA one3 rfl (x.2.2.2).1) ?_
      refine Gq.one 13 rfl (by kernel_rfl) ?_
      refine Sq.call fn105 .plain rfl rfl (l5Index_c _ ((ord (goA a) 0 (letters a.al))) _ (Own.row ho19) (((a.next.getD ((ord (goA a) 0 (letters a.al)).getD i.toNat 0).toNat []).getD k.toNat 0)) (by omega) (hisin)) ?_
      rintro _ _ ⟨rfl, rfl⟩
      refine Sq.nil ?_
      refine Eq.goes (fun _ => ⟨hB4, hpO, hpR, hpK⟩) ?_
      refine Gq.one 14 rfl (by kernel_rfl) ?_
      refine Sq.lit sl56 rfl rfl .plain rfl rfl (one_cons rfl one_nil) (fun b60 w61 e62 hlo63 ho64 _ => ?_)
      replace ho64 := ho64 w57.heap.size (Nat.le_refl _)
      have hs66 := Below.size e62
      replace E := E.trans e62
      replace hB4 := hB4.ext e62
      replace hB11 := hB11.ext e62
      replace ho19 := ho19.ext e62
      replace hBr := hBr.ext e62
      replace hor := hor.ext e62
      replace hoa := hoa.ext e62
      replace hro := hro.ext e62
      replace hpO := hpO.ext e62
      replace hpR := hpR.ext e62
      replace hpK := hpK.ext e62
      refine Sq.nil ?_
      refine Eq.goes (fun _ => ⟨hB4, hpO, hpR, hpK⟩) ?_
      refine Gq.one 15 rfl (by kernel_rfl) ?_
      refine Sq.app sl56 hro (by omega) (Own.row ho64) (one_cons rfl one_nil) (by first | omega | (simp; omega)) .plain rfl rfl rfl rfl (fun v67 w68 ho70 g69 => ?_)
      have hs71 := g69.size
      replace E := E.owned hro g69 (by omega)
      replace hB4 := hB4.owned hro g69 (by decide)
      replace hB11 := hB11.owned hro g69 (by decide)
      replace ho19 := ho19.apart hlow hro g69 (by omega)
      replace hBr := hBr.owned hro g69 (by decide)
      replace hor := hor.apart hro g69 (by omega) (by decide)
      replace hoa := hoa.owned hro g69 (by decide)
      replace hpO := hpO.apart hlow hro g69 (by omega)
      replace hpR := hpR.owned hro g69 (by decide)
      replace hpK := hpK.apart hlowR hro g69 (by omega)
      refine Sq.nil ?_
      refine Eq.goes (fun _ => ⟨hB4, hpO, hpR, hpK⟩) ?_
      refine Gq.one 16 rfl (by kernel_rfl) ?_
      refine Sq.assign .plain rfl rfl ?_
      refine Sq.nil ?_
      refine Eq.goes (fun h => absurd h (by decide)) ?_
      refine Gq.done (by kernel_rfl) ?_
      refine Eq.end ?_
      refine Eq.next ?_
      refine Cq.region ?_
      refine Sq.move .plain rfl rfl ?_
      refine Sq.add .plain rfl rfl rfl (by omega) ?_
      refine Sq.assign .plain rfl rfl ?_
      refine Sq.nil ?_
      have e2 := toNat_succ hk.1
      refine Eq.round _ _ ⟨k + 1, _, _, rfl, by omega, by omega, Own.snocI ho70, by rw [e2, rowTo_succ (by omega), ← hrow, hrg], E, hB4, hB11, ho19, hBr, hor, hoa, rfl⟩ (by omega) (.cons rfl (.cons rfl (.cons rfl (.cons rfl (.cons rfl (.cons rfl (.cons rfl (.nil))))))))
    refine Gq.done (by kernel_rfl) ?_
    refine Eq.next ?_
    refine Cq.els rfl ?_
    refine Cq.exit ?_
    refine Eq.past ?_
    refine Eq.past ?_
    refine Eq.hit ?_
    refine Eq.next ?_
    refine Cq.seq ?_
    refine Cq.region ?_
    refine Sq.fieldAddr fld26_1 .plain rfl rfl ?_
    refine Sq.loadB one23 .plain rfl rfl hBr rfl ?_
    refine Sq.move .plain rfl rfl ?_
    obtain ⟨rs76, q77, q78, q79⟩ := OwnRows.open hor (by decide)
    have q79x := Ext.refl w47
    refine Sq.app1 sl23 q77 (by omega) (by rw [q78]; first | omega | (simp; omega)) .plain rfl rfl rfl rfl rfl rfl (Row.one (Own.row hro)) (fun v72 w73 ho75 g74 _ => ?_)
    have hs80 := g74.size
    have ho75r := q79 _ row _ _ _ (Ext.refl _) (Own.mono hro (by omega)) (by omega) ho75 g74
    replace E := E.owned q77 g74 (by omega)
    replace hB4 := hB4.owned q77 g74 (by decide)
    replace hB11 := hB11.owned q77 g74 (by decide)
    replace ho19 := ho19.owned q77 g74 (by decide)
    replace hBr := hBr.owned q77 g74 (by decide)
    replace hoa := hoa.owned q77 g74 (by decide)
    refine Sq.fieldAddr fld26_1 .plain rfl rfl ?_
    refine Sq.store one23 .plain rfl rfl (Rows.one (OwnRows.rows ho75r)) hBr (by simp) (fun w81 g82 hB83 => ?_)
    have hs84 := World.grownBy.size g82
    replace E := E.grown g82 (fun k hk => by injection hk with hk; subst hk; omega)
    replace hB4 := hB4.grown g82 (by intro h; injection h with h; omega)
    replace hB11 := hB11.grown g82 (by intro h; injection h with h; omega)
    replace ho19 := ho19.stored g82 hBr (by decide)
    replace hoa := hoa.stored g82 hBr (by decide)
    replace ho75r := ho75r.stored g82 hBr (by decide) (by decide)
    replace hBr := hB83
    refine Sq.nil ?_
    refine Eq.next ?_
    have hq0 := hat (by omega)
    obtain ⟨pO, hpO⟩ := Ints.at (Own.row ho19) (i := i) (by omega) (by omega)
    refine Cq.drawS 12 (fun w' => Blk w' b1 26 [Value.int .i64 a.al, nx, ac] ∧ Blk w' b24 26 [Value.int .i64 a.al, v72, acv] ∧ At w' 3 v16 i pO (.int .i64 ((ord (goA a) 0 (letters a.al)).getD i.toNat 0)) ∧ Ext w0 w') mixed (⟨hB4, hBr, hpO, E⟩) (fun w85 e86 hS => ?_)
    clear hS
    have hs87 := Below.size e86
    replace E := E.trans e86
    replace hB4 := hB4.ext e86
    replace hB11 := hB11.ext e86
    replace ho19 := ho19.ext e86
    replace hBr := hBr.ext e86
    replace hoa := hoa.ext e86
    replace ho75r := ho75r.ext e86
    replace hpO := hpO.ext e86
    refine Gq.st 0 rfl (by kernel_rfl) rfl .plain rfl (fun _ _ _ h => h) ⟨hB4, hBr, hpO, E⟩ (fun w' x => Still.fieldAddr fld26_2 rfl) ?_
    refine Gq.st 1 rfl (by kernel_rfl) rfl .plain rfl (fun _ _ _ h => h) ⟨hB4, hBr, hpO, E⟩ (fun w' x => Still.loadB one24 rfl x.2.1 rfl) ?_
    refine Gq.st 2 rfl (by kernel_rfl) rfl .plain rfl (fun _ _ _ h => h) ⟨hB4, hBr, hpO, E⟩ (fun w' x => Still.fieldAddr fld26_2 rfl) ?_
    refine Gq.st 3 rfl (by kernel_rfl) rfl .plain rfl (fun _ _ _ h => h) ⟨hB4, hBr, hpO, E⟩ (fun w' x => Still.loadB one24 rfl x.1 rfl) ?_
    refine Gq.st 4 rfl (by kernel_rfl) rfl .plain rfl (fun _ _ _ h => h) ⟨hB4, hBr, hpO, E⟩ (fun w' x => Still.move rfl) ?_
    refine Gq.st 5 rfl (by kernel_rfl) rfl .plain rfl (fun _ _ _ h => h) ⟨hB4, hBr, hpO, E⟩ (fun w' x => Still.move rfl) ?_
    refine Gq.st 6 rfl (by kernel_rfl) rfl .plain rfl (fun _ _ _ h => h) ⟨hB4, hBr, hpO, E⟩ (fun w' x => Still.at' sl56 hpO rfl rfl) ?_
    refine Gq.st 7 rfl (by kernel_rfl) rfl .plain rfl (fun _ _ _ h => h) ⟨hB4, hBr, hpO, E⟩ (fun w' x => Still.loadA one3 rfl (x.2.2.1).1) ?_
    obtain ⟨p88, hp89_w85⟩ := Bools.at hac (i := ((ord (goA a) 0 (letters a.al)).getD i.toNat 0)) (by omega) (by omega)
    refine Gq.st 8 rfl (by kernel_rfl) rfl .plain rfl (fun _ _ _ h => h) ⟨hB4, hBr, hpO, E⟩ (fun w' x => Still.at' sl24 hp89_w85 rfl rfl) ?_
    refine Gq.st 9 rfl (by kernel_rfl) rfl .plain rfl (fun _ _ _ h => h) ⟨hB4, hBr, hpO, E⟩ (fun w' x => Still.loadA one4 rfl (hp89_w85.ext (x.2.2.2)).1) ?_
    refine Gq.one 10 rfl (by kernel_rfl) ?_
    refine Sq.lit sl24 rfl rfl .plain rfl rfl (one_cons rfl one_nil) (fun b90 w91 e92 hlo93 ho94 _ => ?_)
    replace ho94 := ho94 w85.heap.size (Nat.le_refl _)
    have hs96 := Below.size e92
    replace E := E.trans e92
    replace hB4 := hB4.ext e92
    replace hB11 := hB11.ext e92
    replace ho19 := ho19.ext e92
    replace hBr := hBr.ext e92
    replace hoa := hoa.ext e92
    replace ho75r := ho75r.ext e92
    replace hpO := hpO.ext e92
    refine Sq.nil ?_
    refine Eq.goes (fun _ => ⟨hB4, hBr, hpO, E⟩) ?_
    refine Gq.one 11 rfl (by kernel_rfl) ?_
    refine Sq.app sl24 hoa (by omega) (Own.row ho94) (one_cons rfl one_nil) (by first | omega | (simp; omega)) .plain rfl rfl rfl rfl (fun v97 w98 ho100 g99 => ?_)
    have hs101 := g99.size
    replace E := E.owned hoa g99 (by omega)
    replace hB4 := hB4.owned hoa g99 (by decide)
    replace hB11 := hB11.owned hoa g99 (by decide)
    replace ho19 := ho19.owned hoa g99 (by decide)
    replace hBr := hBr.owned hoa g99 (by decide)
    replace ho75r := ho75r.owned hoa g99 (by decide) (by decide)
    replace hpO := hpO.owned hoa g99 (by decide)
    refine Sq.nil ?_
    refine Eq.goes (fun _ => ⟨hB4, hBr, hpO, E⟩) ?_
    refine Gq.one 12 rfl (by kernel_rfl) ?_
    refine Sq.fieldAddr fld26_2 .plain rfl rfl ?_
    refine Sq.nil ?_
    refine Eq.goes (fun h => absurd h (by decide)) ?_
    refine Gq.one 13 rfl (by kernel_rfl) ?_
    refine Sq.store one24 .plain rfl rfl (Row.one (Own.row ho100)) hBr (by simp) (fun w102 g103 hB104 => ?_)
    have hs105 := World.grownBy.size g103
    replace E := E.grown g103 (fun k hk => by injection hk with hk; subst hk; omega)
    replace hB4 := hB4.grown g103 (by intro h; injection h with h; omega)
    replace hB11 := hB11.grown g103 (by intro h; injection h with h; omega)
    replace ho19 := ho19.stored g103 hBr (by decide)
    replace ho75r := ho75r.stored g103 hBr (by decide) (by decide)
    replace ho100 := ho100.stored g103 hBr (by decide)
    replace hBr := hB104
    refine Sq.nil ?_
    refine Eq.goes (fun h => absurd h (by decide)) ?_
    refine Gq.done (by kernel_rfl) ?_
    refine Eq.end ?_
    refine Eq.next ?_
    refine Cq.region ?_
    refine Sq.move .plain rfl rfl ?_
    refine Sq.add .plain rfl rfl rfl (by omega) ?_
    refine Sq.assign .plain rfl rfl ?_
    refine Sq.nil ?_
    have e1 := toNat_succ hi.1
    refine Eq.round _ _ ⟨i + 1, _, _, _, _, rfl, by omega, hBr, OwnRows.now ho75r, Own.snocB ho100, by rw [e1, take_snoc 0 (by omega), List.map_append, ← hxs, hrow, rowTo_done (k := k.toNat) (by omega)]; rfl, by rw [e1, take_snoc 0 (by omega), List.map_append, ← hys]; rfl, E, hB4, hB11, ho19, rfl⟩ (by omega) (.cons rfl (.cons rfl (.cons rfl (.cons rfl (.cons rfl (.nil))))))
  refine Sq.nil ?_
  refine Eq.next ?_
  refine Cq.els rfl ?_
  refine Cq.exit ?_
  refine Eq.past ?_
  refine Eq.past ?_
  refine Eq.hit ?_
  refine Eq.next ?_
  refine Cq.seq ?_
  refine Cq.region ?_
  refine Sq.loadAgg agg26 .plain rfl rfl hBr rfl ?_
  refine Sq.storeAgg agg26 .plain rfl rfl (one_cons rfl (one_cons (Rows.one (OwnRows.rows hor)) (one_cons (Row.one (Own.row hoa)) one_nil))) hB11 rfl rfl (fun w106 g107 hB108 => ?_)
  have hs109 := World.grownBy.size g107
  replace E := E.grown g107 (fun k hk => by injection hk with hk; subst hk; omega)
  replace hor := hor.stored g107 hB11 (by decide) (by decide)
  replace hoa := hoa.stored g107 hB11 (by decide)
  replace hB11 := hB108
  refine Sq.nil ?_
  refine Eq.next ?_
  refine Cq.ret ?_
  refine Eq.retCell rfl rfl agg26 hB11 rfl ?_
  have e : ys = (trim a).acc := by rw [hys, List.take_of_length_le (by omega)]; rfl
  have e2 : xss = (trim a).next := by rw [hxs, List.take_of_length_le (by omega)]; rfl
  rw [e] at hoa
  rw [e2] at hor
  exact ⟨⟨_, _, rfl, OwnRows.now hor, hoa⟩, E⟩
set_option maxRecDepth 100000 in
theorem sTrimA_c (w0 : World) (a : A) (nx ac : Value) (hnx : Rows w0 56 3 nx a.next) (hac : Bools w0 4 ac a.acc) : Ret Try.prog 36 #[Value.agg #[Value.int .i64 a.al, nx, ac]] w0 (fun v w => (∃ u, v = .tuple #[u, .bool (validA a)] ∧ OwnA w w0.heap.size u (if validA a then trim a else zeroA)) ∧ Ext w0 w) := by
  have E := Ext.refl w0
  refine Ret.of (args := [Value.agg #[Value.int .i64 a.al, nx, ac]]) Try.func36 rfl rfl rfl ?_
  rintro _ rfl
  show Cq _ _ _ _ [(0, Value.agg #[Value.int .i64 a.al, nx, ac])] _
  refine Cq.seq ?_
  refine Cq.region ?_
  refine Sq.box .plain rfl rfl (fun b1 w2 e3 hB4 hlo5 => ?_)
  have hd6 := Nat.le_trans (Below.size E) hlo5
  have hs7 := Below.size e3
  replace E := E.trans e3
  refine Sq.alloc zero26 .plain rfl (fun b8 w9 e10 hB11 hlo12 => ?_)
  have hd13 := Nat.le_trans (Below.size E) hlo12
  have hd14 := Nat.lt_of_lt_of_le hB4.lt hlo12
  have hs15 := Below.size e10
  replace E := E.trans e10
  replace hB4 := hB4.ext e10
  refine Sq.assign .plain rfl rfl ?_
  refine Sq.nil ?_
  refine Eq.next ?_
  refine Cq.seq ?_
  refine Cq.seq ?_
  refine Cq.region ?_
  refine Sq.loadAgg agg26 .plain rfl rfl hB4 rfl ?_
  have hd19 := hB4.lt
  have hd20 := hB11.lt
  refine Sq.call fn52 .plain rfl rfl (sValid_c _ a _ _ (hnx.ext E) (hac.ext E)) ?_
  rintro _ w17 ⟨rfl, e18⟩
  have hs21 := Below.size E
  have hs22 := Below.size e18
  replace E := E.trans e18
  replace hB4 := hB4.ext e18
  replace hB11 := hB11.ext e18
  refine Sq.partB (fun hv => ?_) (fun hv => ?_)
  · refine Sq.notT .plain rfl rfl ?_
    refine Sq.nil ?_
    refine Eq.next ?_
    refine Cq.els rfl ?_
    refine Cq.skip ?_
    refine Eq.next ?_
    refine Cq.seq ?_
    refine Cq.region ?_
    refine Sq.loadAgg agg26 .plain rfl rfl hB4 rfl ?_
    have hd30 := hB4.lt
    have hd31 := hB11.lt
    refine Sq.call fn80 .plain rfl rfl (l5Trim_c _ a _ _ (hnx.ext E) (hac.ext E) hv) ?_
    rintro _ w24 ⟨⟨nx26, ac27, rfl, hn28, ha29⟩, e25⟩
    have hs32 := Below.size E
    have hs33 := Below.size e25
    replace E := E.trans e25
    replace hB11 := hB11.ext e25
    refine Sq.storeAgg agg26 .plain rfl rfl (one_cons rfl (one_cons (Rows.one (OwnRows.rows hn28)) (one_cons (Row.one (Own.row ha29)) one_nil))) hB11 rfl rfl (fun w34 g35 hB36 => ?_)
    have hs37 := World.grownBy.size g35
    replace E := E.grown g35 (fun k hk => by injection hk with hk; subst hk; omega)
    replace hn28 := hn28.stored g35 hB11 (by decide) (by decide)
    replace ha29 := ha29.stored g35 hB11 (by decide)
    replace hB11 := hB36
    refine Sq.assign .plain rfl rfl ?_
    refine Sq.nil ?_
    refine Eq.next ?_
    refine Cq.ret ?_
    refine Eq.retCell2 rfl rfl agg26 hB11 rfl rfl ?_
    exact ⟨⟨_, by rw [hv], by rw [if_pos hv]; exact ⟨_, _, rfl, OwnRows.now (OwnRows.mono hn28 (by omega)), Own.mono ha29 (by omega)⟩⟩, E⟩
  refine Sq.notF .plain rfl rfl ?_
  refine Sq.nil ?_
  refine Eq.next ?_
  refine Cq.thn rfl ?_
  refine Cq.seq ?_
  refine Cq.region ?_
  refine Sq.build st26 rfl rfl .plain rfl rfl one_nil rfl ?_
  refine Sq.storeAgg agg26 .plain rfl rfl (one_cons rfl (one_cons rfl (one_cons rfl one_nil))) hB11 rfl rfl (fun w38 g39 hB40 => ?_)
  have hs41 := World.grownBy.size g39
  replace E := E.grown g39 (fun k hk => by injection hk with hk; subst hk; omega)
  replace hB11 := hB40
  refine Sq.assign .plain rfl rfl ?_
  refine Sq.nil ?_
  refine Eq.next ?_
  refine Cq.ret ?_
  refine Eq.pastRet ?_
  refine Eq.retCell2 rfl rfl agg26 hB11 rfl rfl ?_
  exact ⟨⟨_, by rw [hv], by rw [if_neg (by simp [hv])]; exact ⟨_, _, rfl, OwnRows.nil _ _ _ _ _, Own.nil _ _ _⟩⟩, E⟩
theorem sTrimA_c_T (w0 : World) (a : A) (nx ac : Value) (hnx : Rows w0 56 3 nx a.next) (hac : Bools w0 4 ac a.acc) (hC : (validA a) = true) : Ret Try.prog 36 #[Value.agg #[Value.int .i64 a.al, nx, ac]] w0 (fun v w => (∃ u, v = .tuple #[u, .bool true] ∧ OwnA w w0.heap.size u (trim a)) ∧ Ext w0 w) :=
  (sTrimA_c w0 a nx ac hnx hac).mono fun v w h => by rw [hC, if_pos rfl] at h; exact h
theorem sTrimA_c_F (w0 : World) (a : A) (nx ac : Value) (hnx : Rows w0 56 3 nx a.next) (hac : Bools w0 4 ac a.acc) (hC : (validA a) = false) : Ret Try.prog 36 #[Value.agg #[Value.int .i64 a.al, nx, ac]] w0 (fun v w => (∃ u, v = .tuple #[u, .bool false] ∧ OwnA w w0.heap.size u (zeroA)) ∧ Ext w0 w) :=
  (sTrimA_c w0 a nx ac hnx hac).mono fun v w h => by rw [hC, if_neg (by decide)] at h; exact h
end Go.Proofs.Ytdejmfkpohgamaa
set_option linter.unusedSimpArgs false
set_option linter.unusedVariables false
namespace Go.Proofs.Ytdejmfkpohgamaa
open Go.RowKit
set_option maxRecDepth 100000 in
theorem l3Copy_c (w0 : World) (a : A) (nx ac : Value) (hnx : Rows w0 56 3 nx a.next) (hac : Bools w0 4 ac a.acc) (hf : Fit a) : Ret Try.prog 88 #[Value.agg #[Value.int .i64 a.al, nx, ac]] w0 (fun v w => OwnA w w0.heap.size v a ∧ Ext w0 w) := by
  have E := Ext.refl w0
  refine Ret.of (args := [Value.agg #[Value.int .i64 a.al, nx, ac]]) Try.func88 rfl rfl rfl ?_
  rintro _ rfl
  show Cq _ _ _ _ [(0, Value.agg #[Value.int .i64 a.al, nx, ac])] _
  refine Cq.seq ?_
  refine Cq.region ?_
  refine Sq.box .plain rfl rfl (fun b1 w2 e3 hB4 hlo5 => ?_)
  have hd6 := Nat.le_trans (Below.size E) hlo5
  have hs7 := Below.size e3
  replace E := E.trans e3
  refine Sq.alloc zero26 .plain rfl (fun b8 w9 e10 hB11 hlo12 => ?_)
  have hd13 := Nat.le_trans (Below.size E) hlo12
  have hd14 := Nat.lt_of_lt_of_le hB4.lt hlo12
  have hs15 := Below.size e10
  replace E := E.trans e10
  replace hB4 := hB4.ext e10
  refine Sq.nil ?_
  refine Eq.next ?_
  refine Cq.seq ?_
  refine Cq.cut (fun ls w => ∃ (b3 : Nat), ∃ (ac3 : Value), ls = [(1, Value.pointer (some ⟨b1, 0, none⟩)), (2, Value.pointer (some ⟨b8, 0, none⟩)), (3, Value.pointer (some ⟨b3, 0, none⟩))] ∧ Blk w b3 26 [Value.int .i64 a.al, Value.slice none 0 0, ac3] ∧ (w0.heap.size ≤ b3 ∧ b1 < b3 ∧ b8 < b3) ∧ Own w w0.heap.size 4 ac3 (a.acc.map Value.bool) ∧ Ext w0 w ∧ Blk w b1 26 [Value.int .i64 a.al, nx, ac] ∧ Blk w b8 26 [Value.int .i64 0, Value.slice none 0 0, Value.slice none 0 0]) ?_ ?_
  · refine Cq.draw 8 none mixed (fun w16 e17 => ?_)
    have hs18 := Below.size e17
    replace E := E.trans e17
    replace hB4 := hB4.ext e17
    replace hB11 := hB11.ext e17
    have hB4_w16 := hB4
    refine Gq.st 0 rfl (by kernel_rfl) rfl .plain rfl (fun _ _ _ h => h) (World.grownBy.refl w16 _) (fun w' x => Still.fieldAddr fld26_0 rfl) ?_
    refine Gq.st 1 rfl (by kernel_rfl) rfl .plain rfl (fun _ _ _ h => h) (World.grownBy.refl w16 _) (fun w' x => Still.loadB one3 rfl (hB4_w16.ext (Ext.of_grown x)) rfl) ?_
    refine Gq.st 3 rfl (by kernel_rfl) rfl .plain rfl (fun _ _ _ h => h) (World.grownBy.refl w16 _) (fun w' x => Still.fieldAddr fld26_2 rfl) ?_
    refine Gq.st 4 rfl (by kernel_rfl) rfl .plain rfl (fun _ _ _ h => h) (World.grownBy.refl w16 _) (fun w' x => Still.loadB one24 rfl (hB4_w16.ext (Ext.of_grown x)) rfl) ?_
    refine Gq.two 2 7 rfl rfl (by kernel_rfl) ?_ ?_
    · refine Sq.lit sl24 rfl rfl .plain rfl rfl one_nil (fun b19 w20 e21 hlo22 ho23 _ => ?_)
      replace ho23 := ho23 w16.heap.size (Nat.le_refl _)
      have hs25 := Below.size e21
      replace E := E.trans e21
      replace hB4 := hB4.ext e21
      replace hB11 := hB11.ext e21
      refine Sq.nil ?_
      refine Eq.goes (fun _ => (grown_trans (World.grownBy.refl w16 _) (Ext.to_grown e21 _))) ?_
      refine Gq.two 5 7 rfl rfl (by kernel_rfl) ?_ ?_
      · refine Sq.app sl24 ho23 (by omega) (hac.ext E) (one_bools _) (by rw [List.length_map]; simp only [List.length_nil, Nat.zero_add]; first | (have := hf.acc; omega) | omega) .plain rfl rfl rfl rfl (fun v26 w27 ho29 g28 => ?_)
        have hs30 := g28.size
        replace E := E.owned ho23 g28 (by omega)
        replace hB4 := hB4.owned ho23 g28 (by decide)
        replace hB11 := hB11.owned ho23 g28 (by decide)
        simp only [List.nil_append] at ho29
        refine Sq.nil ?_
        refine Eq.goes (fun _ => (grown_new (grown_trans (World.grownBy.refl w16 _) (Ext.to_grown e21 _)) ho23 g28 (by omega))) ?_
        refine Gq.st 6 rfl (by kernel_rfl) rfl .plain rfl (fun _ _ _ h => h) (grown_new (grown_trans (World.grownBy.refl w16 _) (Ext.to_grown e21 _)) ho23 g28 (by omega)) (fun w' x => Still.build st26 rfl rfl rfl (one_cons rfl (one_cons (Row.one (Own.row ho29)) one_nil)) rfl) ?_
        refine Gq.one 7 rfl (by kernel_rfl) ?_
        refine Sq.alloc zero26 .plain rfl (fun b31 w32 e33 hB34 hlo35 => ?_)
        have hd36 := Nat.le_trans (Below.size E) hlo35
        have hd37 := Nat.lt_of_lt_of_le hB4.lt hlo35
        have hd38 := Nat.lt_of_lt_of_le hB11.lt hlo35
        have hs39 := Below.size e33
        replace E := E.trans e33
        replace hB4 := hB4.ext e33
        replace hB11 := hB11.ext e33
        replace ho29 := ho29.ext e33
        refine Sq.nil ?_
        refine Eq.goes (fun _ => (grown_trans (grown_new (grown_trans (World.grownBy.refl w16 _) (Ext.to_grown e21 _)) ho23 g28 (by omega)) (Ext.to_grown e33 _))) ?_
        refine Gq.one 8 rfl (by kernel_rfl) ?_
        refine Sq.storeAgg agg26 .plain rfl rfl (one_cons rfl (one_cons rfl (one_cons (Row.one (Own.row ho29)) one_nil))) hB34 rfl rfl (fun w40 g41 hB42 => ?_)
        have hs43 := World.grownBy.size g41
        replace E := E.grown g41 (fun k hk => by injection hk with hk; subst hk; omega)
        replace hB4 := hB4.grown g41 (by intro h; injection h with h; omega)
        replace hB11 := hB11.grown g41 (by intro h; injection h with h; omega)
        replace ho29 := ho29.stored g41 hB34 (by decide)
        replace hB34 := hB42
        refine Sq.nil ?_
        refine Eq.goes (fun h => absurd h (by decide)) ?_
        refine Gq.done (by kernel_rfl) ?_
        refine Eq.left _ ⟨b31, v26, rfl, hB34, by omega, Own.mono ho29 (by omega), E, hB4, hB11⟩ (.cons rfl (.cons rfl (.cons rfl (.nil))))
      refine Sq.alloc zero26 .plain rfl (fun b44 w45 e46 hB47 hlo48 => ?_)
      have hd49 := Nat.le_trans (Below.size E) hlo48
      have hd50 := Nat.lt_of_lt_of_le hB4.lt hlo48
      have hd51 := Nat.lt_of_lt_of_le hB11.lt hlo48
      have hs52 := Below.size e46
      replace E := E.trans e46
      replace hB4 := hB4.ext e46
      replace hB11 := hB11.ext e46
      replace ho23 := ho23.ext e46
      refine Sq.nil ?_
      refine Eq.goes (fun _ => (grown_trans (grown_trans (World.grownBy.refl w16 _) (Ext.to_grown e21 _)) (Ext.to_grown e46 _))) ?_
      refine Gq.one 5 rfl (by kernel_rfl) ?_
      refine Sq.app sl24 ho23 (by omega) (hac.ext E) (one_bools _) (by rw [List.length_map]; simp only [List.length_nil, Nat.zero_add]; first | (have := hf.acc; omega) | omega) .plain rfl rfl rfl rfl (fun v53 w54 ho56 g55 => ?_)
      have hs57 := g55.size
      replace E := E.owned ho23 g55 (by omega)
      replace hB4 := hB4.owned ho23 g55 (by decide)
      replace hB11 := hB11.owned ho23 g55 (by decide)
      replace hB47 := hB47.owned ho23 g55 (by decide)
      simp only [List.nil_append] at ho56
      refine Sq.nil ?_
      refine Eq.goes (fun _ => (grown_new (grown_trans (grown_trans (World.grownBy.refl w16 _) (Ext.to_grown e21 _)) (Ext.to_grown e46 _)) ho23 g55 (by omega))) ?_
      refine Gq.st 6 rfl (by kernel_rfl) rfl .plain rfl (fun _ _ _ h => h) (grown_new (grown_trans (grown_trans (World.grownBy.refl w16 _) (Ext.to_grown e21 _)) (Ext.to_grown e46 _)) ho23 g55 (by omega)) (fun w' x => Still.build st26 rfl rfl rfl (one_cons rfl (one_cons (Row.one (Own.row ho56)) one_nil)) rfl) ?_
      refine Gq.one 8 rfl (by kernel_rfl) ?_
      refine Sq.storeAgg agg26 .plain rfl rfl (one_cons rfl (one_cons rfl (one_cons (Row.one (Own.row ho56)) one_nil))) hB47 rfl rfl (fun w58 g59 hB60 => ?_)
      have hs61 := World.grownBy.size g59
      replace E := E.grown g59 (fun k hk => by injection hk with hk; subst hk; omega)
      replace hB4 := hB4.grown g59 (by intro h; injection h with h; omega)
      replace hB11 := hB11.grown g59 (by intro h; injection h with h; omega)
      replace ho56 := ho56.stored g59 hB47 (by decide)
      replace hB47 := hB60
      refine Sq.nil ?_
      refine Eq.goes (fun h => absurd h (by decide)) ?_
      refine Gq.done (by kernel_rfl) ?_
      refine Eq.left _ ⟨b44, v53, rfl, hB47, by omega, Own.mono ho56 (by omega), E, hB4, hB11⟩ (.cons rfl (.cons rfl (.cons rfl (.nil))))
    refine Sq.alloc zero26 .plain rfl (fun b62 w63 e64 hB65 hlo66 => ?_)
    have hd67 := Nat.le_trans (Below.size E) hlo66
    have hd68 := Nat.lt_of_lt_of_le hB4.lt hlo66
    have hd69 := Nat.lt_of_lt_of_le hB11.lt hlo66
    have hs70 := Below.size e64
    replace E := E.trans e64
    replace hB4 := hB4.ext e64
    replace hB11 := hB11.ext e64
    refine Sq.nil ?_
    refine Eq.goes (fun _ => (grown_trans (World.grownBy.refl w16 _) (Ext.to_grown e64 _))) ?_
    refine Gq.one 2 rfl (by kernel_rfl) ?_
    refine Sq.lit sl24 rfl rfl .plain rfl rfl one_nil (fun b71 w72 e73 hlo74 ho75 _ => ?_)
    replace ho75 := ho75 w63.heap.size (Nat.le_refl _)
    have hs77 := Below.size e73
    replace E := E.trans e73
    replace hB4 := hB4.ext e73
    replace hB11 := hB11.ext e73
    replace hB65 := hB65.ext e73
    refine Sq.nil ?_
    refine Eq.goes (fun _ => (grown_trans (grown_trans (World.grownBy.refl w16 _) (Ext.to_grown e64 _)) (Ext.to_grown e73 _))) ?_
    refine Gq.one 5 rfl (by kernel_rfl) ?_
    refine Sq.app sl24 ho75 (by omega) (hac.ext E) (one_bools _) (by rw [List.length_map]; simp only [List.length_nil, Nat.zero_add]; first | (have := hf.acc; omega) | omega) .plain rfl rfl rfl rfl (fun v78 w79 ho81 g80 => ?_)
    have hs82 := g80.size
    replace E := E.owned ho75 g80 (by omega)
    replace hB4 := hB4.owned ho75 g80 (by decide)
    replace hB11 := hB11.owned ho75 g80 (by decide)
    replace hB65 := hB65.owned ho75 g80 (by decide)
    simp only [List.nil_append] at ho81
    refine Sq.nil ?_
    refine Eq.goes (fun _ => (grown_new (grown_trans (grown_trans (World.grownBy.refl w16 _) (Ext.to_grown e64 _)) (Ext.to_grown e73 _)) ho75 g80 (by omega))) ?_
    refine Gq.st 6 rfl (by kernel_rfl) rfl .plain rfl (fun _ _ _ h => h) (grown_new (grown_trans (grown_trans (World.grownBy.refl w16 _) (Ext.to_grown e64 _)) (Ext.to_grown e73 _)) ho75 g80 (by omega)) (fun w' x => Still.build st26 rfl rfl rfl (one_cons rfl (one_cons (Row.one (Own.row ho81)) one_nil)) rfl) ?_
    refine Gq.one 8 rfl (by kernel_rfl) ?_
    refine Sq.storeAgg agg26 .plain rfl rfl (one_cons rfl (one_cons rfl (one_cons (Row.one (Own.row ho81)) one_nil))) hB65 rfl rfl (fun w83 g84 hB85 => ?_)
    have hs86 := World.grownBy.size g84
    replace E := E.grown g84 (fun k hk => by injection hk with hk; subst hk; omega)
    replace hB4 := hB4.grown g84 (by intro h; injection h with h; omega)
    replace hB11 := hB11.grown g84 (by intro h; injection h with h; omega)
    replace ho81 := ho81.stored g84 hB65 (by decide)
    replace hB65 := hB85
    refine Sq.nil ?_
    refine Eq.goes (fun h => absurd h (by decide)) ?_
    refine Gq.done (by kernel_rfl) ?_
    refine Eq.left _ ⟨b62, v78, rfl, hB65, by omega, Own.mono ho81 (by omega), E, hB4, hB11⟩ (.cons rfl (.cons rfl (.cons rfl (.nil))))
  rintro ls wc1 ⟨b3, ac3, rfl, hB3, hb3, hoc, E, hB4, hB11⟩
  have hs87 := Below.size E
  refine Eq.next ?_
  refine Cq.seq ?_
  refine Cq.seq ?_
  refine Cq.region ?_
  refine Sq.assign .plain rfl rfl ?_
  refine Sq.nil ?_
  refine Eq.next ?_
  refine Cq.block ?_
  refine Cq.loop (fun nn w ls => ∃ (k : Int), ∃ (v : Value), ls = [(1, Value.pointer (some ⟨b1, 0, none⟩)), (2, Value.pointer (some ⟨b8, 0, none⟩)), (3, Value.pointer (some ⟨b3, 0, none⟩)), (4, Value.int .i64 k)] ∧ (0 ≤ k ∧ k ≤ a.next.length) ∧ Blk w b3 26 [Value.int .i64 a.al, v, ac3] ∧ OwnRows w w0.heap.size w.heap.size 56 3 v (a.next.take k.toNat) ∧ Ext w0 w ∧ Blk w b1 26 [Value.int .i64 a.al, nx, ac] ∧ Blk w b8 26 [Value.int .i64 0, Value.slice none 0 0, Value.slice none 0 0] ∧ Own w w0.heap.size 4 ac3 (a.acc.map Value.bool) ∧ nn = ((a.next.length : Int) - k).toNat) _ _ ⟨0, _, rfl, by omega, hB3, OwnRows.nil _ _ _ _ _, E, hB4, hB11, hoc, rfl⟩ (.cons rfl (.cons rfl (.cons rfl (.cons rfl (.nil))))) ?_
  rintro nn wl1 ls ⟨k, v, rfl, hk, hB3, hor, E, hB4, hB11, hoc, rfl⟩
  have hs88 := Below.size E
  have hn := hf.2.1
  have hro := Fit.row hf (k := k.toNat)
  refine Cq.seq ?_
  refine Cq.seq ?_
  refine Cq.region ?_
  refine Sq.move .plain rfl rfl ?_
  refine Sq.fieldAddr fld26_1 .plain rfl rfl ?_
  refine Sq.loadB one23 .plain rfl rfl hB4 rfl ?_
  refine Sq.lenRows (hnx.ext E) .plain rfl und23 rfl ?_
  refine Sq.lss .plain rfl rfl rfl ?_
  refine Sq.part (fun c89 => ?_) (fun c89 => ?_)
  · refine Sq.nil ?_
    refine Eq.next ?_
    refine Cq.thn rfl ?_
    refine Cq.skip ?_
    refine Eq.next ?_
    refine Cq.seq ?_
    refine Cq.block ?_
    refine Cq.draw 11 (Value.ownBlock v) mixed (fun w90 e91 => ?_)
    have hs92 := Below.size e91
    replace E := E.trans e91
    replace hB4 := hB4.ext e91
    replace hB11 := hB11.ext e91
    replace hoc := hoc.ext e91
    replace hB3 := hB3.ext e91
    replace hor := hor.ext e91
    have E_w90 := E
    have hB4_w90 := hB4
    have hB3_w90 := hB3
    have hor_w90 := hor
    obtain ⟨_, hor_w90q, _, _⟩ := OwnRows.open hor_w90 (by decide)
    refine Gq.st 0 rfl (by kernel_rfl) rfl .plain rfl (fun _ _ _ h => h) (World.grownBy.refl w90 _) (fun w' x => Still.fieldAddr fld26_1 rfl) ?_
    refine Gq.st 1 rfl (by kernel_rfl) rfl .plain rfl (fun _ _ _ h => h) (World.grownBy.refl w90 _) (fun w' x => Still.loadB one23 rfl (hB3_w90.owned hor_w90q x (by decide)) rfl) ?_
    refine Gq.st 3 rfl (by kernel_rfl) rfl .plain rfl (fun _ _ _ h => h) (World.grownBy.refl w90 _) (fun w' x => Still.fieldAddr fld26_1 rfl) ?_
    refine Gq.st 4 rfl (by kernel_rfl) rfl .plain rfl (fun _ _ _ h => h) (World.grownBy.refl w90 _) (fun w' x => Still.loadB one23 rfl (hB4_w90.owned hor_w90q x (by decide)) rfl) ?_
    refine Gq.st 5 rfl (by kernel_rfl) rfl .plain rfl (fun _ _ _ h => h) (World.grownBy.refl w90 _) (fun w' x => Still.move rfl) ?_
    obtain ⟨p93, r95, hp94_w90, hr96⟩ := Rows.at hnx (i := k) (by omega) (by omega)
    refine Gq.st 6 rfl (by kernel_rfl) rfl .plain rfl (fun _ _ _ h => h) (World.grownBy.refl w90 _) (fun w' x => Still.at' sl23 hp94_w90 rfl rfl) ?_
    refine Gq.st 7 rfl (by kernel_rfl) rfl .plain rfl (fun _ _ _ h => h) (World.grownBy.refl w90 _) (fun w' x => Still.loadA one56 rfl (hp94_w90.ext (E_w90.owned hor_w90q x (by omega))).1) ?_
    refine Gq.one 2 rfl (by kernel_rfl) ?_
    refine Sq.lit sl56 rfl rfl .plain rfl rfl one_nil (fun b97 w98 e99 hlo100 ho101 _ => ?_)
    replace ho101 := ho101 w90.heap.size (Nat.le_refl _)
    have hs103 := Below.size e99
    replace E := E.trans e99
    replace hB4 := hB4.ext e99
    replace hB11 := hB11.ext e99
    replace hoc := hoc.ext e99
    replace hB3 := hB3.ext e99
    replace hor := hor.ext e99
    refine Sq.nil ?_
    refine Eq.goes (fun _ => (grown_trans (World.grownBy.refl w90 _) (Ext.to_grown e99 _))) ?_
    refine Gq.one 8 rfl (by kernel_rfl) ?_
    refine Sq.app sl56 ho101 (by omega) (hr96.ext E) (one_ints _) (by rw [List.length_map]; simp only [List.length_nil, Nat.zero_add]; first | (have := hf.acc; omega) | omega) .plain rfl rfl rfl rfl (fun v104 w105 ho107 g106 => ?_)
    have hs108 := g106.size
    replace E := E.owned ho101 g106 (by omega)
    replace hB4 := hB4.owned ho101 g106 (by decide)
    replace hB11 := hB11.owned ho101 g106 (by decide)
    replace hoc := hoc.owned ho101 g106 (by decide)
    replace hB3 := hB3.owned ho101 g106 (by decide)
    replace hor := hor.apart ho101 g106 (by omega) (by decide)
    simp only [List.nil_append] at ho107
    refine Sq.nil ?_
    refine Eq.goes (fun _ => (grown_new (grown_trans (World.grownBy.refl w90 _) (Ext.to_grown e99 _)) ho101 g106 (by omega))) ?_
    refine Gq.one 9 rfl (by kernel_rfl) ?_
    refine Sq.lit sl23 rfl rfl .plain rfl rfl (one_cons (Row.one (Own.row ho107)) one_nil) (fun b109 w110 e111 hlo112 ho113 _ => ?_)
    replace ho113 := ho113 w105.heap.size (Nat.le_refl _)
    have hs115 := Below.size e111
    replace E := E.trans e111
    replace hB4 := hB4.ext e111
    replace hB11 := hB11.ext e111
    replace hoc := hoc.ext e111
    replace hB3 := hB3.ext e111
    replace hor := hor.ext e111
    replace ho107 := ho107.ext e111
    refine Sq.nil ?_
    refine Eq.goes (fun _ => (grown_trans (grown_new (grown_trans (World.grownBy.refl w90 _) (Ext.to_grown e99 _)) ho101 g106 (by omega)) (Ext.to_grown e111 _))) ?_
    refine Gq.one 10 rfl (by kernel_rfl) ?_
    obtain ⟨rs120, q121, q122, q123⟩ := OwnRows.open hor (by decide)
    have q123x := Ext.refl w110
    refine Sq.app sl23 q121 (by omega) (Own.row ho113) (one_cons (Row.one (Own.row ho107)) one_nil) (by rw [q122]; simp; omega) .plain rfl rfl rfl rfl (fun v116 w117 ho119 g118 => ?_)
    have hs124 := g118.size
    have ho119r := q123 _ (a.next.getD k.toNat []) _ _ _ (Ext.refl _) (Own.mono ho107 (by omega)) (by omega) ho119 g118
    replace E := E.owned q121 g118 (by omega)
    replace hB4 := hB4.owned q121 g118 (by decide)
    replace hB11 := hB11.owned q121 g118 (by decide)
    replace hoc := hoc.owned q121 g118 (by decide)
    replace hB3 := hB3.owned q121 g118 (by decide)
    refine Sq.nil ?_
    refine Eq.goes (fun _ => (grown_trans (grown_trans (grown_new (grown_trans (World.grownBy.refl w90 _) (Ext.to_grown e99 _)) ho101 g106 (by omega)) (Ext.to_grown e111 _)) g118)) ?_
    refine Gq.one 11 rfl (by kernel_rfl) ?_
    refine Sq.fieldAddr fld26_1 .plain rfl rfl ?_
    refine Sq.nil ?_
    refine Eq.goes (fun h => absurd h (by decide)) ?_
    refine Gq.one 12 rfl (by kernel_rfl) ?_
    refine Sq.store one23 .plain rfl rfl (Rows.one (OwnRows.rows ho119r)) hB3 (by simp) (fun w125 g126 hB127 => ?_)
    have hs128 := World.grownBy.size g126
    replace E := E.grown g126 (fun k hk => by injection hk with hk; subst hk; omega)
    replace hB4 := hB4.grown g126 (by intro h; injection h with h; omega)
    replace hB11 := hB11.grown g126 (by intro h; injection h with h; omega)
    replace hoc := hoc.stored g126 hB3 (by decide)
    replace ho119r := ho119r.stored g126 hB3 (by decide) (by decide)
    replace hB3 := hB127
    refine Sq.nil ?_
    refine Eq.goes (fun h => absurd h (by decide)) ?_
    refine Gq.done (by kernel_rfl) ?_
    refine Eq.end ?_
    refine Eq.next ?_
    refine Cq.region ?_
    refine Sq.move .plain rfl rfl ?_
    refine Sq.add .plain rfl rfl rfl (by omega) ?_
    refine Sq.assign .plain rfl rfl ?_
    refine Sq.nil ?_
    have e1 := toNat_succ hk.1
    refine Eq.round _ _ ⟨k + 1, _, rfl, by omega, hB3, by rw [e1, take_snoc [] (by omega)]; exact OwnRows.now ho119r, E, hB4, hB11, hoc, rfl⟩ (by omega) (.cons rfl (.cons rfl (.cons rfl (.cons rfl (.nil)))))
  refine Sq.nil ?_
  refine Eq.next ?_
  refine Cq.els rfl ?_
  refine Cq.exit ?_
  refine Eq.past ?_
  refine Eq.past ?_
  refine Eq.hit ?_
  refine Eq.next ?_
  refine Cq.seq ?_
  refine Cq.region ?_
  refine Sq.loadAgg agg26 .plain rfl rfl hB3 rfl ?_
  refine Sq.storeAgg agg26 .plain rfl rfl (one_cons rfl (one_cons (Rows.one (OwnRows.rows hor)) (one_cons (Row.one (Own.row hoc)) one_nil))) hB11 rfl rfl (fun w129 g130 hB131 => ?_)
  have hs132 := World.grownBy.size g130
  replace E := E.grown g130 (fun k hk => by injection hk with hk; subst hk; omega)
  replace hoc := hoc.stored g130 hB11 (by decide)
  replace hor := hor.stored g130 hB11 (by decide) (by decide)
  replace hB11 := hB131
  refine Sq.nil ?_
  refine Eq.next ?_
  refine Cq.ret ?_
  refine Eq.retCell rfl rfl agg26 hB11 rfl ?_
  have e : a.next.take k.toNat = a.next := List.take_of_length_le (by omega)
  rw [e] at hor
  exact ⟨⟨v, ac3, rfl, OwnRows.now hor, hoc⟩, E⟩
end Go.Proofs.Ytdejmfkpohgamaa
set_option linter.unusedSimpArgs false
set_option linter.unusedVariables false
namespace Go.Proofs.Ytdejmfkpohgamaa
open Go.RowKit
set_option maxRecDepth 100000 in
theorem pick_c (w0 : World) (rb : Nat) (bv : Value) (p : Int) (bs : List UInt8) (e0 : TypeId) (hR : Blk w0 rb 88 [bv, .int .i64 p]) (hb : Src w0 e0 bv bs rb) (hbl : bs.length ≤ 2000) (hp : 0 ≤ p ∧ p ≤ 1000000000) (n : Int) (hn : n ≤ 1000000000) : Ret Try.prog 43 #[Value.pointer (some ⟨rb, 0, none⟩), Value.int .i64 n] w0 (fun v w => (∃ p', (p ≤ p' ∧ p' ≤ p + 1) ∧ Blk w rb 88 [bv, .int .i64 p'] ∧ w0.grownBy w (some rb)) ∧ ∃ k, v = .int .i64 k ∧ 0 ≤ k ∧ (1 ≤ n → k < n) ∧ (n < 1 → k = 0)) := by
  have G := World.grownBy.refl w0 (some rb)
  have hlt := hR.lt
  refine Ret.of (args := [Value.pointer (some ⟨rb, 0, none⟩), Value.int .i64 n]) Try.func43 rfl rfl rfl ?_
  rintro _ rfl
  show Cq _ _ _ _ [(0, Value.pointer (some ⟨rb, 0, none⟩)), (1, Value.int .i64 n)] _
  refine Cq.seq ?_
  refine Cq.region ?_
  refine Sq.assign .plain rfl rfl ?_
  refine Sq.nil ?_
  refine Eq.next ?_
  refine Cq.seq ?_
  refine Cq.region ?_
  refine Sq.move .plain rfl rfl ?_
  refine Sq.move .plain rfl rfl ?_
  refine Sq.nilCheck .plain rfl rfl ?_
  refine Sq.fieldAddr fld88_1 .plain rfl rfl ?_
  refine Sq.loadB one3 .plain rfl rfl hR rfl ?_
  refine Sq.add .plain rfl rfl rfl (by omega) ?_
  refine Sq.nilCheck .plain rfl rfl ?_
  refine Sq.fieldAddr fld88_1 .plain rfl rfl ?_
  refine Sq.store one3 .plain rfl rfl rfl hR (by simp) (fun w1 g2 hB3 => ?_)
  have hs4 := World.grownBy.size g2
  replace G := grown_trans G g2
  replace hR := hB3
  refine Sq.nil ?_
  refine Eq.next ?_
  refine Cq.seq ?_
  refine Cq.seq ?_
  refine Cq.region ?_
  refine Sq.move .plain rfl rfl ?_
  refine Sq.lss .plain rfl rfl rfl ?_
  refine Sq.part (fun c5 => ?_) (fun c5 => ?_)
  · refine Sq.move .plain rfl rfl ?_
    refine Sq.off rfl rfl rfl rfl rfl rfl ?_
    refine Sq.off rfl rfl rfl rfl rfl rfl ?_
    refine Sq.off rfl rfl rfl rfl rfl rfl ?_
    refine Sq.off rfl rfl rfl rfl rfl rfl ?_
    refine Sq.off rfl rfl rfl rfl rfl rfl ?_
    refine Sq.off rfl rfl rfl rfl rfl rfl ?_
    refine Sq.pickT .plain rfl rfl rfl ?_
    refine Sq.nil ?_
    refine Eq.next ?_
    refine Cq.thn rfl ?_
    refine Cq.seq ?_
    refine Cq.region ?_
    refine Sq.assign .plain rfl rfl ?_
    refine Sq.nil ?_
    refine Eq.next ?_
    refine Cq.ret ?_
    refine Eq.pastRet ?_
    refine Eq.ret1 rfl rfl ?_
    exact ⟨⟨_, by omega, hR, G⟩, _, rfl, by first | omega | exact rem_ok _ (by omega)⟩
  refine Sq.move .plain rfl rfl ?_
  refine Sq.move (.met rfl rfl rfl) rfl rfl ?_
  refine Sq.nilCheck (.met rfl rfl rfl) rfl rfl ?_
  refine Sq.fieldAddr fld88_0 (.met rfl rfl rfl) rfl rfl ?_
  refine Sq.loadB one22 (.met rfl rfl rfl) rfl rfl hR rfl ?_
  refine Sq.lenBytes (hb.ext G) (.met rfl rfl rfl) rfl und22 rfl ?_
  refine Sq.eql (.met rfl rfl rfl) rfl rfl rfl ?_
  refine Sq.part (fun c6 => ?_) (fun c6 => ?_)
  · refine Sq.pickF .plain rfl rfl rfl ?_
    refine Sq.nil ?_
    refine Eq.next ?_
    refine Cq.thn rfl ?_
    refine Cq.seq ?_
    refine Cq.region ?_
    refine Sq.assign .plain rfl rfl ?_
    refine Sq.nil ?_
    refine Eq.next ?_
    refine Cq.ret ?_
    refine Eq.pastRet ?_
    refine Eq.ret1 rfl rfl ?_
    exact ⟨⟨_, by omega, hR, G⟩, _, rfl, by first | omega | exact rem_ok _ (by omega)⟩
  refine Sq.pickF .plain rfl rfl rfl ?_
  refine Sq.nil ?_
  refine Eq.next ?_
  refine Cq.els rfl ?_
  refine Cq.skip ?_
  refine Eq.next ?_
  refine Cq.seq ?_
  refine Cq.region ?_
  refine Sq.move .plain rfl rfl ?_
  refine Sq.nilCheck .plain rfl rfl ?_
  refine Sq.fieldAddr fld88_1 .plain rfl rfl ?_
  refine Sq.loadB one3 .plain rfl rfl hR rfl ?_
  refine Sq.sub .plain rfl rfl rfl (by omega) ?_
  refine Sq.assign .plain rfl rfl ?_
  refine Sq.nil ?_
  refine Eq.next ?_
  refine Cq.seq ?_
  refine Cq.seq ?_
  refine Cq.region ?_
  refine Sq.move .plain rfl rfl ?_
  refine Sq.move .plain rfl rfl ?_
  refine Sq.nilCheck .plain rfl rfl ?_
  refine Sq.fieldAddr fld88_0 .plain rfl rfl ?_
  refine Sq.loadB one22 .plain rfl rfl hR rfl ?_
  refine Sq.lenBytes (hb.ext G) .plain rfl und22 rfl ?_
  refine Sq.lss .plain rfl rfl rfl ?_
  refine Sq.part (fun c7 => ?_) (fun c7 => ?_)
  · refine Sq.nil ?_
    refine Eq.next ?_
    refine Cq.thn rfl ?_
    refine Cq.seq ?_
    refine Cq.region ?_
    refine Sq.move .plain rfl rfl ?_
    refine Sq.nilCheck .plain rfl rfl ?_
    refine Sq.fieldAddr fld88_0 .plain rfl rfl ?_
    refine Sq.loadB one22 .plain rfl rfl hR rfl ?_
    refine Sq.move .plain rfl rfl ?_
    refine Sq.idxBytes sl22 one5 (hb.ext G) .plain rfl rfl rfl .plain rfl rfl (by omega) (by omega) ?_
    refine Sq.conv conv5_3 .plain rfl rfl (u8_ok _) ?_
    refine Sq.move .plain rfl rfl ?_
    refine Sq.rem .plain rfl rfl rfl (by omega) ?_
    refine Sq.assign .plain rfl rfl ?_
    refine Sq.nil ?_
    refine Eq.next ?_
    refine Cq.ret ?_
    refine Eq.pastRet ?_
    refine Eq.ret1 rfl rfl ?_
    exact ⟨⟨_, by omega, hR, G⟩, _, rfl, by first | omega | exact rem_ok _ (by omega)⟩
  refine Sq.nil ?_
  refine Eq.next ?_
  refine Cq.els rfl ?_
  refine Cq.skip ?_
  refine Eq.next ?_
  refine Cq.seq ?_
  refine Cq.draw 45 none mixed (fun w8 e9 => ?_)
  have hs10 := Below.size e9
  replace hR := hR.ext e9
  replace G := grown_trans G (Ext.to_grown e9 _)
  have hR_w8 := hR
  have G_w8 := G
  refine Gq.st 0 rfl (by kernel_rfl) rfl .plain rfl (fun _ _ _ h => h) (World.grownBy.refl w8 _) (fun w' x => Still.move rfl) ?_
  refine Gq.st 1 rfl (by kernel_rfl) rfl .plain rfl (fun _ _ _ h => h) (World.grownBy.refl w8 _) (fun w' x => Still.nilCheck rfl) ?_
  refine Gq.st 2 rfl (by kernel_rfl) rfl .plain rfl (fun _ _ _ h => h) (World.grownBy.refl w8 _) (fun w' x => Still.fieldAddr fld88_0 rfl) ?_
  refine Gq.st 3 rfl (by kernel_rfl) rfl .plain rfl (fun _ _ _ h => h) (World.grownBy.refl w8 _) (fun w' x => Still.loadB one22 rfl (hR_w8.ext (Ext.of_grown x)) rfl) ?_
  refine Gq.st 4 rfl (by kernel_rfl) rfl .plain rfl (fun _ _ _ h => h) (World.grownBy.refl w8 _) (fun w' x => Still.move rfl) ?_
  refine Gq.st 5 rfl (by kernel_rfl) rfl .plain rfl (fun _ _ _ h => h) (World.grownBy.refl w8 _) (fun w' x => Still.move rfl) ?_
  refine Gq.st 6 rfl (by kernel_rfl) rfl .plain rfl (fun _ _ _ h => h) (World.grownBy.refl w8 _) (fun w' x => Still.nilCheck rfl) ?_
  refine Gq.st 7 rfl (by kernel_rfl) rfl .plain rfl (fun _ _ _ h => h) (World.grownBy.refl w8 _) (fun w' x => Still.fieldAddr fld88_0 rfl) ?_
  refine Gq.st 8 rfl (by kernel_rfl) rfl .plain rfl (fun _ _ _ h => h) (World.grownBy.refl w8 _) (fun w' x => Still.loadB one22 rfl (hR_w8.ext (Ext.of_grown x)) rfl) ?_
  refine Gq.st 9 rfl (by kernel_rfl) rfl .plain rfl (fun _ _ _ h => h) (World.grownBy.refl w8 _) (fun w' x => Still.lenBytes (hb.ext (grown_trans G_w8 (Ext.to_grown (Ext.of_grown x) _))) und22 rfl) ?_
  refine Gq.st 10 rfl (by kernel_rfl) rfl .plain rfl (fun _ _ _ h => h) (World.grownBy.refl w8 _) (fun w' x => Still.rem rfl rfl (by omega)) ?_
  obtain ⟨p11, hp12_w8⟩ := Bytes.at (hb.ext G_w8) (i := ((p + 1) - 1) % (List.length bs : Int)) ((rem_in (by omega) (by omega)).1) (rem_lt (by omega) (by omega))
  refine Gq.st 11 rfl (by kernel_rfl) rfl .plain rfl (fun _ _ _ h => h) (World.grownBy.refl w8 _) (fun w' x => Still.at' sl22 hp12_w8 rfl rfl) ?_
  refine Gq.st 12 rfl (by kernel_rfl) rfl .plain rfl (fun _ _ _ h => h) (World.grownBy.refl w8 _) (fun w' x => Still.loadA one5 rfl (hp12_w8.ext (Ext.of_grown x)).1) ?_
  refine Gq.st 13 rfl (by kernel_rfl) rfl .plain rfl (fun _ _ _ h => h) (World.grownBy.refl w8 _) (fun w' x => Still.conv conv5_3 rfl (u8_ok _)) ?_
  refine Gq.st 14 rfl (by kernel_rfl) rfl .plain rfl (fun _ _ _ h => h) (World.grownBy.refl w8 _) (fun w' x => Still.mul rfl rfl (u8_mul _ (by decide))) ?_
  refine Gq.st 15 rfl (by kernel_rfl) rfl .plain rfl (fun _ _ _ h => h) (World.grownBy.refl w8 _) (fun w' x => Still.move rfl) ?_
  refine Gq.st 16 rfl (by kernel_rfl) rfl .plain rfl (fun _ _ _ h => h) (World.grownBy.refl w8 _) (fun w' x => Still.nilCheck rfl) ?_
  refine Gq.st 17 rfl (by kernel_rfl) rfl .plain rfl (fun _ _ _ h => h) (World.grownBy.refl w8 _) (fun w' x => Still.fieldAddr fld88_0 rfl) ?_
  refine Gq.st 18 rfl (by kernel_rfl) rfl .plain rfl (fun _ _ _ h => h) (World.grownBy.refl w8 _) (fun w' x => Still.loadB one22 rfl (hR_w8.ext (Ext.of_grown x)) rfl) ?_
  refine Gq.st 19 rfl (by kernel_rfl) rfl .plain rfl (fun _ _ _ h => h) (World.grownBy.refl w8 _) (fun w' x => Still.move rfl) ?_
  refine Gq.st 20 rfl (by kernel_rfl) rfl .plain rfl (fun _ _ _ h => h) (World.grownBy.refl w8 _) (fun w' x => Still.mul rfl rfl (by omega)) ?_
  refine Gq.st 21 rfl (by kernel_rfl) rfl .plain rfl (fun _ _ _ h => h) (World.grownBy.refl w8 _) (fun w' x => Still.add rfl rfl (by omega)) ?_
  refine Gq.st 22 rfl (by kernel_rfl) rfl .plain rfl (fun _ _ _ h => h) (World.grownBy.refl w8 _) (fun w' x => Still.move rfl) ?_
  refine Gq.st 23 rfl (by kernel_rfl) rfl .plain rfl (fun _ _ _ h => h) (World.grownBy.refl w8 _) (fun w' x => Still.nilCheck rfl) ?_
  refine Gq.st 24 rfl (by kernel_rfl) rfl .plain rfl (fun _ _ _ h => h) (World.grownBy.refl w8 _) (fun w' x => Still.fieldAddr fld88_0 rfl) ?_
  refine Gq.st 25 rfl (by kernel_rfl) rfl .plain rfl (fun _ _ _ h => h) (World.grownBy.refl w8 _) (fun w' x => Still.loadB one22 rfl (hR_w8.ext (Ext.of_grown x)) rfl) ?_
  refine Gq.st 26 rfl (by kernel_rfl) rfl .plain rfl (fun _ _ _ h => h) (World.grownBy.refl w8 _) (fun w' x => Still.lenBytes (hb.ext (grown_trans G_w8 (Ext.to_grown (Ext.of_grown x) _))) und22 rfl) ?_
  refine Gq.st 27 rfl (by kernel_rfl) rfl .plain rfl (fun _ _ _ h => h) (World.grownBy.refl w8 _) (fun w' x => Still.rem rfl rfl (by omega)) ?_
  obtain ⟨p13, hp14_w8⟩ := Bytes.at (hb.ext G_w8) (i := ((((p + 1) - 1) * 7) + 3) % (List.length bs : Int)) ((rem_in (by omega) (by omega)).1) (rem_lt (by omega) (by omega))
  refine Gq.st 28 rfl (by kernel_rfl) rfl .plain rfl (fun _ _ _ h => h) (World.grownBy.refl w8 _) (fun w' x => Still.at' sl22 hp14_w8 rfl rfl) ?_
  refine Gq.st 29 rfl (by kernel_rfl) rfl .plain rfl (fun _ _ _ h => h) (World.grownBy.refl w8 _) (fun w' x => Still.loadA one5 rfl (hp14_w8.ext (Ext.of_grown x)).1) ?_
  refine Gq.st 30 rfl (by kernel_rfl) rfl .plain rfl (fun _ _ _ h => h) (World.grownBy.refl w8 _) (fun w' x => Still.conv conv5_3 rfl (u8_ok _)) ?_
  refine Gq.st 31 rfl (by kernel_rfl) rfl .plain rfl (fun _ _ _ h => h) (World.grownBy.refl w8 _) (fun w' x => Still.mul rfl rfl (u8_mul _ (by decide))) ?_
  refine Gq.st 32 rfl (by kernel_rfl) rfl .plain rfl (fun _ _ _ h => h) (World.grownBy.refl w8 _) (fun w' x => Still.add rfl rfl (u8_sum _ _)) ?_
  refine Gq.st 33 rfl (by kernel_rfl) rfl .plain rfl (fun _ _ _ h => h) (World.grownBy.refl w8 _) (fun w' x => Still.move rfl) ?_
  refine Gq.st 34 rfl (by kernel_rfl) rfl .plain rfl (fun _ _ _ h => h) (World.grownBy.refl w8 _) (fun w' x => Still.mul rfl rfl (by omega)) ?_
  refine Gq.st 35 rfl (by kernel_rfl) rfl .plain rfl (fun _ _ _ h => h) (World.grownBy.refl w8 _) (fun w' x => Still.add rfl rfl (u8_sum3 _ _ (by omega))) ?_
  refine Gq.st 36 rfl (by kernel_rfl) rfl .plain rfl (fun _ _ _ h => h) (World.grownBy.refl w8 _) (fun w' x => Still.move rfl) ?_
  refine Gq.st 37 rfl (by kernel_rfl) rfl .plain rfl (fun _ _ _ h => h) (World.grownBy.refl w8 _) (fun w' x => Still.move rfl) ?_
  refine Gq.st 38 rfl (by kernel_rfl) rfl .plain rfl (fun _ _ _ h => h) (World.grownBy.refl w8 _) (fun w' x => Still.nilCheck rfl) ?_
  refine Gq.st 39 rfl (by kernel_rfl) rfl .plain rfl (fun _ _ _ h => h) (World.grownBy.refl w8 _) (fun w' x => Still.fieldAddr fld88_0 rfl) ?_
  refine Gq.st 40 rfl (by kernel_rfl) rfl .plain rfl (fun _ _ _ h => h) (World.grownBy.refl w8 _) (fun w' x => Still.loadB one22 rfl (hR_w8.ext (Ext.of_grown x)) rfl) ?_
  refine Gq.st 41 rfl (by kernel_rfl) rfl .plain rfl (fun _ _ _ h => h) (World.grownBy.refl w8 _) (fun w' x => Still.lenBytes (hb.ext (grown_trans G_w8 (Ext.to_grown (Ext.of_grown x) _))) und22 rfl) ?_
  refine Gq.st 42 rfl (by kernel_rfl) rfl .plain rfl (fun _ _ _ h => h) (World.grownBy.refl w8 _) (fun w' x => Still.quo rfl rfl (by omega)) ?_
  refine Gq.st 43 rfl (by kernel_rfl) rfl .plain rfl (fun _ _ _ h => h) (World.grownBy.refl w8 _) (fun w' x => Still.mul rfl rfl (div_mul (by omega))) ?_
  refine Gq.st 44 rfl (by kernel_rfl) rfl .plain rfl (fun _ _ _ h => h) (World.grownBy.refl w8 _) (fun w' x => Still.add rfl rfl (u8_sum4 _ _ _ (by omega))) ?_
  refine Gq.one 45 rfl (by kernel_rfl) ?_
  refine Sq.assign .plain rfl rfl ?_
  refine Sq.nil ?_
  refine Eq.goes (fun h => absurd h (by decide)) ?_
  refine Gq.done (by kernel_rfl) ?_
  refine Eq.next ?_
  refine Cq.seq ?_
  refine Cq.region ?_
  refine Sq.move .plain rfl rfl ?_
  refine Sq.move .plain rfl rfl ?_
  refine Sq.quo .plain rfl rfl rfl (u8_quo _ _ _ (by omega)) ?_
  refine Sq.xor .plain rfl rfl rfl (u8_xor _ _ _ (by omega)) ?_
  refine Sq.assign .plain rfl rfl ?_
  refine Sq.nil ?_
  refine Eq.next ?_
  refine Cq.seq ?_
  refine Cq.region ?_
  refine Sq.move .plain rfl rfl ?_
  refine Sq.move .plain rfl rfl ?_
  refine Sq.rem .plain rfl rfl rfl (⟨Int.natCast_nonneg _, by omega⟩) ?_
  refine Sq.assign .plain rfl rfl ?_
  refine Sq.nil ?_
  refine Eq.next ?_
  refine Cq.ret ?_
  refine Eq.ret1 rfl rfl ?_
  exact ⟨⟨_, by omega, hR, G⟩, _, rfl, by first | omega | exact rem_ok _ (by omega)⟩
set_option maxRecDepth 100000 in
theorem num_c (w0 : World) (rb : Nat) (bv : Value) (p : Int) (bs : List UInt8) (e0 : TypeId) (hR : Blk w0 rb 88 [bv, .int .i64 p]) (hb : Src w0 e0 bv bs rb) (hbl : bs.length ≤ 2000) (hp : 0 ≤ p ∧ p ≤ 900000000) (lv : Value) (xs : List Int) (hx : Ints w0 3 lv xs) (hl : 1 ≤ xs.length ∧ xs.length ≤ 1000) : Ret Try.prog 47 #[Value.pointer (some ⟨rb, 0, none⟩), lv] w0 (fun v w => (∃ p', (p ≤ p' ∧ p' ≤ p + 1) ∧ Blk w rb 88 [bv, .int .i64 p'] ∧ w0.grownBy w (some rb)) ∧ ∃ k, v = .int .i64 k ∧ k ∈ xs) := by
  have G := World.grownBy.refl w0 (some rb)
  have hlt := hR.lt
  refine Ret.of (args := [Value.pointer (some ⟨rb, 0, none⟩), lv]) Try.func47 rfl rfl rfl ?_
  rintro _ rfl
  show Cq _ _ _ _ [(0, Value.pointer (some ⟨rb, 0, none⟩)), (1, lv)] _
  refine Cq.seq ?_
  refine Cq.region ?_
  refine Sq.assign .plain rfl rfl ?_
  refine Sq.nil ?_
  refine Eq.next ?_
  refine Cq.seq ?_
  refine Cq.region ?_
  refine Sq.move .plain rfl rfl ?_
  refine Sq.move .plain rfl rfl ?_
  refine Sq.move .plain rfl rfl ?_
  refine Sq.lenInts hx .plain rfl und56 rfl ?_
  refine Sq.call fn43 .plain rfl rfl (pick_c _ _ _ _ _ _ hR (hb.go G) hbl (by omega) (List.length xs : Int) (by omega)) ?_
  rintro _ w2 ⟨⟨p3, hp6, hB5, g4⟩, ⟨k7, rfl, hk8⟩⟩
  have hs9 := World.grownBy.size g4
  have hs10 := World.grownBy.size G
  have hs11 := World.grownBy.size g4
  replace G := grown_trans G g4
  replace hx := hx.stored g4 hR (by decide)
  replace hR := hB5
  refine Sq.idxInts sl56 one3 hx .plain rfl rfl rfl .plain rfl rfl (by omega) (by omega) ?_
  refine Sq.assign .plain rfl rfl ?_
  refine Sq.nil ?_
  refine Eq.next ?_
  refine Cq.ret ?_
  refine Eq.ret1 rfl rfl ?_
  exact ⟨⟨_, by omega, hR, G⟩, _, rfl, getD_mem (by omega)⟩
set_option maxRecDepth 100000 in
theorem of_c (w0 : World) (rb : Nat) (bv : Value) (p : Int) (bs : List UInt8) (e0 : TypeId) (hR : Blk w0 rb 88 [bv, .int .i64 p]) (hb : Src w0 e0 bv bs rb) (hbl : bs.length ≤ 2000) (hp : 0 ≤ p ∧ p ≤ 900000000) (lv : Value) (xs : List ByteArray) (hx : Strs w0 9 lv xs) (hl : 1 ≤ xs.length ∧ xs.length ≤ 1000) : Ret Try.prog 85 #[Value.pointer (some ⟨rb, 0, none⟩), lv] w0 (fun v w => (∃ p', (p ≤ p' ∧ p' ≤ p + 1) ∧ Blk w rb 88 [bv, .int .i64 p'] ∧ w0.grownBy w (some rb)) ∧ ∃ k, v = .string k ∧ k ∈ xs) := by
  have G := World.grownBy.refl w0 (some rb)
  have hlt := hR.lt
  refine Ret.of (args := [Value.pointer (some ⟨rb, 0, none⟩), lv]) Try.func85 rfl rfl rfl ?_
  rintro _ rfl
  show Cq _ _ _ _ [(0, Value.pointer (some ⟨rb, 0, none⟩)), (1, lv)] _
  refine Cq.seq ?_
  refine Cq.region ?_
  refine Sq.assign .plain rfl rfl ?_
  refine Sq.nil ?_
  refine Eq.next ?_
  refine Cq.seq ?_
  refine Cq.region ?_
  refine Sq.move .plain rfl rfl ?_
  refine Sq.move .plain rfl rfl ?_
  refine Sq.move .plain rfl rfl ?_
  refine Sq.lenStrs hx .plain rfl und91 rfl ?_
  refine Sq.call fn43 .plain rfl rfl (pick_c _ _ _ _ _ _ hR (hb.go G) hbl (by omega) (List.length xs : Int) (by omega)) ?_
  rintro _ w2 ⟨⟨p3, hp6, hB5, g4⟩, ⟨k7, rfl, hk8⟩⟩
  have hs9 := World.grownBy.size g4
  have hs10 := World.grownBy.size G
  have hs11 := World.grownBy.size g4
  replace G := grown_trans G g4
  replace hx := hx.stored g4 hR (by decide)
  replace hR := hB5
  refine Sq.idxStrs sl91 one9 hx .plain rfl rfl rfl .plain rfl rfl (by omega) (by omega) ?_
  refine Sq.assign .plain rfl rfl ?_
  refine Sq.nil ?_
  refine Eq.next ?_
  refine Cq.ret ?_
  refine Eq.ret1 rfl rfl ?_
  exact ⟨⟨_, by omega, hR, G⟩, _, rfl, getD_mem (by omega)⟩
end Go.Proofs.Ytdejmfkpohgamaa
set_option linter.unusedSimpArgs false
set_option linter.unusedVariables false
namespace Go.Proofs.Ytdejmfkpohgamaa
open Go.RowKit
set_option maxRecDepth 100000 in
theorem l3Random_c (w0 : World) (rb : Nat) (bv : Value) (p : Int) (bs : List UInt8) (e0 : TypeId) (hR : Blk w0 rb 88 [bv, .int .i64 p]) (hb : Src w0 e0 bv bs rb) (hbl : bs.length ≤ 2000) (hp : 0 ≤ p ∧ p ≤ 800000000) (al n : Int) (hal : 0 ≤ al ∧ al ≤ 63) (hn : 1 ≤ n ∧ n ≤ 12) : Ret Try.prog 115 #[Value.pointer (some ⟨rb, 0, none⟩), Value.int .i64 al, Value.int .i64 n] w0 (fun v w => (∃ p', (p ≤ p' ∧ p' ≤ p + 100) ∧ Blk w rb 88 [bv, .int .i64 p'] ∧ w0.grownBy w (some rb)) ∧ ∃ a, OwnA w w0.heap.size v a ∧ validA a = true ∧ a.al = al ∧ (a.next.length : Int) = n) := by
  have G := World.grownBy.refl w0 (some rb)
  have hlt := hR.lt
  refine Ret.of (args := [Value.pointer (some ⟨rb, 0, none⟩), Value.int .i64 al, Value.int .i64 n]) Try.func115 rfl rfl rfl ?_
  rintro _ rfl
  show Cq _ _ _ _ [(0, Value.pointer (some ⟨rb, 0, none⟩)), (1, Value.int .i64 al), (2, Value.int .i64 n)] _
  refine Cq.seq ?_
  refine Cq.region ?_
  refine Sq.alloc zero26 .plain rfl (fun b1 w2 e3 hB4 hlo5 => ?_)
  have hd6 := Nat.lt_of_lt_of_le hR.lt hlo5
  have hd7 := Nat.le_trans (World.grownBy.size G) hlo5
  have hs8 := Below.size e3
  replace hR := hR.ext e3
  replace G := grown_trans G (Ext.to_grown e3 _)
  refine Sq.nil ?_
  refine Eq.next ?_
  refine Cq.seq ?_
  refine Cq.region ?_
  refine Sq.move .plain rfl rfl ?_
  refine Sq.build st26 rfl rfl .plain rfl rfl (one_cons rfl one_nil) rfl ?_
  refine Sq.alloc zero26 .plain rfl (fun b9 w10 e11 hB12 hlo13 => ?_)
  have hd14 := Nat.lt_of_lt_of_le hR.lt hlo13
  have hd15 := Nat.le_trans (World.grownBy.size G) hlo13
  have hd16 := Nat.lt_of_lt_of_le hB4.lt hlo13
  have hs17 := Below.size e11
  replace hR := hR.ext e11
  replace G := grown_trans G (Ext.to_grown e11 _)
  replace hB4 := hB4.ext e11
  refine Sq.storeAgg agg26 .plain rfl rfl (one_cons rfl (one_cons rfl (one_cons rfl one_nil))) hB12 rfl rfl (fun w18 g19 hB20 => ?_)
  have hs21 := World.grownBy.size g19
  replace hR := hR.grown g19 (by intro h; injection h with h; omega)
  replace G := grown_far G g19 (fun k hk => by injection hk with hk; subst hk; omega)
  replace hB4 := hB4.grown g19 (by intro h; injection h with h; omega)
  replace hB12 := hB20
  refine Sq.nil ?_
  refine Eq.next ?_
  refine Cq.seq ?_
  refine Cq.region ?_
  refine Sq.move .plain rfl rfl ?_
  have hd26 := hR.lt
  have hd27 := hB4.lt
  have hd28 := hB12.lt
  refine Sq.call fn53 .plain rfl rfl (l1Letters_c al (by omega) _) ?_
  rintro v22 w23 ⟨hl25, e24⟩
  have hs29 := World.grownBy.size G
  have hs30 := Below.size e24
  replace hR := hR.ext e24
  replace G := grown_trans G (Ext.to_grown e24 _)
  replace hB4 := hB4.ext e24
  replace hB12 := hB12.ext e24
  refine Sq.lenInts (Own.row hl25) .plain rfl und56 rfl ?_
  refine Sq.assign .plain rfl rfl ?_
  refine Sq.nil ?_
  refine Eq.next ?_
  refine Cq.seq ?_
  refine Cq.seq ?_
  refine Cq.region ?_
  refine Sq.assign .plain rfl rfl ?_
  refine Sq.nil ?_
  refine Eq.next ?_
  refine Cq.block ?_
  refine Cq.loop (fun nn w ls => ∃ (i : Int), ∃ (p1 : Int), ∃ (nxv : Value), ∃ (acv : Value), ∃ (xss : List (List Int)), ∃ (ys : List Bool), ls = [(0, Value.pointer (some ⟨rb, 0, none⟩)), (2, Value.int .i64 n), (6, Value.pointer (some ⟨b1, 0, none⟩)), (7, Value.pointer (some ⟨b9, 0, none⟩)), (8, Value.int .i64 ((List.length (letters al) : Int))), (9, Value.int .i64 i)] ∧ (0 ≤ i ∧ i ≤ n) ∧ (p ≤ p1 ∧ p1 ≤ p + 7 * i) ∧ Blk w rb 88 [bv, Value.int .i64 p1] ∧ Blk w b9 26 [Value.int .i64 al, nxv, acv] ∧ OwnRows w w0.heap.size w.heap.size 56 3 nxv xss ∧ Own w w0.heap.size 4 acv (ys.map Value.bool) ∧ ((xss.length : Int) = i ∧ (ys.length : Int) = i ∧ ∀ row ∈ xss, rowOk (letters al).length n row = true) ∧ World.grownBy w0 w (some rb) ∧ Blk w b1 26 [Value.int .i64 0, Value.slice none 0 0, Value.slice none 0 0] ∧ nn = (n - i).toNat) _ _ ⟨0, p, _, _, [], [], rfl, by omega, by omega, hR, hB12, OwnRows.nil _ _ _ _ _, Own.nil _ _ _, by simp, G, hB4, rfl⟩ (.cons rfl (.cons rfl (.cons rfl (.cons rfl (.cons rfl (.cons rfl (.nil))))))) ?_
  rintro nn wl1 ls ⟨i, p1, nxv, acv, xss, ys, rfl, hi, hp1, hR, hB7, hor, hoa, hxl, G, hB4, rfl⟩
  have hs31 := World.grownBy.size G
  have hl6 := letters_len6 al
  refine Cq.seq ?_
  refine Cq.seq ?_
  refine Cq.region ?_
  refine Sq.move .plain rfl rfl ?_
  refine Sq.move .plain rfl rfl ?_
  refine Sq.lss .plain rfl rfl rfl ?_
  refine Sq.part (fun c32 => ?_) (fun c32 => ?_)
  · refine Sq.nil ?_
    refine Eq.next ?_
    refine Cq.thn rfl ?_
    refine Cq.skip ?_
    refine Eq.next ?_
    refine Cq.seq ?_
    refine Cq.block ?_
    refine Cq.seq ?_
    refine Cq.region ?_
    refine Sq.lit sl56 rfl rfl .plain rfl rfl one_nil (fun b33 w34 e35 hlo36 ho37 _ => ?_)
    replace ho37 := ho37 wl1.heap.size (Nat.le_refl _)
    have hs39 := Below.size e35
    replace G := grown_trans G (Ext.to_grown e35 _)
    replace hB4 := hB4.ext e35
    replace hR := hR.ext e35
    replace hB7 := hB7.ext e35
    replace hor := hor.ext e35
    replace hoa := hoa.ext e35
    refine Sq.assign .plain rfl rfl ?_
    refine Sq.nil ?_
    refine Eq.next ?_
    refine Cq.seq ?_
    refine Cq.seq ?_
    refine Cq.region ?_
    refine Sq.assign .plain rfl rfl ?_
    refine Sq.nil ?_
    refine Eq.next ?_
    refine Cq.block ?_
    refine Cq.loop (fun nn w ls => ∃ (j : Int), ∃ (p2 : Int), ∃ (rv : Value), ∃ (row : List Int), ls = [(0, Value.pointer (some ⟨rb, 0, none⟩)), (2, Value.int .i64 n), (6, Value.pointer (some ⟨b1, 0, none⟩)), (7, Value.pointer (some ⟨b9, 0, none⟩)), (8, Value.int .i64 ((List.length (letters al) : Int))), (9, Value.int .i64 i), (10, rv), (11, Value.int .i64 j)] ∧ (0 ≤ j ∧ j ≤ (letters al).length) ∧ wl1.heap.size ≤ w.heap.size ∧ (p1 ≤ p2 ∧ p2 ≤ p1 + j) ∧ Blk w rb 88 [bv, Value.int .i64 p2] ∧ Own w wl1.heap.size 3 rv (row.map (Value.int .i64)) ∧ ((row.length : Int) = j ∧ ∀ q ∈ row, 0 ≤ q ∧ q < n) ∧ World.grownBy w0 w (some rb) ∧ Blk w b1 26 [Value.int .i64 0, Value.slice none 0 0, Value.slice none 0 0] ∧ Blk w b9 26 [Value.int .i64 al, nxv, acv] ∧ OwnRows w w0.heap.size wl1.heap.size 56 3 nxv xss ∧ Own w w0.heap.size 4 acv (ys.map Value.bool) ∧ nn = ((letters al).length - j).toNat) _ _ ⟨0, p1, _, [], rfl, by omega, by omega, by omega, hR, ho37, by simp, G, hB4, hB7, hor, hoa, rfl⟩ (.cons rfl (.cons rfl (.cons rfl (.cons rfl (.cons rfl (.cons rfl (.cons rfl (.cons rfl (.nil))))))))) ?_
    rintro nn wl2 ls ⟨j, p2, rv, row, rfl, hj, hsz, hp2, hR, hro, hrl, G, hB4, hB7, hor, hoa, rfl⟩
    have hs40 := World.grownBy.size G
    refine Cq.seq ?_
    refine Cq.seq ?_
    refine Cq.region ?_
    refine Sq.move .plain rfl rfl ?_
    refine Sq.move .plain rfl rfl ?_
    refine Sq.lss .plain rfl rfl rfl ?_
    refine Sq.part (fun c41 => ?_) (fun c41 => ?_)
    · refine Sq.nil ?_
      refine Eq.next ?_
      refine Cq.thn rfl ?_
      refine Cq.skip ?_
      refine Eq.next ?_
      refine Cq.seq ?_
      refine Cq.block ?_
      refine Cq.region ?_
      refine Sq.move .plain rfl rfl ?_
      refine Sq.move .plain rfl rfl ?_
      refine Sq.move .plain rfl rfl ?_
      refine Sq.call fn43 .plain rfl rfl (pick_c _ _ _ _ _ _ hR (hb.go G) hbl (by omega) n (by omega)) ?_
      rintro _ w43 ⟨⟨p44, hp47, hB46, g45⟩, ⟨k48, rfl, hk49⟩⟩
      have hs50 := World.grownBy.size g45
      have hs51 := World.grownBy.size G
      have hs52 := World.grownBy.size g45
      replace G := grown_trans G g45
      replace hB4 := hB4.grown g45 (by intro h; injection h with h; omega)
      replace hB7 := hB7.grown g45 (by intro h; injection h with h; omega)
      replace hor := hor.stored g45 hR (by decide) (by decide)
      replace hoa := hoa.stored g45 hR (by decide)
      replace hro := hro.stored g45 hR (by decide)
      replace hR := hB46
      refine Sq.app1 sl56 hro (by omega) (by first | omega | (simp; omega)) .plain rfl rfl rfl rfl rfl rfl rfl (fun v53 w54 ho56 g55 _ => ?_)
      have hs57 := g55.size
      replace G := grown_new G hro g55 (by omega)
      replace hB4 := hB4.owned hro g55 (by decide)
      replace hB7 := hB7.owned hro g55 (by decide)
      replace hor := hor.apart hro g55 (by omega) (by decide)
      replace hoa := hoa.owned hro g55 (by decide)
      replace hR := hR.owned hro g55 (by decide)
      refine Sq.assign .plain rfl rfl ?_
      refine Sq.nil ?_
      refine Eq.end ?_
      refine Eq.next ?_
      refine Cq.region ?_
      refine Sq.move .plain rfl rfl ?_
      refine Sq.add .plain rfl rfl rfl (by omega) ?_
      refine Sq.assign .plain rfl rfl ?_
      refine Sq.nil ?_
      refine Eq.round _ _ ⟨j + 1, _, _, _, rfl, by omega, by omega, by omega, hR, Own.snocI ho56, ⟨by simp; omega, all_app hrl.2 (by omega)⟩, G, hB4, hB7, hor, hoa, rfl⟩ (by omega) (.cons rfl (.cons rfl (.cons rfl (.cons rfl (.cons rfl (.cons rfl (.cons rfl (.cons rfl (.nil)))))))))
    refine Sq.nil ?_
    refine Eq.next ?_
    refine Cq.els rfl ?_
    refine Cq.exit ?_
    refine Eq.past ?_
    refine Eq.past ?_
    refine Eq.hit ?_
    refine Eq.next ?_
    refine Cq.seq ?_
    refine Cq.region ?_
    refine Sq.fieldAddr fld26_1 .plain rfl rfl ?_
    refine Sq.loadB one23 .plain rfl rfl hB7 rfl ?_
    refine Sq.move .plain rfl rfl ?_
    obtain ⟨rs62, q63, q64, q65⟩ := OwnRows.open hor (by decide)
    have q65x := Ext.refl wl2
    refine Sq.app1 sl23 q63 (by omega) (by rw [q64]; first | omega | (simp; omega)) .plain rfl rfl rfl rfl rfl rfl (Row.one (Own.row hro)) (fun v58 w59 ho61 g60 _ => ?_)
    have hs66 := g60.size
    have ho61r := q65 _ row _ _ _ (Ext.refl _) (Own.mono hro (by omega)) (by omega) ho61 g60
    replace G := grown_new G q63 g60 (by omega)
    replace hB4 := hB4.owned q63 g60 (by decide)
    replace hB7 := hB7.owned q63 g60 (by decide)
    replace hoa := hoa.owned q63 g60 (by decide)
    replace hR := hR.owned q63 g60 (by decide)
    refine Sq.fieldAddr fld26_1 .plain rfl rfl ?_
    refine Sq.store one23 .plain rfl rfl (Rows.one (OwnRows.rows ho61r)) hB7 (by simp) (fun w67 g68 hB69 => ?_)
    have hs70 := World.grownBy.size g68
    replace G := grown_far G g68 (fun k hk => by injection hk with hk; subst hk; omega)
    replace hB4 := hB4.grown g68 (by intro h; injection h with h; omega)
    replace hoa := hoa.stored g68 hB7 (by decide)
    replace hR := hR.grown g68 (by intro h; injection h with h; omega)
    replace ho61r := ho61r.stored g68 hB7 (by decide) (by decide)
    replace hB7 := hB69
    refine Sq.nil ?_
    refine Eq.next ?_
    refine Cq.drawS 7 (fun w' => Blk w' b9 26 [Value.int .i64 al, v58, acv]) mixed (hB7) (fun w71 e72 hS => ?_)
    clear hS
    have hs73 := Below.size e72
    replace G := grown_trans G (Ext.to_grown e72 _)
    replace hB4 := hB4.ext e72
    replace hB7 := hB7.ext e72
    replace hoa := hoa.ext e72
    replace hR := hR.ext e72
    replace ho61r := ho61r.ext e72
    refine Gq.st 0 rfl (by kernel_rfl) rfl .plain rfl (fun _ _ _ h => h) hB7 (fun w' x => Still.fieldAddr fld26_2 rfl) ?_
    refine Gq.st 1 rfl (by kernel_rfl) rfl .plain rfl (fun _ _ _ h => h) hB7 (fun w' x => Still.loadB one24 rfl x rfl) ?_
    refine Gq.st 2 rfl (by kernel_rfl) rfl .plain rfl (fun _ _ _ h => h) hB7 (fun w' x => Still.move rfl) ?_
    refine Gq.one 3 rfl (by kernel_rfl) ?_
    refine Sq.call fn43 .plain rfl rfl (pick_c _ _ _ _ _ _ hR (hb.go G) hbl (by omega) 3 (by omega)) ?_
    rintro _ w75 ⟨⟨p76, hp79, hB78, g77⟩, ⟨k80, rfl, hk81⟩⟩
    have hs82 := World.grownBy.size g77
    have hs83 := World.grownBy.size G
    have hs84 := World.grownBy.size g77
    replace G := grown_trans G g77
    replace hB4 := hB4.grown g77 (by intro h; injection h with h; omega)
    replace hB7 := hB7.grown g77 (by intro h; injection h with h; omega)
    replace hoa := hoa.stored g77 hR (by decide)
    replace ho61r := ho61r.stored g77 hR (by decide) (by decide)
    replace hR := hB78
    refine Sq.nil ?_
    refine Eq.goes (fun _ => hB7) ?_
    refine Gq.st 4 rfl (by kernel_rfl) rfl .plain rfl (fun _ _ _ h => h) hB7 (fun w' x => Still.gtr rfl rfl) ?_
    refine Gq.one 5 rfl (by kernel_rfl) ?_
    refine Sq.lit sl24 rfl rfl .plain rfl rfl (one_cons rfl one_nil) (fun b85 w86 e87 hlo88 ho89 _ => ?_)
    replace ho89 := ho89 w75.heap.size (Nat.le_refl _)
    have hs91 := Below.size e87
    replace G := grown_trans G (Ext.to_grown e87 _)
    replace hB4 := hB4.ext e87
    replace hB7 := hB7.ext e87
    replace hoa := hoa.ext e87
    replace hR := hR.ext e87
    replace ho61r := ho61r.ext e87
    refine Sq.nil ?_
    refine Eq.goes (fun _ => hB7) ?_
    refine Gq.one 6 rfl (by kernel_rfl) ?_
    refine Sq.app sl24 hoa (by omega) (Own.row ho89) (one_cons rfl one_nil) (by first | omega | (simp; omega)) .plain rfl rfl rfl rfl (fun v92 w93 ho95 g94 => ?_)
    have hs96 := g94.size
    replace G := grown_new G hoa g94 (by omega)
    replace hB4 := hB4.owned hoa g94 (by decide)
    replace hB7 := hB7.owned hoa g94 (by decide)
    replace hR := hR.owned hoa g94 (by decide)
    replace ho61r := ho61r.owned hoa g94 (by decide) (by decide)
    refine Sq.nil ?_
    refine Eq.goes (fun _ => hB7) ?_
    refine Gq.one 7 rfl (by kernel_rfl) ?_
    refine Sq.fieldAddr fld26_2 .plain rfl rfl ?_
    refine Sq.nil ?_
    refine Eq.goes (fun h => absurd h (by decide)) ?_
    refine Gq.one 8 rfl (by kernel_rfl) ?_
    refine Sq.store one24 .plain rfl rfl (Row.one (Own.row ho95)) hB7 (by simp) (fun w97 g98 hB99 => ?_)
    have hs100 := World.grownBy.size g98
    replace G := grown_far G g98 (fun k hk => by injection hk with hk; subst hk; omega)
    replace hB4 := hB4.grown g98 (by intro h; injection h with h; omega)
    replace hR := hR.grown g98 (by intro h; injection h with h; omega)
    replace ho61r := ho61r.stored g98 hB7 (by decide) (by decide)
    replace ho95 := ho95.stored g98 hB7 (by decide)
    replace hB7 := hB99
    refine Sq.nil ?_
    refine Eq.goes (fun h => absurd h (by decide)) ?_
    refine Gq.done (by kernel_rfl) ?_
    refine Eq.end ?_
    refine Eq.next ?_
    refine Cq.region ?_
    refine Sq.move .plain rfl rfl ?_
    refine Sq.add .plain rfl rfl rfl (by omega) ?_
    refine Sq.assign .plain rfl rfl ?_
    refine Sq.nil ?_
    refine Eq.round _ _ ⟨i + 1, _, _, _, _, _, rfl, by omega, by omega, hR, hB7, OwnRows.now ho61r, Own.snocB ho95, ⟨by simp; omega, by simp; omega, rows_snoc hxl.2.2 (rowOk_mk (by omega) hrl.2)⟩, G, hB4, rfl⟩ (by omega) (.cons rfl (.cons rfl (.cons rfl (.cons rfl (.cons rfl (.cons rfl (.nil)))))))
  refine Sq.nil ?_
  refine Eq.next ?_
  refine Cq.els rfl ?_
  refine Cq.exit ?_
  refine Eq.past ?_
  refine Eq.past ?_
  refine Eq.hit ?_
  refine Eq.next ?_
  refine Cq.seq ?_
  refine Cq.region ?_
  refine Sq.loadAgg agg26 .plain rfl rfl hB7 rfl ?_
  refine Sq.storeAgg agg26 .plain rfl rfl (one_cons rfl (one_cons (Rows.one (OwnRows.rows hor)) (one_cons (Row.one (Own.row hoa)) one_nil))) hB4 rfl rfl (fun w101 g102 hB103 => ?_)
  have hs104 := World.grownBy.size g102
  replace G := grown_far G g102 (fun k hk => by injection hk with hk; subst hk; omega)
  replace hR := hR.grown g102 (by intro h; injection h with h; omega)
  replace hor := hor.stored g102 hB4 (by decide) (by decide)
  replace hoa := hoa.stored g102 hB4 (by decide)
  replace hB4 := hB103
  refine Sq.nil ?_
  refine Eq.next ?_
  refine Cq.ret ?_
  refine Eq.retCell rfl rfl agg26 hB4 rfl ?_
  exact ⟨⟨_, by omega, hR, G⟩, ⟨al, xss, ys⟩, ⟨_, _, rfl, OwnRows.now hor, hoa⟩, validA_mk hal (by show 1 ≤ xss.length ∧ xss.length ≤ 12; omega) (by show ys.length = xss.length; omega) (by intro row hr; have e : ((⟨al, xss, ys⟩ : A).next.length : Int) = n := (by show (xss.length : Int) = n; omega); rw [e]; exact hxl.2.2 row hr), rfl, by show (xss.length : Int) = n; omega⟩
set_option maxRecDepth 100000 in
theorem l3Safe_c (w0 : World) (rb : Nat) (bv : Value) (p : Int) (bs : List UInt8) (e0 : TypeId) (hR : Blk w0 rb 88 [bv, .int .i64 p]) (hb : Src w0 e0 bv bs rb) (hbl : bs.length ≤ 2000) (hp : 0 ≤ p ∧ p ≤ 700000000) (al n : Int) (hal : 0 ≤ al ∧ al ≤ 63) (hn : 1 ≤ n ∧ n ≤ 12) : Ret Try.prog 114 #[Value.pointer (some ⟨rb, 0, none⟩), Value.int .i64 al, Value.int .i64 n] w0 (fun v w => (∃ p', (p ≤ p' ∧ p' ≤ p + 100) ∧ Blk w rb 88 [bv, .int .i64 p'] ∧ w0.grownBy w (some rb)) ∧ ∃ a, OwnA w w0.heap.size v a ∧ validA a = true ∧ a.al = al ∧ (a.next.length : Int) = n) := by
  have G := World.grownBy.refl w0 (some rb)
  have hlt := hR.lt
  refine Ret.of (args := [Value.pointer (some ⟨rb, 0, none⟩), Value.int .i64 al, Value.int .i64 n]) Try.func114 rfl rfl rfl ?_
  rintro _ rfl
  show Cq _ _ _ _ [(0, Value.pointer (some ⟨rb, 0, none⟩)), (1, Value.int .i64 al), (2, Value.int .i64 n)] _
  refine Cq.seq ?_
  refine Cq.region ?_
  refine Sq.alloc zero26 .plain rfl (fun b1 w2 e3 hB4 hlo5 => ?_)
  have hd6 := Nat.lt_of_lt_of_le hR.lt hlo5
  have hd7 := Nat.le_trans (World.grownBy.size G) hlo5
  have hs8 := Below.size e3
  replace hR := hR.ext e3
  replace G := grown_trans G (Ext.to_grown e3 _)
  refine Sq.nil ?_
  refine Eq.next ?_
  refine Cq.seq ?_
  refine Cq.region ?_
  refine Sq.move .plain rfl rfl ?_
  refine Sq.move .plain rfl rfl ?_
  refine Sq.move .plain rfl rfl ?_
  refine Sq.call fn115 .plain rfl rfl (l3Random_c _ _ _ _ _ _ hR (hb.go G) hbl (by omega) al n (by omega) (by omega)) ?_
  rintro _ w10 ⟨⟨p11, hp14, hB13, g12⟩, ⟨a15, ⟨nx16, ac17, rfl, hn18, ha19⟩, hv20, hal21, hlen22⟩⟩
  have hs23 := World.grownBy.size g12
  have hs24 := World.grownBy.size G
  have hs25 := World.grownBy.size g12
  replace G := grown_trans G g12
  replace hB4 := hB4.grown g12 (by intro h; injection h with h; omega)
  replace hR := hB13
  refine Sq.alloc zero26 .plain rfl (fun b26 w27 e28 hB29 hlo30 => ?_)
  have hd31 := Nat.lt_of_lt_of_le hR.lt hlo30
  have hd32 := Nat.le_trans (World.grownBy.size G) hlo30
  have hd33 := Nat.lt_of_lt_of_le hB4.lt hlo30
  have hs34 := Below.size e28
  replace hR := hR.ext e28
  replace G := grown_trans G (Ext.to_grown e28 _)
  replace hB4 := hB4.ext e28
  replace hn18 := hn18.ext e28
  replace ha19 := ha19.ext e28
  refine Sq.storeAgg agg26 .plain rfl rfl (one_cons rfl (one_cons (Rows.one (OwnRows.rows hn18)) (one_cons (Row.one (Own.row ha19)) one_nil))) hB29 rfl rfl (fun w35 g36 hB37 => ?_)
  have hs38 := World.grownBy.size g36
  replace hR := hR.grown g36 (by intro h; injection h with h; omega)
  replace G := grown_far G g36 (fun k hk => by injection hk with hk; subst hk; omega)
  replace hB4 := hB4.grown g36 (by intro h; injection h with h; omega)
  replace hn18 := hn18.stored g36 hB29 (by decide) (by decide)
  replace ha19 := ha19.stored g36 hB29 (by decide)
  replace hB29 := hB37
  refine Sq.nil ?_
  refine Eq.next ?_
  refine Cq.seq ?_
  refine Cq.seq ?_
  refine Cq.region ?_
  refine Sq.assign .plain rfl rfl ?_
  refine Sq.nil ?_
  refine Eq.next ?_
  refine Cq.block ?_
  have hvs := validA_spec.1 hv20
  refine Cq.loop (fun nn w ls => ∃ (i : Int), ∃ (ys : List Bool), ls = [(0, Value.pointer (some ⟨rb, 0, none⟩)), (2, Value.int .i64 n), (6, Value.pointer (some ⟨b1, 0, none⟩)), (7, Value.pointer (some ⟨b26, 0, none⟩)), (8, Value.int .i64 i)] ∧ (0 ≤ i ∧ i ≤ n) ∧ ((ys.length : Int) = n) ∧ Own w w0.heap.size 4 ac17 (ys.map Value.bool) ∧ World.grownBy w0 w (some rb) ∧ Blk w rb 88 [bv, Value.int .i64 p11] ∧ Blk w b1 26 [Value.int .i64 0, Value.slice none 0 0, Value.slice none 0 0] ∧ Blk w b26 26 [Value.int .i64 a15.al, nx16, ac17] ∧ OwnRows w w2.heap.size w10.heap.size 56 3 nx16 a15.next ∧ nn = (n - i).toNat) _ _ ⟨0, _, rfl, by omega, by have := hvs.2.2.1; omega, Own.mono ha19 (by omega), G, hR, hB4, hB29, hn18, rfl⟩ (.cons rfl (.cons rfl (.cons rfl (.cons rfl (.cons rfl (.nil)))))) ?_
  rintro nn wl1 ls ⟨i, ys, rfl, hi, hyl, ha19, G, hR, hB4, hB29, hn18, rfl⟩
  have hs39 := World.grownBy.size G
  refine Cq.seq ?_
  refine Cq.seq ?_
  refine Cq.region ?_
  refine Sq.move .plain rfl rfl ?_
  refine Sq.move .plain rfl rfl ?_
  refine Sq.lss .plain rfl rfl rfl ?_
  refine Sq.part (fun c40 => ?_) (fun c40 => ?_)
  · refine Sq.nil ?_
    refine Eq.next ?_
    refine Cq.thn rfl ?_
    refine Cq.skip ?_
    refine Eq.next ?_
    refine Cq.seq ?_
    refine Cq.block ?_
    refine Cq.region ?_
    refine Sq.fieldAddr fld26_2 .plain rfl rfl ?_
    refine Sq.loadB one24 .plain rfl rfl hB29 rfl ?_
    refine Sq.move .plain rfl rfl ?_
    refine Sq.move .plain rfl rfl ?_
    refine Sq.move .plain rfl rfl ?_
    refine Sq.sub .plain rfl rfl rfl (by omega) ?_
    refine Sq.lss .plain rfl rfl rfl ?_
    obtain ⟨p41, hp42o⟩ := Own.at ha19 (i := i) (by omega) (by first | (simp only [List.length_map]; omega) | (simp; omega))
    refine Sq.atO sl24 hp42o .plain rfl rfl rfl ?_
    refine Sq.storeO one4 ha19 hp42o .plain rfl rfl rfl (fun w43 g44 ho45 => ?_)
    have hs46 := World.grownBy.size g44
    replace G := grown_new G ha19 g44 (by omega)
    replace hR := hR.owned ha19 g44 (by decide)
    replace hB4 := hB4.owned ha19 g44 (by decide)
    replace hB29 := hB29.owned ha19 g44 (by decide)
    replace hn18 := hn18.owned ha19 g44 (by decide) (by decide)
    replace ha19 := ho45
    refine Sq.nil ?_
    refine Eq.end ?_
    refine Eq.next ?_
    refine Cq.region ?_
    refine Sq.move .plain rfl rfl ?_
    refine Sq.add .plain rfl rfl rfl (by omega) ?_
    refine Sq.assign .plain rfl rfl ?_
    refine Sq.nil ?_
    refine Eq.round _ _ ⟨i + 1, _, rfl, by omega, by rw [List.length_set]; omega, Own.setB ha19, G, hR, hB4, hB29, hn18, rfl⟩ (by omega) (.cons rfl (.cons rfl (.cons rfl (.cons rfl (.cons rfl (.nil))))))
  refine Sq.nil ?_
  refine Eq.next ?_
  refine Cq.els rfl ?_
  refine Cq.exit ?_
  refine Eq.past ?_
  refine Eq.past ?_
  refine Eq.hit ?_
  refine Eq.next ?_
  refine Cq.seq ?_
  refine Cq.seq ?_
  refine Cq.region ?_
  refine Sq.assign .plain rfl rfl ?_
  refine Sq.nil ?_
  refine Eq.next ?_
  refine Cq.block ?_
  have hrows := validA_rows hv20
  refine Cq.loop (fun nn w ls => ∃ (j : Int), ∃ (xss : List (List Int)), ls = [(0, Value.pointer (some ⟨rb, 0, none⟩)), (2, Value.int .i64 n), (6, Value.pointer (some ⟨b1, 0, none⟩)), (7, Value.pointer (some ⟨b26, 0, none⟩)), (9, Value.int .i64 j)] ∧ (0 ≤ j) ∧ ((xss.length : Int) = n ∧ ∀ row ∈ xss, rowOk (letters al).length n row = true) ∧ OwnRows w w0.heap.size w.heap.size 56 3 nx16 xss ∧ World.grownBy w0 w (some rb) ∧ Blk w rb 88 [bv, Value.int .i64 p11] ∧ Blk w b1 26 [Value.int .i64 0, Value.slice none 0 0, Value.slice none 0 0] ∧ Blk w b26 26 [Value.int .i64 a15.al, nx16, ac17] ∧ Own w w0.heap.size 4 ac17 (ys.map Value.bool) ∧ nn = (((xss.getD (n - 1).toNat []).length : Int) - j).toNat) _ _ ⟨0, _, rfl, by omega, ⟨by omega, by rw [← hal21, ← hlen22]; exact hrows⟩, OwnRows.mono (OwnRows.now hn18) (by omega), G, hR, hB4, hB29, ha19, rfl⟩ (.cons rfl (.cons rfl (.cons rfl (.cons rfl (.cons rfl (.nil)))))) ?_
  rintro nn wl2 ls ⟨j, xss, rfl, hj, hxl, hn18, G, hR, hB4, hB29, ha19, rfl⟩
  have hs47 := World.grownBy.size G
  have hrk := rowOk_at hxl.2 (k := (n - 1).toNat) (by omega)
  have hl6 := letters_len6 al
  refine Cq.seq ?_
  refine Cq.seq ?_
  refine Cq.region ?_
  refine Sq.move .plain rfl rfl ?_
  refine Sq.fieldAddr fld26_1 .plain rfl rfl ?_
  refine Sq.loadB one23 .plain rfl rfl hB29 rfl ?_
  refine Sq.move .plain rfl rfl ?_
  refine Sq.sub .plain rfl rfl rfl (by omega) ?_
  refine Sq.idxRows sl23 one56 (OwnRows.rows hn18) .plain rfl rfl rfl .plain rfl rfl (by omega) (by omega) (fun r48 hr49 => ?_)
  refine Sq.lenInts hr49 .plain rfl und56 rfl ?_
  refine Sq.lss .plain rfl rfl rfl ?_
  refine Sq.part (fun c50 => ?_) (fun c50 => ?_)
  · refine Sq.nil ?_
    refine Eq.next ?_
    refine Cq.thn rfl ?_
    refine Cq.skip ?_
    refine Eq.next ?_
    refine Cq.seq ?_
    refine Cq.block ?_
    refine Cq.region ?_
    refine Sq.fieldAddr fld26_1 .plain rfl rfl ?_
    refine Sq.loadB one23 .plain rfl rfl hB29 rfl ?_
    refine Sq.move .plain rfl rfl ?_
    refine Sq.sub .plain rfl rfl rfl (by omega) ?_
    obtain ⟨p51, r53, hp52, _⟩ := Rows.at (OwnRows.rows hn18) (i := n - 1) (by omega) (by omega)
    have hr54 := (OwnRows.rowAt hn18 hp52).1
    refine Sq.val .plain rfl rfl (Still.at' sl23 hp52 rfl rfl) ?_
    refine Sq.val .plain rfl rfl (Still.loadA one56 rfl hp52.1) ?_
    refine Sq.move .plain rfl rfl ?_
    refine Sq.move .plain rfl rfl ?_
    refine Sq.sub .plain rfl rfl rfl (by omega) ?_
    obtain ⟨p55, hp56o⟩ := Own.at hr54 (i := j) (by omega) (by first | (simp only [List.length_map]; omega) | (simp; omega))
    refine Sq.atO sl56 hp56o .plain rfl rfl rfl ?_
    refine Sq.storeO one3 hr54 hp56o .plain rfl rfl rfl (fun w57 g58 ho59 => ?_)
    have hs60 := World.grownBy.size g58
    rw [← List.map_set] at ho59
    replace hn18 := (OwnRows.set hn18 (by decide) hp52 ho59 g58).1
    replace G := grown_new G hr54 g58 (by omega)
    replace hR := hR.owned hr54 g58 (by decide)
    replace hB4 := hB4.owned hr54 g58 (by decide)
    replace hB29 := hB29.owned hr54 g58 (by decide)
    replace ha19 := ha19.owned hr54 g58 (by decide)
    refine Sq.nil ?_
    refine Eq.end ?_
    refine Eq.next ?_
    refine Cq.region ?_
    refine Sq.move .plain rfl rfl ?_
    refine Sq.add .plain rfl rfl rfl (by omega) ?_
    refine Sq.assign .plain rfl rfl ?_
    refine Sq.nil ?_
    refine Eq.round _ _ ⟨j + 1, _, rfl, by omega, ⟨by rw [List.length_set]; exact hxl.1, rows_set hxl.2 (rowOk_set hrk (by omega))⟩, OwnRows.now hn18, G, hR, hB4, hB29, ha19, rfl⟩ (by rw [getD_set_self (by omega), List.length_set]; omega) (.cons rfl (.cons rfl (.cons rfl (.cons rfl (.cons rfl (.nil))))))
  refine Sq.nil ?_
  refine Eq.next ?_
  refine Cq.els rfl ?_
  refine Cq.exit ?_
  refine Eq.past ?_
  refine Eq.past ?_
  refine Eq.hit ?_
  refine Eq.next ?_
  refine Cq.seq ?_
  refine Cq.region ?_
  refine Sq.loadAgg agg26 .plain rfl rfl hB29 rfl ?_
  refine Sq.storeAgg agg26 .plain rfl rfl (one_cons rfl (one_cons (Rows.one (OwnRows.rows hn18)) (one_cons (Row.one (Own.row ha19)) one_nil))) hB4 rfl rfl (fun w61 g62 hB63 => ?_)
  have hs64 := World.grownBy.size g62
  replace G := grown_far G g62 (fun k hk => by injection hk with hk; subst hk; omega)
  replace hR := hR.grown g62 (by intro h; injection h with h; omega)
  replace ha19 := ha19.stored g62 hB4 (by decide)
  replace hn18 := hn18.stored g62 hB4 (by decide) (by decide)
  replace hB4 := hB63
  refine Sq.nil ?_
  refine Eq.next ?_
  refine Cq.ret ?_
  refine Eq.retCell rfl rfl agg26 hB4 rfl ?_
  exact ⟨⟨_, by omega, hR, G⟩, ⟨al, xss, ys⟩, ⟨_, _, by first | rfl | (simp only [hal21]), OwnRows.now (OwnRows.mono hn18 (by omega)), Own.mono ha19 (by omega)⟩, validA_mk hal (by show 1 ≤ xss.length ∧ xss.length ≤ 12; omega) (by show ys.length = xss.length; omega) (by intro row hr; have e : ((⟨al, xss, ys⟩ : A).next.length : Int) = n := (by show (xss.length : Int) = n; omega); rw [e]; exact hxl.2 row hr), rfl, by show (xss.length : Int) = n; omega⟩
set_option maxRecDepth 100000 in
theorem l3Over_c (w0 : World) (rb : Nat) (bv : Value) (p : Int) (bs : List UInt8) (e0 : TypeId) (hR : Blk w0 rb 88 [bv, .int .i64 p]) (hb : Src w0 e0 bv bs rb) (hbl : bs.length ≤ 2000) (hp : 0 ≤ p ∧ p ≤ 600000000) (al : Int) (hal : 0 ≤ al ∧ al ≤ 63) : Ret Try.prog 87 #[Value.pointer (some ⟨rb, 0, none⟩), Value.int .i64 al] w0 (fun v w => (∃ p', (p ≤ p' ∧ p' ≤ p + 200) ∧ Blk w rb 88 [bv, .int .i64 p'] ∧ w0.grownBy w (some rb)) ∧ ∃ a, OwnA w w0.heap.size v a ∧ validA a = true ∧ a.al = al) := by
  have G := World.grownBy.refl w0 (some rb)
  have hlt := hR.lt
  refine Ret.of (args := [Value.pointer (some ⟨rb, 0, none⟩), Value.int .i64 al]) Try.func87 rfl rfl rfl ?_
  rintro _ rfl
  show Cq _ _ _ _ [(0, Value.pointer (some ⟨rb, 0, none⟩)), (1, Value.int .i64 al)] _
  refine Cq.seq ?_
  refine Cq.region ?_
  refine Sq.alloc zero26 .plain rfl (fun b1 w2 e3 hB4 hlo5 => ?_)
  have hd6 := Nat.lt_of_lt_of_le hR.lt hlo5
  have hd7 := Nat.le_trans (World.grownBy.size G) hlo5
  have hs8 := Below.size e3
  replace hR := hR.ext e3
  replace G := grown_trans G (Ext.to_grown e3 _)
  refine Sq.nil ?_
  refine Eq.next ?_
  refine Cq.seq ?_
  refine Cq.seq ?_
  refine Cq.region ?_
  refine Sq.move .plain rfl rfl ?_
  refine Sq.call fn43 .plain rfl rfl (pick_c _ _ _ _ _ _ hR (hb.go G) hbl (by omega) 2 (by omega)) ?_
  rintro _ w10 ⟨⟨p11, hp14, hB13, g12⟩, ⟨k15, rfl, hk16⟩⟩
  have hs17 := World.grownBy.size g12
  have hs18 := World.grownBy.size G
  have hs19 := World.grownBy.size g12
  replace G := grown_trans G g12
  replace hB4 := hB4.grown g12 (by intro h; injection h with h; omega)
  replace hR := hB13
  refine Sq.eql .plain rfl rfl rfl ?_
  refine Sq.part (fun c20 => ?_) (fun c20 => ?_)
  · refine Sq.nil ?_
    refine Eq.next ?_
    refine Cq.thn rfl ?_
    refine Cq.seq ?_
    refine Cq.region ?_
    refine Sq.move .plain rfl rfl ?_
    refine Sq.move .plain rfl rfl ?_
    refine Sq.move .plain rfl rfl ?_
    refine Sq.lit sl56 rfl rfl .plain rfl rfl (one_cons rfl (one_cons rfl (one_cons rfl (one_cons rfl one_nil)))) (fun b21 w22 e23 hlo24 ho25 _ => ?_)
    replace ho25 := ho25 w10.heap.size (Nat.le_refl _)
    have hs27 := Below.size e23
    replace hR := hR.ext e23
    replace G := grown_trans G (Ext.to_grown e23 _)
    replace hB4 := hB4.ext e23
    refine Sq.call fn47 .plain rfl rfl (num_c _ _ _ _ _ _ hR (hb.go G) hbl (by omega) _ [3, 2, 4, 1] (Own.row ho25) (by simp)) ?_
    rintro _ w29 ⟨⟨p30, hp33, hB32, g31⟩, ⟨k34, rfl, hm35⟩⟩
    have hs36 := World.grownBy.size g31
    have hs37 := World.grownBy.size G
    have hs38 := World.grownBy.size g31
    replace G := grown_trans G g31
    replace hB4 := hB4.grown g31 (by intro h; injection h with h; omega)
    replace hR := hB32
    simp only [List.mem_cons, List.not_mem_nil, or_false] at hm35
    refine Sq.call fn114 .plain rfl rfl (l3Safe_c _ _ _ _ _ _ hR (hb.go G) hbl (by omega) al k34 (by omega) (by omega)) ?_
    rintro _ w40 ⟨⟨p41, hp44, hB43, g42⟩, ⟨a45, ⟨nx46, ac47, rfl, hn48, ha49⟩, hv50, hal51, hlen52⟩⟩
    have hs53 := World.grownBy.size g42
    have hs54 := World.grownBy.size G
    have hs55 := World.grownBy.size g42
    replace G := grown_trans G g42
    replace hB4 := hB4.grown g42 (by intro h; injection h with h; omega)
    replace hR := hB43
    refine Sq.storeAgg agg26 .plain rfl rfl (one_cons rfl (one_cons (Rows.one (OwnRows.rows hn48)) (one_cons (Row.one (Own.row ha49)) one_nil))) hB4 rfl rfl (fun w56 g57 hB58 => ?_)
    have hs59 := World.grownBy.size g57
    replace hR := hR.grown g57 (by intro h; injection h with h; omega)
    replace G := grown_far G g57 (fun k hk => by injection hk with hk; subst hk; omega)
    replace hn48 := hn48.stored g57 hB4 (by decide) (by decide)
    replace ha49 := ha49.stored g57 hB4 (by decide)
    replace hB4 := hB58
    refine Sq.nil ?_
    refine Eq.next ?_
    refine Cq.ret ?_
    refine Eq.pastRet ?_
    refine Eq.retCell rfl rfl agg26 hB4 rfl ?_
    exact ⟨⟨_, by omega, hR, G⟩, _, ⟨_, _, rfl, OwnRows.now (OwnRows.mono hn48 (by omega)), Own.mono ha49 (by omega)⟩, hv50, hal51⟩
  refine Sq.nil ?_
  refine Eq.next ?_
  refine Cq.els rfl ?_
  refine Cq.skip ?_
  refine Eq.next ?_
  refine Cq.seq ?_
  refine Cq.region ?_
  refine Sq.move .plain rfl rfl ?_
  refine Sq.move .plain rfl rfl ?_
  refine Sq.move .plain rfl rfl ?_
  refine Sq.lit sl56 rfl rfl .plain rfl rfl (one_cons rfl (one_cons rfl (one_cons rfl (one_cons rfl (one_cons rfl one_nil))))) (fun b60 w61 e62 hlo63 ho64 _ => ?_)
  replace ho64 := ho64 w10.heap.size (Nat.le_refl _)
  have hs66 := Below.size e62
  replace hR := hR.ext e62
  replace G := grown_trans G (Ext.to_grown e62 _)
  replace hB4 := hB4.ext e62
  refine Sq.call fn47 .plain rfl rfl (num_c _ _ _ _ _ _ hR (hb.go G) hbl (by omega) _ [2, 3, 1, 4, 5] (Own.row ho64) (by simp)) ?_
  rintro _ w68 ⟨⟨p69, hp72, hB71, g70⟩, ⟨k73, rfl, hm74⟩⟩
  have hs75 := World.grownBy.size g70
  have hs76 := World.grownBy.size G
  have hs77 := World.grownBy.size g70
  replace G := grown_trans G g70
  replace hB4 := hB4.grown g70 (by intro h; injection h with h; omega)
  replace hR := hB71
  simp only [List.mem_cons, List.not_mem_nil, or_false] at hm74
  refine Sq.call fn115 .plain rfl rfl (l3Random_c _ _ _ _ _ _ hR (hb.go G) hbl (by omega) al k73 (by omega) (by omega)) ?_
  rintro _ w79 ⟨⟨p80, hp83, hB82, g81⟩, ⟨a84, ⟨nx85, ac86, rfl, hn87, ha88⟩, hv89, hal90, hlen91⟩⟩
  have hs92 := World.grownBy.size g81
  have hs93 := World.grownBy.size G
  have hs94 := World.grownBy.size g81
  replace G := grown_trans G g81
  replace hB4 := hB4.grown g81 (by intro h; injection h with h; omega)
  replace hR := hB82
  refine Sq.storeAgg agg26 .plain rfl rfl (one_cons rfl (one_cons (Rows.one (OwnRows.rows hn87)) (one_cons (Row.one (Own.row ha88)) one_nil))) hB4 rfl rfl (fun w95 g96 hB97 => ?_)
  have hs98 := World.grownBy.size g96
  replace hR := hR.grown g96 (by intro h; injection h with h; omega)
  replace G := grown_far G g96 (fun k hk => by injection hk with hk; subst hk; omega)
  replace hn87 := hn87.stored g96 hB4 (by decide) (by decide)
  replace ha88 := ha88.stored g96 hB4 (by decide)
  replace hB4 := hB97
  refine Sq.nil ?_
  refine Eq.next ?_
  refine Cq.ret ?_
  refine Eq.retCell rfl rfl agg26 hB4 rfl ?_
  exact ⟨⟨_, by omega, hR, G⟩, _, ⟨_, _, rfl, OwnRows.now (OwnRows.mono hn87 (by omega)), Own.mono ha88 (by omega)⟩, hv89, hal90⟩
set_option maxRecDepth 100000 in
theorem l3Big_c (w0 : World) (rb : Nat) (bv : Value) (p : Int) (bs : List UInt8) (e0 : TypeId) (hR : Blk w0 rb 88 [bv, .int .i64 p]) (hb : Src w0 e0 bv bs rb) (hbl : bs.length ≤ 2000) (hp : 0 ≤ p ∧ p ≤ 800000000) : Ret Try.prog 45 #[Value.pointer (some ⟨rb, 0, none⟩)] w0 (fun v w => (∃ p', (p ≤ p' ∧ p' ≤ p + 100) ∧ Blk w rb 88 [bv, .int .i64 p'] ∧ w0.grownBy w (some rb)) ∧ ∃ a, OwnA w w0.heap.size v a ∧ validA a = true) := by
  have G := World.grownBy.refl w0 (some rb)
  have hlt := hR.lt
  refine Ret.of (args := [Value.pointer (some ⟨rb, 0, none⟩)]) Try.func45 rfl rfl rfl ?_
  rintro _ rfl
  show Cq _ _ _ _ [(0, Value.pointer (some ⟨rb, 0, none⟩))] _
  refine Cq.seq ?_
  refine Cq.region ?_
  refine Sq.alloc zero26 .plain rfl (fun b1 w2 e3 hB4 hlo5 => ?_)
  have hd6 := Nat.lt_of_lt_of_le hR.lt hlo5
  have hd7 := Nat.le_trans (World.grownBy.size G) hlo5
  have hs8 := Below.size e3
  replace hR := hR.ext e3
  replace G := grown_trans G (Ext.to_grown e3 _)
  refine Sq.nil ?_
  refine Eq.next ?_
  refine Cq.seq ?_
  refine Cq.region ?_
  refine Sq.build st26 rfl rfl .plain rfl rfl (one_cons rfl one_nil) rfl ?_
  refine Sq.alloc zero26 .plain rfl (fun b9 w10 e11 hB12 hlo13 => ?_)
  have hd14 := Nat.lt_of_lt_of_le hR.lt hlo13
  have hd15 := Nat.le_trans (World.grownBy.size G) hlo13
  have hd16 := Nat.lt_of_lt_of_le hB4.lt hlo13
  have hs17 := Below.size e11
  replace hR := hR.ext e11
  replace G := grown_trans G (Ext.to_grown e11 _)
  replace hB4 := hB4.ext e11
  refine Sq.storeAgg agg26 .plain rfl rfl (one_cons rfl (one_cons rfl (one_cons rfl one_nil))) hB12 rfl rfl (fun w18 g19 hB20 => ?_)
  have hs21 := World.grownBy.size g19
  replace hR := hR.grown g19 (by intro h; injection h with h; omega)
  replace G := grown_far G g19 (fun k hk => by injection hk with hk; subst hk; omega)
  replace hB4 := hB4.grown g19 (by intro h; injection h with h; omega)
  replace hB12 := hB20
  refine Sq.nil ?_
  refine Eq.next ?_
  refine Cq.seq ?_
  refine Cq.seq ?_
  refine Cq.region ?_
  refine Sq.assign .plain rfl rfl ?_
  refine Sq.nil ?_
  refine Eq.next ?_
  refine Cq.block ?_
  refine Cq.loop (fun nn w ls => ∃ (i : Int), ∃ (p1 : Int), ∃ (nxv : Value), ∃ (acv : Value), ∃ (xss : List (List Int)), ∃ (ys : List Bool), ls = [(0, Value.pointer (some ⟨rb, 0, none⟩)), (2, Value.pointer (some ⟨b1, 0, none⟩)), (3, Value.pointer (some ⟨b9, 0, none⟩)), (4, Value.int .i64 i)] ∧ (0 ≤ i ∧ i ≤ 12) ∧ (p ≤ p1 ∧ p1 ≤ p + 3 * i) ∧ Blk w rb 88 [bv, Value.int .i64 p1] ∧ Blk w b9 26 [Value.int .i64 3, nxv, acv] ∧ OwnRows w w0.heap.size w.heap.size 56 3 nxv xss ∧ Own w w0.heap.size 4 acv (ys.map Value.bool) ∧ ((xss.length : Int) = i ∧ (ys.length : Int) = i ∧ ∀ row ∈ xss, rowOk 2 12 row = true) ∧ World.grownBy w0 w (some rb) ∧ Blk w b1 26 [Value.int .i64 0, Value.slice none 0 0, Value.slice none 0 0] ∧ nn = (12 - i).toNat) _ _ ⟨0, p, _, _, [], [], rfl, by omega, by omega, hR, hB12, OwnRows.nil _ _ _ _ _, Own.nil _ _ _, by simp, G, hB4, rfl⟩ (.cons rfl (.cons rfl (.cons rfl (.cons rfl (.nil))))) ?_
  rintro nn wl1 ls ⟨i, p1, nxv, acv, xss, ys, rfl, hi, hp1, hR, hB7, hor, hoa, hxl, G, hB4, rfl⟩
  have hs22 := World.grownBy.size G
  refine Cq.seq ?_
  refine Cq.seq ?_
  refine Cq.region ?_
  refine Sq.move .plain rfl rfl ?_
  refine Sq.lss .plain rfl rfl rfl ?_
  refine Sq.part (fun c23 => ?_) (fun c23 => ?_)
  · refine Sq.nil ?_
    refine Eq.next ?_
    refine Cq.thn rfl ?_
    refine Cq.skip ?_
    refine Eq.next ?_
    refine Cq.seq ?_
    refine Cq.block ?_
    refine Cq.seq ?_
    refine Cq.drawS 12 (fun w' => Blk w' b9 26 [Value.int .i64 3, nxv, acv]) mixed (hB7) (fun w24 e25 hS => ?_)
    clear hS
    have hs26 := Below.size e25
    replace G := grown_trans G (Ext.to_grown e25 _)
    replace hB4 := hB4.ext e25
    replace hR := hR.ext e25
    replace hB7 := hB7.ext e25
    replace hor := hor.ext e25
    replace hoa := hoa.ext e25
    refine Gq.st 0 rfl (by kernel_rfl) rfl .plain rfl (fun _ _ _ h => h) hB7 (fun w' x => Still.fieldAddr fld26_1 rfl) ?_
    refine Gq.st 1 rfl (by kernel_rfl) rfl .plain rfl (fun _ _ _ h => h) hB7 (fun w' x => Still.loadB one23 rfl x rfl) ?_
    refine Gq.st 2 rfl (by kernel_rfl) rfl .plain rfl (fun _ _ _ h => h) hB7 (fun w' x => Still.move rfl) ?_
    refine Gq.st 3 rfl (by kernel_rfl) rfl .plain rfl (fun _ _ _ h => h) hB7 (fun w' x => Still.add rfl rfl (by omega)) ?_
    refine Gq.st 4 rfl (by kernel_rfl) rfl .plain rfl (fun _ _ _ h => h) hB7 (fun w' x => Still.rem rfl rfl (by omega)) ?_
    refine Gq.st 5 rfl (by kernel_rfl) rfl .plain rfl (fun _ _ _ h => h) hB7 (fun w' x => Still.move rfl) ?_
    refine Gq.st 6 rfl (by kernel_rfl) rfl .plain rfl (fun _ _ _ h => h) hB7 (fun w' x => Still.move rfl) ?_
    refine Gq.one 7 rfl (by kernel_rfl) ?_
    refine Sq.lit sl56 rfl rfl .plain rfl rfl (one_cons rfl (one_cons rfl (one_cons rfl one_nil))) (fun b27 w28 e29 hlo30 ho31 _ => ?_)
    replace ho31 := ho31 w24.heap.size (Nat.le_refl _)
    have hs33 := Below.size e29
    replace G := grown_trans G (Ext.to_grown e29 _)
    replace hB4 := hB4.ext e29
    replace hR := hR.ext e29
    replace hB7 := hB7.ext e29
    replace hor := hor.ext e29
    replace hoa := hoa.ext e29
    refine Sq.nil ?_
    refine Eq.goes (fun _ => hB7) ?_
    refine Gq.one 8 rfl (by kernel_rfl) ?_
    refine Sq.call fn47 .plain rfl rfl (num_c _ _ _ _ _ _ hR (hb.go G) hbl (by omega) _ [i, 0, 11] (Own.row ho31) (by simp)) ?_
    rintro _ w35 ⟨⟨p36, hp39, hB38, g37⟩, ⟨k40, rfl, hm41⟩⟩
    have hs42 := World.grownBy.size g37
    have hs43 := World.grownBy.size G
    have hs44 := World.grownBy.size g37
    replace G := grown_trans G g37
    replace hB4 := hB4.grown g37 (by intro h; injection h with h; omega)
    replace hB7 := hB7.grown g37 (by intro h; injection h with h; omega)
    replace hor := hor.stored g37 hR (by decide) (by decide)
    replace hoa := hoa.stored g37 hR (by decide)
    replace hR := hB38
    simp only [List.mem_cons, List.not_mem_nil, or_false] at hm41
    refine Sq.nil ?_
    refine Eq.goes (fun _ => hB7) ?_
    refine Gq.one 9 rfl (by kernel_rfl) ?_
    refine Sq.lit sl56 rfl rfl .plain rfl rfl (one_cons rfl (one_cons rfl one_nil)) (fun b45 w46 e47 hlo48 ho49 _ => ?_)
    replace ho49 := ho49 w35.heap.size (Nat.le_refl _)
    have hs51 := Below.size e47
    replace G := grown_trans G (Ext.to_grown e47 _)
    replace hB4 := hB4.ext e47
    replace hR := hR.ext e47
    replace hB7 := hB7.ext e47
    replace hor := hor.ext e47
    replace hoa := hoa.ext e47
    refine Sq.nil ?_
    refine Eq.goes (fun _ => hB7) ?_
    refine Gq.one 10 rfl (by kernel_rfl) ?_
    refine Sq.lit sl23 rfl rfl .plain rfl rfl (one_cons (Row.one (Own.row ho49)) one_nil) (fun b52 w53 e54 hlo55 ho56 _ => ?_)
    replace ho56 := ho56 w46.heap.size (Nat.le_refl _)
    have hs58 := Below.size e54
    replace G := grown_trans G (Ext.to_grown e54 _)
    replace hB4 := hB4.ext e54
    replace hR := hR.ext e54
    replace hB7 := hB7.ext e54
    replace hor := hor.ext e54
    replace hoa := hoa.ext e54
    replace ho49 := ho49.ext e54
    refine Sq.nil ?_
    refine Eq.goes (fun _ => hB7) ?_
    refine Gq.one 11 rfl (by kernel_rfl) ?_
    obtain ⟨rs63, q64, q65, q66⟩ := OwnRows.open hor (by decide)
    have q66x := Ext.refl w53
    refine Sq.app sl23 q64 (by omega) (Own.row ho56) (one_cons (Row.one (Own.row ho49)) one_nil) (by rw [q65]; first | omega | (simp; omega)) .plain rfl rfl rfl rfl (fun v59 w60 ho62 g61 => ?_)
    have hs67 := g61.size
    have ho62r := q66 _ (([(i + 1) % 12, k40] : List Int)) _ _ _ (Ext.refl _) (Own.mono ho49 (by omega)) (by omega) ho62 g61
    replace G := grown_new G q64 g61 (by omega)
    replace hB4 := hB4.owned q64 g61 (by decide)
    replace hR := hR.owned q64 g61 (by decide)
    replace hB7 := hB7.owned q64 g61 (by decide)
    replace hoa := hoa.owned q64 g61 (by decide)
    refine Sq.nil ?_
    refine Eq.goes (fun _ => hB7) ?_
    refine Gq.one 12 rfl (by kernel_rfl) ?_
    refine Sq.fieldAddr fld26_1 .plain rfl rfl ?_
    refine Sq.nil ?_
    refine Eq.goes (fun h => absurd h (by decide)) ?_
    refine Gq.one 13 rfl (by kernel_rfl) ?_
    refine Sq.store one23 .plain rfl rfl (Rows.one (OwnRows.rows ho62r)) hB7 (by simp) (fun w68 g69 hB70 => ?_)
    have hs71 := World.grownBy.size g69
    replace G := grown_far G g69 (fun k hk => by injection hk with hk; subst hk; omega)
    replace hB4 := hB4.grown g69 (by intro h; injection h with h; omega)
    replace hR := hR.grown g69 (by intro h; injection h with h; omega)
    replace hoa := hoa.stored g69 hB7 (by decide)
    replace ho62r := ho62r.stored g69 hB7 (by decide) (by decide)
    replace hB7 := hB70
    refine Sq.nil ?_
    refine Eq.goes (fun h => absurd h (by decide)) ?_
    refine Gq.done (by kernel_rfl) ?_
    refine Eq.next ?_
    refine Cq.drawS 11 (fun w' => Blk w' b9 26 [Value.int .i64 3, v59, acv]) mixed (hB7) (fun w72 e73 hS => ?_)
    clear hS
    have hs74 := Below.size e73
    replace G := grown_trans G (Ext.to_grown e73 _)
    replace hB4 := hB4.ext e73
    replace hR := hR.ext e73
    replace hB7 := hB7.ext e73
    replace hoa := hoa.ext e73
    replace ho62r := ho62r.ext e73
    refine Gq.st 0 rfl (by kernel_rfl) rfl .plain rfl (fun _ _ _ h => h) hB7 (fun w' x => Still.fieldAddr fld26_2 rfl) ?_
    refine Gq.st 1 rfl (by kernel_rfl) rfl .plain rfl (fun _ _ _ h => h) hB7 (fun w' x => Still.loadB one24 rfl x rfl) ?_
    refine Gq.st 2 rfl (by kernel_rfl) rfl .plain rfl (fun _ _ _ h => h) hB7 (fun w' x => Still.move rfl) ?_
    refine Gq.st 3 rfl (by kernel_rfl) rfl .plain rfl (fun _ _ _ h => h) hB7 (fun w' x => Still.eql rfl rfl) ?_
    refine Gq.part (fun c75 => ?_) (fun c75 => ?_)
    · refine Gq.st 4 rfl (by kernel_rfl) rfl .plain rfl (fun _ _ _ h => h) hB7 (fun w' x => Still.move rfl) ?_
      refine Gq.off 5 rfl (by kernel_rfl) rfl rfl rfl rfl rfl rfl (fun _ _ _ h => h) hB7 ?_
      refine Gq.off 6 rfl (by kernel_rfl) rfl rfl rfl rfl rfl rfl (fun _ _ _ h => h) hB7 ?_
      refine Gq.off 7 rfl (by kernel_rfl) rfl rfl rfl rfl rfl rfl (fun _ _ _ h => h) hB7 ?_
      refine Gq.st 8 rfl (by kernel_rfl) rfl .plain rfl (fun _ _ _ h => h) hB7 (fun w' x => Still.pickT rfl rfl) ?_
      refine Gq.one 9 rfl (by kernel_rfl) ?_
      refine Sq.lit sl24 rfl rfl .plain rfl rfl (one_cons rfl one_nil) (fun b76 w77 e78 hlo79 ho80 _ => ?_)
      replace ho80 := ho80 w72.heap.size (Nat.le_refl _)
      have hs82 := Below.size e78
      replace G := grown_trans G (Ext.to_grown e78 _)
      replace hB4 := hB4.ext e78
      replace hR := hR.ext e78
      replace hB7 := hB7.ext e78
      replace hoa := hoa.ext e78
      replace ho62r := ho62r.ext e78
      refine Sq.nil ?_
      refine Eq.goes (fun _ => hB7) ?_
      refine Gq.one 10 rfl (by kernel_rfl) ?_
      refine Sq.app sl24 hoa (by omega) (Own.row ho80) (one_cons rfl one_nil) (by first | omega | (simp; omega)) .plain rfl rfl rfl rfl (fun v83 w84 ho86 g85 => ?_)
      have hs87 := g85.size
      replace G := grown_new G hoa g85 (by omega)
      replace hB4 := hB4.owned hoa g85 (by decide)
      replace hR := hR.owned hoa g85 (by decide)
      replace hB7 := hB7.owned hoa g85 (by decide)
      replace ho62r := ho62r.owned hoa g85 (by decide) (by decide)
      refine Sq.nil ?_
      refine Eq.goes (fun _ => hB7) ?_
      refine Gq.one 11 rfl (by kernel_rfl) ?_
      refine Sq.fieldAddr fld26_2 .plain rfl rfl ?_
      refine Sq.nil ?_
      refine Eq.goes (fun h => absurd h (by decide)) ?_
      refine Gq.one 12 rfl (by kernel_rfl) ?_
      refine Sq.store one24 .plain rfl rfl (Row.one (Own.row ho86)) hB7 (by simp) (fun w88 g89 hB90 => ?_)
      have hs91 := World.grownBy.size g89
      replace G := grown_far G g89 (fun k hk => by injection hk with hk; subst hk; omega)
      replace hB4 := hB4.grown g89 (by intro h; injection h with h; omega)
      replace hR := hR.grown g89 (by intro h; injection h with h; omega)
      replace ho62r := ho62r.stored g89 hB7 (by decide) (by decide)
      replace ho86 := ho86.stored g89 hB7 (by decide)
      replace hB7 := hB90
      refine Sq.nil ?_
      refine Eq.goes (fun h => absurd h (by decide)) ?_
      refine Gq.done (by kernel_rfl) ?_
      refine Eq.end ?_
      refine Eq.next ?_
      refine Cq.region ?_
      refine Sq.move .plain rfl rfl ?_
      refine Sq.add .plain rfl rfl rfl (by omega) ?_
      refine Sq.assign .plain rfl rfl ?_
      refine Sq.nil ?_
      refine Eq.round _ _ ⟨i + 1, _, _, _, _, _, rfl, by omega, by omega, hR, hB7, OwnRows.now ho62r, Own.snocB ho86, ⟨by simp; omega, by simp; omega, rows_snoc hxl.2.2 (rowOk_mk rfl (by simp; omega))⟩, G, hB4, rfl⟩ (by omega) (.cons rfl (.cons rfl (.cons rfl (.cons rfl (.nil)))))
    refine Gq.st 4 rfl (by kernel_rfl) rfl .plain rfl (fun _ _ _ h => h) hB7 (fun w' x => Still.move rfl) ?_
    refine Gq.st 5 rfl (by kernel_rfl) rfl (.met rfl rfl rfl) rfl (fun _ _ _ h => h) hB7 (fun w' x => Still.move rfl) ?_
    refine Gq.one 6 rfl (by kernel_rfl) ?_
    refine Sq.call fn43 (.met rfl rfl rfl) rfl rfl (pick_c _ _ _ _ _ _ hR (hb.go G) hbl (by omega) 5 (by omega)) ?_
    rintro _ w93 ⟨⟨p94, hp97, hB96, g95⟩, ⟨k98, rfl, hk99⟩⟩
    have hs100 := World.grownBy.size g95
    have hs101 := World.grownBy.size G
    have hs102 := World.grownBy.size g95
    replace G := grown_trans G g95
    replace hB4 := hB4.grown g95 (by intro h; injection h with h; omega)
    replace hB7 := hB7.grown g95 (by intro h; injection h with h; omega)
    replace hoa := hoa.stored g95 hR (by decide)
    replace ho62r := ho62r.stored g95 hR (by decide) (by decide)
    replace hR := hB96
    refine Sq.nil ?_
    refine Eq.goes (fun _ => hB7) ?_
    refine Gq.st 7 rfl (by kernel_rfl) rfl (.met rfl rfl rfl) rfl (fun _ _ _ h => h) hB7 (fun w' x => Still.eql rfl rfl) ?_
    refine Gq.st 8 rfl (by kernel_rfl) rfl .plain rfl (fun _ _ _ h => h) hB7 (fun w' x => Still.pickF rfl rfl) ?_
    refine Gq.one 9 rfl (by kernel_rfl) ?_
    refine Sq.lit sl24 rfl rfl .plain rfl rfl (one_cons rfl one_nil) (fun b103 w104 e105 hlo106 ho107 _ => ?_)
    replace ho107 := ho107 w93.heap.size (Nat.le_refl _)
    have hs109 := Below.size e105
    replace G := grown_trans G (Ext.to_grown e105 _)
    replace hB4 := hB4.ext e105
    replace hR := hR.ext e105
    replace hB7 := hB7.ext e105
    replace hoa := hoa.ext e105
    replace ho62r := ho62r.ext e105
    refine Sq.nil ?_
    refine Eq.goes (fun _ => hB7) ?_
    refine Gq.one 10 rfl (by kernel_rfl) ?_
    refine Sq.app sl24 hoa (by omega) (Own.row ho107) (one_cons rfl one_nil) (by first | omega | (simp; omega)) .plain rfl rfl rfl rfl (fun v110 w111 ho113 g112 => ?_)
    have hs114 := g112.size
    replace G := grown_new G hoa g112 (by omega)
    replace hB4 := hB4.owned hoa g112 (by decide)
    replace hR := hR.owned hoa g112 (by decide)
    replace hB7 := hB7.owned hoa g112 (by decide)
    replace ho62r := ho62r.owned hoa g112 (by decide) (by decide)
    refine Sq.nil ?_
    refine Eq.goes (fun _ => hB7) ?_
    refine Gq.one 11 rfl (by kernel_rfl) ?_
    refine Sq.fieldAddr fld26_2 .plain rfl rfl ?_
    refine Sq.nil ?_
    refine Eq.goes (fun h => absurd h (by decide)) ?_
    refine Gq.one 12 rfl (by kernel_rfl) ?_
    refine Sq.store one24 .plain rfl rfl (Row.one (Own.row ho113)) hB7 (by simp) (fun w115 g116 hB117 => ?_)
    have hs118 := World.grownBy.size g116
    replace G := grown_far G g116 (fun k hk => by injection hk with hk; subst hk; omega)
    replace hB4 := hB4.grown g116 (by intro h; injection h with h; omega)
    replace hR := hR.grown g116 (by intro h; injection h with h; omega)
    replace ho62r := ho62r.stored g116 hB7 (by decide) (by decide)
    replace ho113 := ho113.stored g116 hB7 (by decide)
    replace hB7 := hB117
    refine Sq.nil ?_
    refine Eq.goes (fun h => absurd h (by decide)) ?_
    refine Gq.done (by kernel_rfl) ?_
    refine Eq.end ?_
    refine Eq.next ?_
    refine Cq.region ?_
    refine Sq.move .plain rfl rfl ?_
    refine Sq.add .plain rfl rfl rfl (by omega) ?_
    refine Sq.assign .plain rfl rfl ?_
    refine Sq.nil ?_
    refine Eq.round _ _ ⟨i + 1, _, _, _, _, _, rfl, by omega, by omega, hR, hB7, OwnRows.now ho62r, Own.snocB ho113, ⟨by simp; omega, by simp; omega, rows_snoc hxl.2.2 (rowOk_mk rfl (by simp; omega))⟩, G, hB4, rfl⟩ (by omega) (.cons rfl (.cons rfl (.cons rfl (.cons rfl (.nil)))))
  refine Sq.nil ?_
  refine Eq.next ?_
  refine Cq.els rfl ?_
  refine Cq.exit ?_
  refine Eq.past ?_
  refine Eq.past ?_
  refine Eq.hit ?_
  refine Eq.next ?_
  refine Cq.seq ?_
  refine Cq.region ?_
  refine Sq.loadAgg agg26 .plain rfl rfl hB7 rfl ?_
  refine Sq.storeAgg agg26 .plain rfl rfl (one_cons rfl (one_cons (Rows.one (OwnRows.rows hor)) (one_cons (Row.one (Own.row hoa)) one_nil))) hB4 rfl rfl (fun w119 g120 hB121 => ?_)
  have hs122 := World.grownBy.size g120
  replace G := grown_far G g120 (fun k hk => by injection hk with hk; subst hk; omega)
  replace hR := hR.grown g120 (by intro h; injection h with h; omega)
  replace hor := hor.stored g120 hB4 (by decide) (by decide)
  replace hoa := hoa.stored g120 hB4 (by decide)
  replace hB4 := hB121
  refine Sq.nil ?_
  refine Eq.next ?_
  refine Cq.ret ?_
  refine Eq.retCell rfl rfl agg26 hB4 rfl ?_
  exact ⟨⟨_, by omega, hR, G⟩, ⟨3, xss, ys⟩, ⟨_, _, rfl, OwnRows.now hor, hoa⟩, validA_mk (by show (0 : Int) ≤ 3 ∧ (3 : Int) ≤ 63; decide) (by show 1 ≤ xss.length ∧ xss.length ≤ 12; omega) (by show ys.length = xss.length; omega) (by intro row hr; have e : ((⟨3, xss, ys⟩ : A).next.length : Int) = 12 := (by show (xss.length : Int) = 12; omega); rw [e]; show rowOk ((letters 3).length : Int) 12 row = true; rw [show ((letters 3).length : Int) = 2 from by decide]; exact hxl.2.2 row hr)⟩
end Go.Proofs.Ytdejmfkpohgamaa
