/-
  More laws for the calculus of slots: closures, maps that number their keys, appends whose block is told apart. Nothing of any one program stands here.
-/
import Derived.Test.YtdkdpmmfebdeaaaStr
import Derived.MapKept
set_option linter.unusedSimpArgs false
set_option linter.unusedVariables false
namespace Go.Proofs.Ytdkdpmmfebdeaaa
open Go.RowKit

section
variable {P : Program} {N : Nat} {ops : Array Oper} {Q : Exit → Act → World → Prop} {rest : List Oper} {l : Slots} {w : World}
variable {d : Nat} {ty : TypeId} {pos : String} {after : Array Edge} {g : Option (Nat × Bool)}

/-! closures -/
theorem Still.makeFunc {k : FuncId} {xs : List Operand} {vs : List Value} (hx : evs l xs = some vs) : Still P N l ⟨some d, .makeFunc (.func k) #[] xs.toArray, ty, pos, after, g⟩ (.func (.func k) #[] vs.toArray) w := fun a ha => by
  have : xs.toArray.map a.eval = vs.toArray := by rw [List.map_toArray, ha.evs hx]
  simp [execOp, Instr.makeFunc, this, ha.evs hx]
theorem Sq.makeFunc {k : FuncId} {xs : List Operand} {vs : List Value} (hg : On ops l g) (hN : Nat.blt d N = true) (hx : evs l xs = some vs) (h : Sq P N ops Q rest ((d, .func (.func k) #[] vs.toArray) :: l) w) :
    Sq P N ops Q (⟨some d, .makeFunc (.func k) #[] xs.toArray, ty, pos, after, g⟩ :: rest) l w := .val hg rfl hN (Still.makeFunc hx) h
theorem Sq.callC {f : FuncId} {fn : Func} {x : Operand} {xs : List Operand} {ats : Array TypeId} {vs cs : List Value} {R : Value → World → Prop} (hf : Fn P f fn) (hg : On ops l g) (hN : Nat.blt d N = true)
    (hc : ev l x = some (.func (.func f) #[] cs.toArray)) (hx : evs l xs = some vs) (hr : Ret P f (vs ++ cs).toArray w R) (h : ∀ v w', R v w' → Sq P N ops Q rest ((d, v) :: l) w') :
    Sq P N ops Q (⟨some d, .call ⟨.value x, xs.toArray, ats⟩, ty, pos, after, g⟩ :: rest) l w := by
  intro a ha
  refine wpList_step fun K hK => ?_
  rw [if_pos (hg.wanted ha)]
  unfold Oper.wp
  have e1 : xs.toArray.map a.eval = vs.toArray := by rw [List.map_toArray, ha.evs hx]
  have e : execOp a.eval ⟨some d, .call ⟨.value x, xs.toArray, ats⟩, ty, pos, after, g⟩ = callFunc f (vs ++ cs).toArray := by
    show (do let d ← resolve a.eval ⟨.value x, xs.toArray, ats⟩ ty; invoke d.target d.args) = _
    unfold resolve
    simp only [e1, ha.ev hc, Deferred.ofValue]
    show invoke (.fn (.func f) cs.toArray) (#[] ++ vs.toArray) = _
    simp [invoke]
  rw [e, run_callFunc hf, Oper.upon_enter]
  refine Calls.mono hr fun e w' he => ?_
  obtain ⟨v, rfl, hv⟩ := he
  exact hK _ _ (h v w' hv _ (ha.put hN))

/-! maps that number their keys -/
/-- The keys are xs, in the order of their coming; the value of each is its number. -/
def MapN {κ : Type} (enc : κ → Value) (w : World) (b : Nat) (xs : List κ) : Prop := ∃ es clock, w.heap[b]? = some (.map es clock) ∧ es.toList.map (fun e => (e.key, e.val)) = xs.zipIdx.map fun p => (enc p.1, Value.int .i64 (p.2 : Int))
variable {κ : Type} {enc : κ → Value} {w' : World} {b : Nat} {xs : List κ}
theorem MapN.lt (h : MapN enc w b xs) : b < w.heap.size := by
  obtain ⟨es, c, hb, _⟩ := h
  exact (Array.getElem?_eq_some_iff.1 hb).1
theorem MapN.ext (h : MapN enc w b xs) (x : Ext w w') : MapN enc w' b xs := by
  obtain ⟨es, c, hb, hx⟩ := h
  exact ⟨es, c, x.heap hb, hx⟩
theorem MapN.grown {r : Option Nat} (h : MapN enc w b xs) (hg : w.grownBy w' r) (hr : r ≠ some b) : MapN enc w' b xs := by
  obtain ⟨es, c, hb, hx⟩ := h
  exact ⟨es, c, by rw [hg.block b (Array.getElem?_eq_some_iff.1 hb).1 (fun e => hr e.symm)]; exact hb, hx⟩
theorem MapN.stored {gb : Nat} {t : TypeId} {cs : List Value} (h : MapN enc w b xs) (hg : w.grownBy w' (some gb)) (hb : Blk w gb t cs) : MapN enc w' b xs := by
  refine h.grown hg (fun e => ?_)
  injection e with e
  subst e
  obtain ⟨es, c, hb', _⟩ := h
  simp only [Blk] at hb
  rw [hb] at hb'
  cases hb'
theorem MapN.owned {B : Nat} {t : TypeId} {u : Value} {us : List Value} (h : MapN enc w b xs) (ho : Own w B t u us) (hg : w.grownBy w' u.ownBlock) : MapN enc w' b xs := by
  rcases ho.cases with ⟨rfl, rfl⟩ | ⟨gb, cap, cs, rfl, hg', hb, _⟩
  · exact h.ext (Ext.of_grown hg)
  · exact h.stored (gb := gb) hg hb
theorem Blk.mapped {bb : Nat} {t : TypeId} {cs : List Value} (h : Blk w bb t cs) (hm : MapN enc w b xs) (hg : w.grownBy w' (some b)) : Blk w' bb t cs := by
  refine h.grown hg (fun e => ?_)
  injection e with e
  subst e
  obtain ⟨es, c, hb', _⟩ := hm
  simp only [Blk] at h
  rw [h] at hb'
  cases hb'
theorem Row.mapped {e : TypeId} {v : Value} {vs : List Value} (h : Row w e v vs) (hm : MapN enc w b xs) (hg : w.grownBy w' (some b)) : Row w' e v vs := by
  rcases h with h | ⟨b', o, c, cur, fr, hv, hb, hx⟩
  · exact .inl h
  · refine .inr ⟨b', o, c, cur, fr, hv, ?_, hx⟩
    rw [hg.block b' (lt_of_block hb) (fun h => ?_)]
    · exact hb
    · injection h with h
      subst h
      obtain ⟨es, cc, hb', _⟩ := hm
      rw [hb] at hb'
      cases hb'
theorem Own.mapped {B : Nat} {e : TypeId} {v : Value} {vs : List Value} (h : Own w B e v vs) (hm : MapN enc w b xs) (hg : w.grownBy w' (some b)) : Own w' B e v vs := by
  rcases h.cases with ⟨rfl, rfl⟩ | ⟨g', cap, cs, rfl, hg', hb, h3, h4, h5, h6⟩
  · exact Own.nil _ _ _
  · exact Own.mk hg' (hb.mapped hm hg) h3 h4 h5 h6
theorem OwnRows.mapped {B U : Nat} {e e' : TypeId} {v : Value} {xss : List (List Int)} (h : OwnRows w B U e e' v xss) (hm : MapN enc w b xs) (hg : w.grownBy w' (some b)) : OwnRows w' B U e e' v xss := by
  obtain ⟨rs, h1, h2, h3, h4⟩ := h
  exact ⟨rs, h1.mapped hm hg, h2, fun i r hr => ⟨(h3 i r hr).1.mapped hm hg, (h3 i r hr).2⟩, h4⟩
theorem Ext.mapped {w1 : World} (h : Ext w1 w) (hg : w.grownBy w' (some b)) (hB : w1.heap.size ≤ b) : Ext w1 w' := h.grown hg fun k hk => by injection hk with hk; omega

theorem Sq.makeMap {t : TypeId} (enc : κ → Value) (hg : On ops l g) (hN : Nat.blt d N = true) (h : ∀ b w', Ext w w' → MapN enc w' b ([] : List κ) → w.heap.size ≤ b → Sq P N ops Q rest ((d, .map (some b)) :: l) w') :
    Sq P N ops Q (⟨some d, .makeMap t none, ty, pos, after, g⟩ :: rest) l w :=
  .val (w' := w.alloc (.map #[] 0)) hg rfl hN (fun a ha => by simp [execOp, Instr.makeMap, run_makeMap]) (h _ _ (Ext.alloc _ _) ⟨#[], 0, heap_alloc_new w _, rfl⟩ (Nat.le_refl _))
theorem Still.lenMap {t kt et : TypeId} {x : Operand} (ht : P.underlying t = some (.map kt et)) (hm : MapN enc w b xs) (hx : ev l x = some (.map (some b))) : Still P N l ⟨some d, .call ⟨.builtin .len, #[x], #[t]⟩, ty, pos, after, g⟩ (.int .i64 xs.length) w := fun a ha => by
  obtain ⟨es, c, hb, hes⟩ := hm
  have hl : es.size = xs.length := by
    have := congrArg List.length hes
    simpa using this
  rw [BigFrame.execOp_builtin, BigFrame.builtin_len]
  have hr : (Builtin.len_ #[t] ty #[.map (some b)]).run P w = .ok (.int .i64 xs.length) w := by
    simp [Builtin.len_, run_underlying ht, MapKept.run_getObj_map hb, goInt, hl, Result.andThen]
  simp only [List.map_toArray, List.map_cons, List.map_nil, ha.ev hx, Sem.run_bind, hr, Result.andThen, Sem.run_pure]
theorem Sq.lenMap {t kt et : TypeId} {x : Operand} (ht : P.underlying t = some (.map kt et)) (hm : MapN enc w b xs) (hg : On ops l g) (hN : Nat.blt d N = true) (hx : ev l x = some (.map (some b))) (h : Sq P N ops Q rest ((d, .int .i64 xs.length) :: l) w) :
    Sq P N ops Q (⟨some d, .call ⟨.builtin .len, #[x], #[t]⟩, ty, pos, after, g⟩ :: rest) l w := .val hg rfl hN (Still.lenMap ht hm hx) h

/-- What is asked of the keys' kind. -/
structure KeyT [DecidableEq κ] (P : Program) (t : TypeId) (enc : κ → Value) : Prop where
  types : ∃ kt et kd, P.underlying t = some (.map kt et) ∧ P.underlying kt = some kd ∧ (∀ x y, Instr.sameNow kd (enc x) (enc y) = some (decide (x = y))) ∧ (∀ w, (zeroValue et).run P w = .ok (.int .i64 0) w) ∧ ∀ x, MapKept.IsKey kd (enc x)
variable [DecidableEq κ]
theorem findNow_num {kd : TypeDesc} (hk : ∀ x y, Instr.sameNow kd (enc x) (enc y) = some (decide (x = y))) (k : κ) : ∀ (es : List MapEntry) (xs : List κ) (j s : Nat), es.map (fun e => (e.key, e.val)) = (xs.zipIdx s).map (fun p => (enc p.1, Value.int .i64 (p.2 : Int))) →
    Instr.findNow kd (enc k) es j = some (if k ∈ xs then some (j + xs.idxOf k, .int .i64 ((s + xs.idxOf k : Nat) : Int)) else none)
  | [], xs, j, s, h => by
    have : xs = [] := by cases xs with | nil => rfl | cons x r => simp at h
    subst this
    simp [Instr.findNow]
  | e :: es, xs, j, s, h => by
    cases xs with
    | nil => simp at h
    | cons x r =>
      simp only [List.map_cons, List.zipIdx_cons, List.cons.injEq, Prod.mk.injEq] at h
      obtain ⟨⟨h1, h2⟩, h3⟩ := h
      have ih := findNow_num hk k es r (j + 1) (s + 1) h3
      unfold Instr.findNow
      rw [h1, hk]
      by_cases hx : k = x
      · subst hx
        simp [h2]
      · have hx' : (x == k) = false := by simpa using fun h => hx h.symm
        rw [decide_eq_false hx]
        show Instr.findNow kd (enc k) es (j + 1) = _
        rw [ih]
        by_cases hm : k ∈ r
        · rw [if_pos hm, if_pos (List.mem_cons_of_mem _ hm), List.idxOf_cons, hx']
          simp only [cond_false]
          congr 3
          · omega
          · congr 1; omega
        · rw [if_neg hm, if_neg (by simp [hx, hm])]
theorem findKey_num {kt : TypeId} {kd : TypeDesc} (hd : P.underlying kt = some kd) (hk : ∀ x y, Instr.sameNow kd (enc x) (enc y) = some (decide (x = y))) (k : κ) {es : Array MapEntry} (h : es.toList.map (fun e => (e.key, e.val)) = xs.zipIdx.map (fun p => (enc p.1, Value.int .i64 (p.2 : Int)))) :
    (Instr.findKey kt (enc k) es.toList).run P w = .ok (if k ∈ xs then some (xs.idxOf k, .int .i64 (xs.idxOf k : Int)) else none) w := by
  have := findNow_num hk k es.toList xs 0 0 h
  simp only [Nat.zero_add] at this
  simp [Instr.findKey, run_underlying hd, this]
theorem Still.lookup {t : TypeId} {m x : Operand} {k : κ} (ht : KeyT P t enc) (hm : MapN enc w b xs) (hx : ev l m = some (.map (some b))) (hk : ev l x = some (enc k)) :
    Still P N l ⟨some d, .lookup t m x true, ty, pos, after, g⟩ (.tuple #[.int .i64 (if k ∈ xs then (xs.idxOf k : Int) else 0), .bool (decide (k ∈ xs))]) w := fun a ha => by
  obtain ⟨kt, et, kd, h1, h2, h3, h4, h5⟩ := ht.types
  obtain ⟨es, c, hb, hes⟩ := hm
  have hf := findKey_num (P := P) (w := w) h2 h3 k hes
  by_cases hin : k ∈ xs
  · rw [if_pos hin] at hf
    simp [execOp, Instr.lookup, ha.ev hx, ha.ev hk, run_underlying h1, MapKept.run_getObj_map hb, MapKept.run_checkKey h2 (h5 k), hf, hin, Result.andThen]
  · rw [if_neg hin] at hf
    simp [execOp, Instr.lookup, ha.ev hx, ha.ev hk, run_underlying h1, MapKept.run_getObj_map hb, MapKept.run_checkKey h2 (h5 k), hf, hin, h4, Result.andThen]
theorem Sq.lookup {t : TypeId} {m x : Operand} {k : κ} (ht : KeyT P t enc) (hm : MapN enc w b xs) (hg : On ops l g) (hN : Nat.blt d N = true) (hx : ev l m = some (.map (some b))) (hk : ev l x = some (enc k))
    (h : Sq P N ops Q rest ((d, .tuple #[.int .i64 (if k ∈ xs then (xs.idxOf k : Int) else 0), .bool (decide (k ∈ xs))]) :: l) w) : Sq P N ops Q (⟨some d, .lookup t m x true, ty, pos, after, g⟩ :: rest) l w := .val hg rfl hN (Still.lookup ht hm hx hk) h
theorem Sq.mapUpdate {t : TypeId} {m x y : Operand} {k : κ} {n : Int} (ht : KeyT P t enc) (hm : MapN enc w b xs) (hg : On ops l g) (hx : ev l m = some (.map (some b))) (hk : ev l x = some (enc k)) (hy : ev l y = some (.int .i64 n)) (hn : n = xs.length) (hin : k ∉ xs)
    (h : ∀ w', w.grownBy w' (some b) → MapN enc w' b (xs ++ [k]) → Sq P N ops Q rest l w') : Sq P N ops Q (⟨none, .mapUpdate t m x y, ty, pos, after, g⟩ :: rest) l w := by
  obtain ⟨kt, et, kd, h1, h2, h3, h4, h5⟩ := ht.types
  obtain ⟨es, c, hb, hes⟩ := hm
  have hf := findKey_num (P := P) (w := w) h2 h3 k hes
  rw [if_neg hin] at hf
  have hs := MapKept.heap_set (o' := .map (es.push { key := enc k, val := .int .i64 n, born := c }) (c + 1)) hb
  refine .unit (w' := { w with heap := w.heap.setIfInBounds b (.map (es.push { key := enc k, val := .int .i64 n, born := c }) (c + 1)) }) hg rfl (fun a ha => ?_) (h _ ⟨rfl, rfl, rfl, by simp, fun j _ hne => hs.2 j (fun e => hne (congrArg some e))⟩ ⟨_, _, hs.1, ?_⟩)
  · simp [execOp, Instr.mapUpdate, ha.ev hx, ha.ev hk, ha.ev hy, run_underlying h1, MapKept.run_getObj_map hb, MapKept.run_checkKey h2 (h5 k), hf, MapKept.run_setObj_map _ hb, Result.andThen]
  · rw [Array.toList_push, List.map_append, hes, List.zipIdx_append, List.map_append, hn]
    simp
/-! appends whose block is told -/
/-- No block is both's. -/
def Apart (v u : Value) : Prop := ∀ k, v.ownBlock = some k → u.ownBlock ≠ some k
theorem Apart.symm {v u : Value} (h : Apart v u) : Apart u v := fun k hk hc => h k hc hk
theorem Apart.nil (u : Value) : Apart (.slice none 0 0) u := fun k hk => by cases hk
theorem Apart.grow {v v' u : Value} {B : Nat} {e : TypeId} {us : List Value} (h : Apart v u) (ho : Own w B e u us) (hf : ∀ k, v'.ownBlock = some k → v.ownBlock = some k ∨ w.heap.size ≤ k) : Apart v' u := fun k hk hc => by
  rcases hf k hk with h1 | h1
  · exact h k h1 hc
  · have := (ho.lt k hc).2; omega
theorem Own.other {B : Nat} {e : TypeId} {v u : Value} {vs : List Value} (h : Own w B e v vs) (hg : w.grownBy w' u.ownBlock) (ha : Apart u v) : Own w' B e v vs := h.grown hg fun k hk hc => ha k hc hk
theorem fresh_of {B n m size c : Nat} {t e : TypeId} {i : TypeInfo} {z : Value} {v v' : Value} {xs news : List Value} {ad : Addr} {w'' : World} (ht : P.underlying t = some (.slice e)) (hi : P.info? e = some i) (hz : i.zero = some z) (hsize : i.size = size)
    (hown : w.ownsRow B e size v n xs) (hl : news.length = m * size) (hnews : ∀ j u, news[j]? = some u → w.cell? (ad.add j) = some u) (h1 : ∀ u ∈ news, u.oneCell' = true) (h63 : n + m ≤ maxLen) (hbytes : (n + m) * i.bytes ≤ 140737488355328) (hm : 0 < m)
    (hr : (Builtin.append_ #[t, t] ty #[v, .slice (some ad) m c]).run P w = .ok v' w'') : ∀ k, v'.ownBlock = some k → v.ownBlock = some k ∨ w.heap.size ≤ k := by
  subst hsize
  have h63' : n + m ≤ 9223372036854775807 := by simp only [maxLen] at h63; omega
  intro k hk
  rcases hown.2 with ⟨rfl, rfl⟩ | ⟨gb, cap, cur, rfl, hbg, hgg, hnc, hcm, hcs, htake⟩
  · have e2 := run_append_nil (P := P) w t ty e i z ht hi hz ad m c news hl hnews (by omega) (by omega) (Nat.le_trans (by simpa using hbytes) (by decide : 140737488355328 ≤ 281474976710656))
    rw [e2] at hr
    injection hr with hv _
    subst hv
    simp [Value.ownBlock] at hk
    omega
  · by_cases hroom : n + m ≤ cap
    · have hfit : n * i.size + news.length ≤ cur.size := by rw [hl, hcs, ← Nat.add_mul]; exact Nat.mul_le_mul_right _ hroom
      have e2 := run_append_room (P := P) w t ty e i ht hi gb n cap cur hgg ad m c news hl hnews h1 hroom hfit
      rw [e2] at hr
      injection hr with hv _
      subst hv
      exact .inl hk
    · have holds : ∀ j u, xs[j]? = some u → w.cell? ((⟨gb, 0, none⟩ : Addr).add j) = some u := hown.cells (g := gb) rfl
      have e2 := run_append_grow (P := P) w t ty e i z ht hi hz ⟨gb, 0, none⟩ n cap xs hown.1 holds ad m c news hl hnews (by omega) (by omega) (growslice_fits (by omega) hbytes)
      rw [e2] at hr
      injection hr with hv _
      subst hv
      simp [Value.ownBlock] at hk
      omega
end
end Go.Proofs.Ytdkdpmmfebdeaaa
