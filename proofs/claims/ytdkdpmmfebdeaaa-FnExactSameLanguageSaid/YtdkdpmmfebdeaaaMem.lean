/-
  Memory for the calculus of slots: rows of cells, boxes, and one law for each operation that looks into memory or makes some. Nothing of any one program stands here.
-/
import Derived.Test.YtdkdpmmfebdeaaaSq
set_option linter.unusedSimpArgs false
set_option linter.unusedVariables false
namespace Go.Proofs.Ytdkdpmmfebdeaaa
open Go.RowKit

/-- Nothing that was there has turned. -/
def Ext (w w' : World) : Prop := Below w.heap.size w w'
theorem Ext.refl (w : World) : Ext w w := Below.refl _ _
theorem Ext.trans {a b c : World} (h : Ext a b) (k : Ext b c) : Ext a c := Below.trans h (Below.mono k h.size)
theorem Ext.alloc (w : World) (o : Obj) : Ext w (w.alloc o) := (Below.refl _ _).alloc (Nat.le_refl _) o
theorem Ext.heap {w w' : World} (h : Ext w w') {b : Nat} {o : Obj} (hb : w.heap[b]? = some o) : w'.heap[b]? = some o := by
  rw [h.block b (lt_of_block hb)]; exact hb
theorem Ext.grown {a b w' : World} {r : Option Nat} (h : Ext a b) (hg : b.grownBy w' r) (hr : ∀ k, r = some k → a.heap.size ≤ k) : Ext a w' := Below.grown h hg h.size hr
theorem Ext.of_grown {w w' : World} (h : w.grownBy w' none) : Ext w w' := (Below.refl _ _).grown h (Nat.le_refl _) (fun k hk => by cases hk)
theorem Ext.to_grown {w w' : World} (h : Ext w w') (r : Option Nat) : w.grownBy w' r := ⟨h.os, h.tape, h.output, h.size, fun k hk _ => h.block k hk⟩
theorem grown_trans {a b c : World} {r : Option Nat} (h : a.grownBy b r) (k : b.grownBy c r) : a.grownBy c r :=
  ⟨k.os.trans h.os, k.tape.trans h.tape, k.output.trans h.output, Nat.le_trans h.size k.size, fun i hi hn => (k.block i (Nat.lt_of_lt_of_le hi h.size) hn).trans (h.block i hi hn)⟩
theorem grown_setCell (w : World) (g o : Nat) (v : Value) : w.grownBy (w.setCell ⟨g, o, none⟩ v) (some g) :=
  ⟨rfl, rfl, rfl, by simp [World.setCell], fun k _ hne => Below.heap_setCell _ _ _ _ (fun e => hne (by rw [e]))⟩

/-- Block b: a row of cells of element type t, free to be written. -/
def Blk (w : World) (b : Nat) (t : TypeId) (cs : List Value) : Prop := w.heap[b]? = some (.cells cs.toArray t (0, 0))
theorem Blk.ext {w w' : World} {b : Nat} {t : TypeId} {cs : List Value} (h : Blk w b t cs) (e : Ext w w') : Blk w' b t cs := e.heap h
theorem Blk.lt {w : World} {b : Nat} {t : TypeId} {cs : List Value} (h : Blk w b t cs) : b < w.heap.size := lt_of_block h
theorem Blk.cell {w : World} {b : Nat} {t : TypeId} {cs : List Value} (h : Blk w b t cs) (j : Nat) : w.cell? ⟨b, j, none⟩ = cs[j]? := by
  simp only [Blk] at h
  simp [World.cell?, h]
theorem Blk.free {w : World} {b : Nat} {t : TypeId} {cs : List Value} (h : Blk w b t cs) (j : Nat) : w.frozen? ⟨b, j, none⟩ = false := by
  simp only [Blk] at h
  simp [World.frozen?, h]
theorem Blk.set {w : World} {b : Nat} {t : TypeId} {cs : List Value} (h : Blk w b t cs) (j : Nat) (u : Value) : Blk (w.setCell ⟨b, j, none⟩ u) b t (cs.set j u) := by
  simp only [Blk] at *
  simp [World.setCell, Array.getElem?_modify, h]
theorem Blk.new (w : World) (t : TypeId) (cs : List Value) : Blk (w.alloc (.cells cs.toArray t)) w.heap.size t cs := heap_alloc_new w _
/-- Another block has been written: one of another element type. -/
theorem Blk.grown {w w' : World} {b : Nat} {t : TypeId} {cs : List Value} (h : Blk w b t cs) {r : Option Nat} (hg : w.grownBy w' r) (hne : r ≠ some b) : Blk w' b t cs := by
  simp only [Blk] at *
  rw [hg.block b (lt_of_block h) (fun e => hne e.symm)]; exact h
theorem Blk.ne {w : World} {b b' : Nat} {t t' : TypeId} {cs cs' : List Value} (h : Blk w b t cs) (h' : Blk w b' t' cs') (hne : t ≠ t') : b ≠ b' := by
  rintro rfl
  simp only [Blk] at *
  rw [h] at h'
  simp at h'
  exact hne h'.2

/-- A slice whose elements, of one cell each, are vs; they lie in a block of element type e. -/
def Row (w : World) (e : TypeId) (v : Value) (vs : List Value) : Prop :=
  (vs = [] ∧ ∃ p c, v = .slice p 0 c ∧ (p = none → c = 0)) ∨
  ∃ b o c cur fr, v = .slice (some ⟨b, o, none⟩) vs.length c ∧ w.heap[b]? = some (.cells cur e fr) ∧ ∀ i x, vs[i]? = some x → cur[o + i]? = some x

theorem Row.ext {w w' : World} {e : TypeId} {v : Value} {vs : List Value} (h : Row w e v vs) (x : Ext w w') : Row w' e v vs := by
  rcases h with h | ⟨b, o, c, cur, fr, hv, hb, hx⟩
  · exact .inl h
  · exact .inr ⟨b, o, c, cur, fr, hv, x.heap hb, hx⟩
theorem Row.grown {w w' : World} {e : TypeId} {v : Value} {vs : List Value} (h : Row w e v vs) {g : Nat} {t : TypeId} {cs : List Value} (hg : w.grownBy w' (some g)) (hb' : Blk w g t cs) (hne : t ≠ e) : Row w' e v vs := by
  rcases h with h | ⟨b, o, c, cur, fr, hv, hb, hx⟩
  · exact .inl h
  · refine .inr ⟨b, o, c, cur, fr, hv, ?_, hx⟩
    rw [hg.block b (lt_of_block hb) (fun h => ?_)]
    · exact hb
    · injection h with h
      subst h
      simp only [Blk] at hb'
      rw [hb] at hb'
      simp at hb'
      exact hne hb'.2.1.symm
theorem Row.below {w w' : World} {e : TypeId} {v : Value} {vs : List Value} (h : Row w e v vs) (x : Below w.heap.size w w') : Row w' e v vs := h.ext x
theorem Row.shape {w : World} {e : TypeId} {v : Value} {vs : List Value} (h : Row w e v vs) : ∃ p c, v = .slice p vs.length c := by
  rcases h with ⟨rfl, p, c, rfl, _⟩ | ⟨b, o, c, cur, fr, hv, _⟩
  · exact ⟨p, c, rfl⟩
  · exact ⟨_, c, hv⟩
theorem Row.nil (w : World) (e : TypeId) : Row w e (.slice none 0 0) [] := .inl ⟨rfl, none, 0, rfl, fun _ => rfl⟩

theorem addr_add (b o i : Nat) : (⟨b, o, none⟩ : Addr).add i = ⟨b, o + i, none⟩ := by
  simp only [Addr.add]
  split
  · subst_vars; rfl
  · rfl

/-- A slice of the call's own, from block B on. -/
def Own (w : World) (B : Nat) (e : TypeId) (v : Value) (vs : List Value) : Prop := w.ownsRow B e 1 v vs.length vs

theorem Own.nil (w : World) (B : Nat) (e : TypeId) : Own w B e (.slice none 0 0) [] := World.ownsRow_nil w B e 1
theorem Own.cases {w : World} {B : Nat} {e : TypeId} {v : Value} {vs : List Value} (h : Own w B e v vs) :
    (v = .slice none 0 0 ∧ vs = []) ∨ ∃ g cap cs, v = .slice (some ⟨g, 0, none⟩) vs.length cap ∧ B ≤ g ∧ Blk w g e cs ∧ vs.length ≤ cap ∧ cap ≤ maxLen ∧ cs.length = cap ∧ cs.take vs.length = vs := by
  rcases h.2 with ⟨h1, h2⟩ | ⟨g, cap, cur, hv, hg, hb, h3, h4, h5, h6⟩
  · exact .inl ⟨h1, List.eq_nil_of_length_eq_zero h2⟩
  · exact .inr ⟨g, cap, cur.toList, hv, hg, by simpa [Blk] using hb, h3, h4, by simpa using h5, by simpa using h6⟩
theorem Own.mk {w : World} {B : Nat} {e : TypeId} {vs : List Value} {g cap : Nat} {cs : List Value} (hg : B ≤ g) (hb : Blk w g e cs) (h3 : vs.length ≤ cap) (h4 : cap ≤ maxLen) (h5 : cs.length = cap) (h6 : cs.take vs.length = vs) :
    Own w B e (.slice (some ⟨g, 0, none⟩) vs.length cap) vs :=
  ⟨by simp, .inr ⟨g, cap, cs.toArray, rfl, hg, by simpa [Blk] using hb, h3, h4, by simpa using h5, by simpa using h6⟩⟩
theorem Own.row {w : World} {B : Nat} {e : TypeId} {v : Value} {vs : List Value} (h : Own w B e v vs) : Row w e v vs := by
  rcases h.cases with ⟨rfl, rfl⟩ | ⟨g, cap, cs, rfl, _, hb, _, _, _, h6⟩
  · exact Row.nil _ _
  · refine .inr ⟨g, 0, cap, cs.toArray, (0, 0), rfl, hb, fun i x hx => ?_⟩
    rw [← h6, List.getElem?_take] at hx
    split at hx
    · simpa using hx
    · cases hx
theorem Own.ext {w w' : World} {B : Nat} {e : TypeId} {v : Value} {vs : List Value} (h : Own w B e v vs) (x : Ext w w') : Own w' B e v vs := by
  rcases h.cases with ⟨rfl, rfl⟩ | ⟨g, cap, cs, rfl, hg, hb, h3, h4, h5, h6⟩
  · exact Own.nil _ _ _
  · exact Own.mk hg (hb.ext x) h3 h4 h5 h6
theorem Own.grown {w w' : World} {B : Nat} {e : TypeId} {v : Value} {vs : List Value} (h : Own w B e v vs) {r : Option Nat} (hg : w.grownBy w' r) (hne : ∀ k, v.ownBlock = some k → r ≠ some k) : Own w' B e v vs := by
  rcases h.cases with ⟨rfl, rfl⟩ | ⟨g, cap, cs, rfl, hg', hb, h3, h4, h5, h6⟩
  · exact Own.nil _ _ _
  · exact Own.mk hg' (hb.grown hg (hne g rfl)) h3 h4 h5 h6
theorem Own.lt {w : World} {B : Nat} {e : TypeId} {v : Value} {vs : List Value} (h : Own w B e v vs) : ∀ k, v.ownBlock = some k → B ≤ k ∧ k < w.heap.size := by
  rcases h.cases with ⟨rfl, rfl⟩ | ⟨g, cap, cs, rfl, hg', hb, h3, h4, h5, h6⟩
  · intro k hk; cases hk
  · intro k hk
    simp [Value.ownBlock] at hk
    subst hk
    exact ⟨hg', hb.lt⟩
theorem Own.mono {w : World} {B B' : Nat} {e : TypeId} {v : Value} {vs : List Value} (h : Own w B e v vs) (hB : B' ≤ B) : Own w B' e v vs := by
  rcases h.cases with ⟨rfl, rfl⟩ | ⟨g, cap, cs, rfl, hg', hb, h3, h4, h5, h6⟩
  · exact Own.nil _ _ _
  · exact Own.mk (Nat.le_trans hB hg') hb h3 h4 h5 h6
/-- Another row, of another element type, is as it was where an owned one has been written. -/
theorem Row.owned {w w' : World} {B : Nat} {e t : TypeId} {v u : Value} {vs us : List Value} (h : Row w e v vs) (ho : Own w B t u us) (hg : w.grownBy w' u.ownBlock) (hne : t ≠ e) : Row w' e v vs := by
  rcases ho.cases with ⟨rfl, rfl⟩ | ⟨g, cap, cs, rfl, hg', hb, _⟩
  · exact h.ext (Ext.of_grown hg)
  · exact h.grown (g := g) hg hb hne
theorem Blk.owned {w w' : World} {B b : Nat} {e t : TypeId} {u : Value} {cs us : List Value} (h : Blk w b e cs) (ho : Own w B t u us) (hg : w.grownBy w' u.ownBlock) (hne : t ≠ e) : Blk w' b e cs := by
  rcases ho.cases with ⟨rfl, rfl⟩ | ⟨g, cap, cs', rfl, hg', hb, _⟩
  · exact h.ext (Ext.of_grown hg)
  · exact h.grown hg (fun e' => hb.ne h hne (by simpa [Value.ownBlock] using e'))
theorem Ext.owned {a w w' : World} {B : Nat} {t : TypeId} {u : Value} {us : List Value} (h : Ext a w) (ho : Own w B t u us) (hg : w.grownBy w' u.ownBlock) (hB : a.heap.size ≤ B) : Ext a w' :=
  h.grown hg fun k hk => Nat.le_trans hB (ho.lt k hk).1

/-! ### What is asked of types -/
/-- A type of one cell. -/
structure One (P : Program) (t : TypeId) : Prop where
  agg : ∀ w, (isAgg t).run P w = .ok false w
  size : ∀ w, (sizeOf t).run P w = .ok 1 w
/-- A struct type of n cells. -/
structure Agg (P : Program) (t : TypeId) (n : Nat) : Prop where
  agg : ∀ w, (isAgg t).run P w = .ok true w
  size : ∀ w, (sizeOf t).run P w = .ok n w
/-- Field f of struct type s lies j cells on. -/
def Fld (P : Program) (s : TypeId) (f j : Nat) : Prop := ∀ b o w, (Instr.fieldAt s (.pointer (some ⟨b, o, none⟩)) f).run P w = .ok (.pointer (some ⟨b, o + j, none⟩)) w
/-- A slice type whose elements have one cell. -/
structure SlT (P : Program) (t e : TypeId) (z : Value) : Prop where
  und : P.underlying t = some (.slice e)
  info : ∃ i, P.info? e = some i ∧ i.zero = some z ∧ i.size = 1 ∧ i.bytes ≤ 64
  one : z.oneCell' = true

theorem SlT.elem {P : Program} {t e : TypeId} {z : Value} (h : SlT P t e z) : P.elem t = e := by simp [Program.elem, h.und]
theorem SlT.sizeOf {P : Program} {t e : TypeId} {z : Value} (h : SlT P t e z) (w : World) : (sizeOf e).run P w = .ok 1 w := by
  obtain ⟨i, hi, _, hs, _⟩ := h.info
  simp [Go.sizeOf, typeInfo, hi, hs]

section ops
variable {P : Program} {N : Nat} {ops : Array Oper} {Q : Exit → Act → World → Prop} {rest : List Oper} {l : Slots} {w : World}

theorem St.fresh {a : Act} {d : Nat} {v : Value} (h : St N l a) (hd : look l d = none) : St N l (a.put (some d) v) := by
  refine ⟨by simp [Act.put, h.size], h.defers, fun t u hu => ?_⟩
  have hne : d ≠ t := by rintro rfl; rw [hd] at hu; cases hu
  rw [← h.slot t u hu]
  simp [Act.put, Array.getD_eq_getD_getElem?, hne]

/-- An operation whose value is not told. -/
theorem Sq.mute {o : Oper} {d : Nat} {v : Value} {w' : World} (hg : On ops l o.guard) (hd : o.dst = some d) (hl : look l d = none)
    (hrun : ∀ a, St N l a → (execOp a.eval o).run P w = .ok (.value v) w') (h : ∀ a, St N l a → a.tmps.getD d undef = v ∨ ¬ d < N → wpList P ops Q rest a w') : Sq P N ops Q (o :: rest) l w := by
  intro a ha
  refine wpList_step fun K hK => ?_
  rw [if_pos (hg.wanted ha)]
  unfold Oper.wp
  rw [hrun a ha, Oper.upon_value, hd]
  refine hK _ _ (h _ (ha.fresh hl) ?_)
  by_cases hd' : d < N
  · left
    have : d < a.tmps.size := by rw [ha.size]; exact hd'
    simp [Act.put, this]
  · exact .inr hd'

section
variable {d : Nat} {ty : TypeId} {pos : String} {after : Array Edge} {g : Option (Nat × Bool)}

/-- A parameter that is a struct is laid into a block. -/
theorem Sq.box {t : TypeId} {x : Operand} {cs : List Value} (hg : On ops l g) (hN : Nat.blt d N = true) (hx : ev l x = some (.agg cs.toArray))
    (h : ∀ b w', Ext w w' → Blk w' b t cs → w.heap.size ≤ b → Sq P N ops Q rest ((d, .pointer (some ⟨b, 0, none⟩)) :: l) w') :
    Sq P N ops Q (⟨some d, .box t x, ty, pos, after, g⟩ :: rest) l w :=
  .val (w' := w.alloc (.cells cs.toArray t)) hg rfl hN (fun a ha => by simp [execOp, Instr.box, newVar, newRow, ha.ev hx, Value.cells])
    (h _ _ (Ext.alloc _ _) (Blk.new _ _ _) (Nat.le_refl _))
/-- The same at a value of one cell. -/
theorem Sq.box1 {t : TypeId} {x : Operand} {v : Value} (hg : On ops l g) (hN : Nat.blt d N = true) (hx : ev l x = some v) (h1 : v.oneCell' = true)
    (h : ∀ b w', Ext w w' → Blk w' b t [v] → w.heap.size ≤ b → Sq P N ops Q rest ((d, .pointer (some ⟨b, 0, none⟩)) :: l) w') :
    Sq P N ops Q (⟨some d, .box t x, ty, pos, after, g⟩ :: rest) l w :=
  .val (w' := w.alloc (.cells [v].toArray t)) hg rfl hN (fun a ha => by
    have : v.cells = #[v] := by cases v <;> simp_all [Value.cells, Value.oneCell']
    simp [execOp, Instr.box, newVar, newRow, ha.ev hx, this])
    (h _ _ (Ext.alloc _ _) (Blk.new _ _ _) (Nat.le_refl _))

theorem Still.fieldAddr {s f j b o : Nat} {x : Operand} (hf : Fld P s f j) (hx : ev l x = some (.pointer (some ⟨b, o, none⟩))) : Still P N l ⟨some d, .fieldAddr s x f, ty, pos, after, g⟩ (.pointer (some ⟨b, o + j, none⟩)) w := fun a ha => by simp [execOp, ha.ev hx, hf b o w]
theorem Sq.fieldAddr {s f j b o : Nat} {x : Operand} (hf : Fld P s f j) (hg : On ops l g) (hN : Nat.blt d N = true) (hx : ev l x = some (.pointer (some ⟨b, o, none⟩))) (h : Sq P N ops Q rest ((d, .pointer (some ⟨b, o + j, none⟩)) :: l) w) : Sq P N ops Q (⟨some d, .fieldAddr s x f, ty, pos, after, g⟩ :: rest) l w := .val hg rfl hN (Still.fieldAddr hf hx) h

theorem run_load1 {t : TypeId} (h1 : One P t) {b o : Nat} {v : Value} (hc : w.cell? ⟨b, o, none⟩ = some v) : (Instr.loadAt t (.pointer (some ⟨b, o, none⟩))).run P w = .ok v w := by
  simp [Instr.loadAt, Instr.sureAddr, loadVar, h1.agg, hc]

theorem Still.load {t : TypeId} {b o : Nat} {x : Operand} {v : Value} (h1 : One P t) (hx : ev l x = some (.pointer (some ⟨b, o, none⟩))) (hc : w.cell? ⟨b, o, none⟩ = some v) : Still P N l ⟨some d, .load t x, ty, pos, after, g⟩ (v) w := fun a ha => by simp [execOp, ha.ev hx, run_load1 h1 hc]
theorem Sq.load {t : TypeId} {b o : Nat} {x : Operand} {v : Value} (h1 : One P t) (hg : On ops l g) (hN : Nat.blt d N = true) (hx : ev l x = some (.pointer (some ⟨b, o, none⟩))) (hc : w.cell? ⟨b, o, none⟩ = some v) (h : Sq P N ops Q rest ((d, v) :: l) w) : Sq P N ops Q (⟨some d, .load t x, ty, pos, after, g⟩ :: rest) l w := .val hg rfl hN (Still.load h1 hx hc) h
/-- Out of a block that is known. -/
theorem Sq.loadB {t u : TypeId} {b o : Nat} {x : Operand} {v : Value} {cs : List Value} (h1 : One P t) (hg : On ops l g) (hN : Nat.blt d N = true) (hx : ev l x = some (.pointer (some ⟨b, o, none⟩)))
    (hb : Blk w b u cs) (hc : cs[o]? = some v) (h : Sq P N ops Q rest ((d, v) :: l) w) : Sq P N ops Q (⟨some d, .load t x, ty, pos, after, g⟩ :: rest) l w :=
  .load h1 hg hN hx (by rw [hb.cell, hc]) h
/-- A whole struct. -/
theorem Still.loadAgg {t u : TypeId} {b n : Nat} {x : Operand} {cs : List Value} (h1 : Agg P t n) (hx : ev l x = some (.pointer (some ⟨b, 0, none⟩))) (hb : Blk w b u cs) (hn : cs.length = n) : Still P N l ⟨some d, .load t x, ty, pos, after, g⟩ (.agg cs.toArray) w := fun a ha => by
    have hl : (loadCells ⟨b, 0, none⟩ n).run P w = .ok cs.toArray w := by
      rw [← hn]
      refine run_loadCells_list _ _ _ fun j v hv => ?_
      rw [addr_add, hb.cell]
      simpa using hv
    simp [execOp, ha.ev hx, Instr.loadAt, Instr.sureAddr, loadVar, h1.agg, h1.size, hl]
theorem Sq.loadAgg {t u : TypeId} {b n : Nat} {x : Operand} {cs : List Value} (h1 : Agg P t n) (hg : On ops l g) (hN : Nat.blt d N = true) (hx : ev l x = some (.pointer (some ⟨b, 0, none⟩))) (hb : Blk w b u cs) (hn : cs.length = n) (h : Sq P N ops Q rest ((d, .agg cs.toArray) :: l) w) : Sq P N ops Q (⟨some d, .load t x, ty, pos, after, g⟩ :: rest) l w := .val hg rfl hN (Still.loadAgg h1 hx hb hn) h

theorem Sq.store {t u : TypeId} {b o : Nat} {x y : Operand} {v : Value} {cs : List Value} (h1 : One P t) (hg : On ops l g) (hx : ev l x = some (.pointer (some ⟨b, o, none⟩))) (hy : ev l y = some v) (hv : v.oneCell' = true)
    (hb : Blk w b u cs) (ho : o < cs.length)
    (h : ∀ w', w.grownBy w' (some b) → Blk w' b u (cs.set o v) → Sq P N ops Q rest l w') : Sq P N ops Q (⟨none, .store t x y, ty, pos, after, g⟩ :: rest) l w :=
  .unit (w' := w.setCell ⟨b, o, none⟩ v) hg rfl (fun a ha => by
    have hc : v.cells = #[v] := by cases v <;> simp_all [Value.cells, Value.oneCell']
    have h2 := hb.cell o
    rw [List.getElem?_eq_getElem ho] at h2
    simp [execOp, ha.ev hx, ha.ev hy, Instr.storeAt, Instr.sureAddr, storeVar, hc, h1.size, storeCells, addr_add, run_store _ _ _ _ _ hv, h2, hb.free])
    (h _ (grown_setCell _ _ _ _) (hb.set _ _))

theorem storeCells_all (b t : Nat) : ∀ (vs : List Value) (i : Nat) (w : World) (cs : List Value), Blk w b t cs → i + vs.length ≤ cs.length → (∀ v ∈ vs, v.oneCell' = true) →
    ∃ w', (storeCells ⟨b, 0, none⟩ vs i).run P w = .ok () w' ∧ w.grownBy w' (some b) ∧ Blk w' b t (cs.take i ++ vs ++ cs.drop (i + vs.length)) := by
  intro vs
  induction vs with
  | nil => intro i w cs hb hi _; exact ⟨w, by simp [storeCells], World.grownBy.refl _ _, by simpa using hb⟩
  | cons v r ih =>
    intro i w cs hb hi h1
    simp only [List.length_cons] at hi
    have hlt : i < cs.length := by omega
    have h2 := hb.cell i
    rw [List.getElem?_eq_getElem hlt] at h2
    obtain ⟨w', hr, hg, hb'⟩ := ih (i + 1) (w.setCell ⟨b, i, none⟩ v) (cs.set i v) (hb.set i v) (by simp; omega) (fun u hu => h1 u (List.mem_cons_of_mem _ hu))
    refine ⟨w', ?_, grown_trans (grown_setCell _ _ _ _) hg, ?_⟩
    · simp [storeCells, addr_add, run_store _ _ _ _ _ (h1 v (List.mem_cons_self ..)), h2, hb.free, hr]
    · have e : (cs.set i v).take (i + 1) ++ r ++ (cs.set i v).drop (i + 1 + r.length) = cs.take i ++ v :: r ++ cs.drop (i + (r.length + 1)) := by
        have h3 : (cs.set i v).take (i + 1) = cs.take i ++ [v] := by
          rw [List.take_succ_eq_append_getElem (by simpa using hlt)]
          simp [List.take_set_of_le (Nat.le_refl i)]
        have h4 : (cs.set i v).drop (i + 1 + r.length) = cs.drop (i + (r.length + 1)) := by
          rw [List.drop_set_of_lt (by omega)]
          congr 1
          omega
        rw [h3, h4]
        simp
      rw [e] at hb'
      exact hb'

/-- A whole struct is laid over a block. -/
theorem Sq.storeAgg {t u : TypeId} {b n : Nat} {x y : Operand} {vs cs : List Value} (h1 : Agg P t n) (hg : On ops l g) (hx : ev l x = some (.pointer (some ⟨b, 0, none⟩))) (hy : ev l y = some (.agg vs.toArray)) (hv : ∀ v ∈ vs, v.oneCell' = true)
    (hb : Blk w b u cs) (hn : vs.length = n) (hm : cs.length = n)
    (h : ∀ w', w.grownBy w' (some b) → Blk w' b u vs → Sq P N ops Q rest l w') : Sq P N ops Q (⟨none, .store t x y, ty, pos, after, g⟩ :: rest) l w := by
  obtain ⟨w', hr, hgr, hb'⟩ := storeCells_all (P := P) b u vs 0 w cs hb (by omega) hv
  refine .unit (w' := w') hg rfl (fun a ha => ?_) (h w' hgr ?_)
  · simp [execOp, ha.ev hx, ha.ev hy, Instr.storeAt, Instr.sureAddr, storeVar, h1.size, Value.cells, hn, hr]
  · have : cs.drop vs.length = [] := List.drop_eq_nil_of_le (by omega)
    simpa [this] using hb'

/-- A new variable of struct type. -/
theorem Sq.alloc {t : TypeId} {zs : List Value} (hz : ∀ w, (zeroValue t).run P w = .ok (.agg zs.toArray) w) (hg : On ops l g) (hN : Nat.blt d N = true)
    (h : ∀ b w', Ext w w' → Blk w' b t zs → w.heap.size ≤ b → Sq P N ops Q rest ((d, .pointer (some ⟨b, 0, none⟩)) :: l) w') :
    Sq P N ops Q (⟨some d, .alloc t, ty, pos, after, g⟩ :: rest) l w :=
  .val (w' := w.alloc (.cells zs.toArray t)) hg rfl hN (fun a ha => by simp [execOp, Instr.alloc, newVar, newRow, hz, Value.cells])
    (h _ _ (Ext.alloc _ _) (Blk.new _ _ _) (Nat.le_refl _))
theorem Sq.alloc1 {t : TypeId} {z : Value} (hz : ∀ w, (zeroValue t).run P w = .ok z w) (h1 : z.oneCell' = true) (hg : On ops l g) (hN : Nat.blt d N = true)
    (h : ∀ b w', Ext w w' → Blk w' b t [z] → w.heap.size ≤ b → Sq P N ops Q rest ((d, .pointer (some ⟨b, 0, none⟩)) :: l) w') :
    Sq P N ops Q (⟨some d, .alloc t, ty, pos, after, g⟩ :: rest) l w :=
  .val (w' := w.alloc (.cells [z].toArray t)) hg rfl hN (fun a ha => by
    have : z.cells = #[z] := by cases z <;> simp_all [Value.cells, Value.oneCell']
    simp [execOp, Instr.alloc, newVar, newRow, hz, this])
    (h _ _ (Ext.alloc _ _) (Blk.new _ _ _) (Nat.le_refl _))

/-! slices and strings -/
theorem Still.len {t : TypeId} {x : Operand} {p : Option Addr} {n c : Nat} (ht : P.underlying t = some (.slice (P.elem t))) (hx : ev l x = some (.slice p n c)) : Still P N l ⟨some d, .call ⟨.builtin .len, #[x], #[t]⟩, ty, pos, after, g⟩ (.int .i64 n) w := fun a ha => by
    rw [BigFrame.execOp_builtin, BigFrame.builtin_len]
    simp only [List.map_toArray, List.map_cons, List.map_nil, ha.ev hx, Sem.run_bind, run_len_slice w t ty p n c ht, Result.andThen, Sem.run_pure]; rfl
theorem Sq.len {t : TypeId} {x : Operand} {p : Option Addr} {n c : Nat} (hg : On ops l g) (hN : Nat.blt d N = true) (ht : P.underlying t = some (.slice (P.elem t))) (hx : ev l x = some (.slice p n c)) (h : Sq P N ops Q rest ((d, .int .i64 n) :: l) w) : Sq P N ops Q (⟨some d, .call ⟨.builtin .len, #[x], #[t]⟩, ty, pos, after, g⟩ :: rest) l w := .val hg rfl hN (Still.len ht hx) h
theorem Sq.lenRow {t e : TypeId} {x : Operand} {v : Value} {vs : List Value} (hr : Row w e v vs) (hg : On ops l g) (hN : Nat.blt d N = true) (ht : P.underlying t = some (.slice (P.elem t))) (hx : ev l x = some v)
    (h : Sq P N ops Q rest ((d, .int .i64 vs.length) :: l) w) : Sq P N ops Q (⟨some d, .call ⟨.builtin .len, #[x], #[t]⟩, ty, pos, after, g⟩ :: rest) l w := by
  obtain ⟨p, c, rfl⟩ := hr.shape
  exact .len hg hN ht hx h
theorem Still.lenStr {t : TypeId} {x : Operand} {s : ByteArray} (ht : P.underlying t = some .string) (hx : ev l x = some (.string s)) : Still P N l ⟨some d, .call ⟨.builtin .len, #[x], #[t]⟩, ty, pos, after, g⟩ (.int .i64 s.size) w := fun a ha => by
    rw [BigFrame.execOp_builtin, BigFrame.builtin_len]
    simp only [List.map_toArray, List.map_cons, List.map_nil, ha.ev hx, Sem.run_bind, run_len_string w t ty s ht, Result.andThen, Sem.run_pure]; rfl
theorem Sq.lenStr {t : TypeId} {x : Operand} {s : ByteArray} (hg : On ops l g) (hN : Nat.blt d N = true) (ht : P.underlying t = some .string) (hx : ev l x = some (.string s)) (h : Sq P N ops Q rest ((d, .int .i64 s.size) :: l) w) : Sq P N ops Q (⟨some d, .call ⟨.builtin .len, #[x], #[t]⟩, ty, pos, after, g⟩ :: rest) l w := .val hg rfl hN (Still.lenStr ht hx) h

/-- An element of a row: its address, and the load. -/
theorem Sq.idx {t e0 e lt : TypeId} {z : Value} {x ix : Operand} {v u : Value} {vs : List Value} {k : IntKind} {i : Int} {d2 : Nat} {ty2 : TypeId} {pos2 : String} {after2 : Array Edge} {g2 : Option (Nat × Bool)}
    (hs : SlT P t e0 z) (h1 : One P lt) (hr : Row w e v vs) (hg : On ops l g) (hN : Nat.blt d N = true) (hN2 : Nat.blt d2 N = true) (hd : look l d = none) (hg2 : On ops l g2) (hx : ev l x = some v) (hix : ev l ix = some (.int k i)) (hi : 0 ≤ i)
    (hu : vs[i.toNat]? = some u) (h : Sq P N ops Q rest ((d2, u) :: l) w) :
    Sq P N ops Q (⟨some d, .indexAddr t x ix, ty, pos, after, g⟩ :: ⟨some d2, .load lt (.tmp d), ty2, pos2, after2, g2⟩ :: rest) l w := by
  have hlt : i.toNat < vs.length := by
    rcases Nat.lt_or_ge i.toNat vs.length with h | h
    · exact h
    · rw [List.getElem?_eq_none h] at hu; cases hu
  rcases hr with ⟨rfl, _⟩ | ⟨b, o, c, cur, fr, rfl, hb, hc⟩
  · cases hu
  · have hcell : w.cell? ⟨b, o + i.toNat, none⟩ = some u := by simp [World.cell?, hb, hc _ _ hu]
    have hd' : d < N := Nat.lt_of_lt_of_le (Nat.lt_succ_self d) (Nat.le_of_ble_eq_true hN)
    refine .mute (w' := w) (v := .pointer (some ⟨b, o + i.toNat, none⟩)) hg rfl hd (fun a ha => ?_) fun a ha hva => ?_
    · have := run_indexAt_slice (P := P) (w := w) t ⟨b, o, none⟩ vs.length c k i (by rw [hs.elem]; exact hs.und)
      have hi' : 0 ≤ i ∧ i < (vs.length : Int) := ⟨hi, by omega⟩
      rw [hs.elem, hs.sizeOf] at this
      simp [execOp, ha.ev hx, ha.ev hix, this, hi', addr_add]
    · have hva' := hva.resolve_right (by omega)
      have hst : St N l a := ha
      refine wpList_step fun K hK => ?_
      rw [if_pos (hg2.wanted hst)]
      unfold Oper.wp
      have hev : a.eval (.tmp d) = .pointer (some ⟨b, o + i.toNat, none⟩) := hva'
      have : (execOp a.eval ⟨some d2, .load lt (.tmp d), ty2, pos2, after2, g2⟩).run P w = .ok (.value u) w := by
        simp [execOp, hev, run_load1 h1 hcell]
      rw [this, Oper.upon_value]
      exact hK _ _ (h _ (hst.put hN2))

theorem Still.idxStr {t : TypeId} {x ix : Operand} {s : ByteArray} {k : IntKind} {i : Int} {u : UInt8} (ht : P.underlying t = some .string) (hx : ev l x = some (.string s)) (hix : ev l ix = some (.int k i)) (hi : 0 ≤ i) (hu : s.data.toList[i.toNat]? = some u) : Still P N l ⟨some d, .index t x ix, ty, pos, after, g⟩ (.int .u8 u.toNat) w := fun a ha => by
    have hs : s[i.toNat]? = some u := by
      rw [Array.getElem?_toList] at hu
      have hlt : i.toNat < s.data.size := by
        rcases Nat.lt_or_ge i.toNat s.data.size with h | h
        · exact h
        · rw [Array.getElem?_eq_none h] at hu; cases hu
      rw [Array.getElem?_eq_getElem hlt] at hu
      rw [ByteArray.getElem?_lt' s _ hlt]
      exact hu
    simp only [execOp, ha.ev hx, ha.ev hix, Instr.index, asIntOf]
    simp [run_underlying ht, hi, hs]
theorem Sq.idxStr {t : TypeId} {x ix : Operand} {s : ByteArray} {k : IntKind} {i : Int} {u : UInt8} (hg : On ops l g) (hN : Nat.blt d N = true) (ht : P.underlying t = some .string) (hx : ev l x = some (.string s)) (hix : ev l ix = some (.int k i)) (hi : 0 ≤ i) (hu : s.data.toList[i.toNat]? = some u) (h : Sq P N ops Q rest ((d, .int .u8 u.toNat) :: l) w) : Sq P N ops Q (⟨some d, .index t x ix, ty, pos, after, g⟩ :: rest) l w := .val hg rfl hN (Still.idxStr ht hx hix hi hu) h
end
end ops
end Go.Proofs.Ytdkdpmmfebdeaaa
