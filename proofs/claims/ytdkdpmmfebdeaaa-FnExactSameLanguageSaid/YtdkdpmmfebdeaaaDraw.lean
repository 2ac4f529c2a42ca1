/-
  Regions whose order of evaluation is drawn: what yields its value in every later world may be taken first; what ends the statement comes last. Nothing of any one program stands here.
-/
import Derived.Test.YtdkdpmmfebdeaaaOps
import Derived.OrdersHeld
import Derived.Laws.AppendOwnNone
set_option linter.unusedSimpArgs false
set_option linter.unusedVariables false
namespace Go.Proofs.Ytdkdpmmfebdeaaa
open Go.RowKit

section
variable {P : Program} {ops : Array Oper} {Q : Exit → Act → World → Prop}

/-- Whatever order is picked from here on; behind each operation of the first k, S holds. -/
def wpAnyG (P : Program) (ops : Array Oper) (Q : Exit → Act → World → Prop) (S : World → Prop) (k : Nat) : Nat → Array Bool → Act → World → Prop
  | 0, listed, a, w => Region.ready .any ops listed = [] ∧ Q .normal a w
  | fuel + 1, listed, a, w =>
    (Region.ready .any ops listed = [] → Q .normal a w) ∧
    ∀ i ∈ Region.ready .any ops listed, wpOp P ops Q i (fun a' w' => (i < k → S w') ∧ wpAnyG P ops Q S k fuel (listed.setIfInBounds i true) a' w') a w

theorem wpAny_of_G {S : World → Prop} {k : Nat} : ∀ (fuel : Nat) (listed : Array Bool) (a : Act) (w : World), wpAnyG P ops Q S k fuel listed a w → wpAny P .any ops Q fuel listed a w
  | 0, _, _, _, h => h
  | fuel + 1, _, _, _, h => ⟨h.1, fun i hi => wpOp_mono (fun a' w' h' => wpAny_of_G fuel _ a' w' h'.2) (h.2 i hi)⟩

/-- Each of the later ones waits for number i. -/
def lateB (ops : Array Oper) (k i : Nat) : Bool := (List.range ops.size).all fun j => Nat.blt j k || match ops[j]? with
  | some o => o.after.any fun e => Region.binds .any e && e.on == i
  | none => true

theorem late_waits {k i j : Nat} {o : Oper} {listed : Array Bool} (h : lateB ops k i = true) (ho : ops[j]? = some o) (hj : j ∈ Region.ready .any ops listed) (hi : listed.getD i false = false) : j < k := by
  have hlt : j < ops.size := (Array.getElem?_eq_some_iff.1 ho).1
  simp only [lateB, List.all_eq_true, List.mem_range] at h
  have h1 := h j hlt
  simp only [ho, Bool.or_eq_true] at h1
  rcases h1 with h1 | h1
  · exact Nat.lt_of_lt_of_le (Nat.lt_succ_self j) (Nat.le_of_ble_eq_true h1)
  · obtain ⟨e, he, hb⟩ := Array.any_eq_true'.1 h1
    simp only [Bool.and_eq_true, beq_iff_eq] at hb
    obtain ⟨_, o', ho', hall⟩ := mem_ready.1 hj
    rw [ho] at ho'
    obtain rfl := Option.some.inj ho'
    have := hall e he hb.1
    rw [hb.2, hi] at this
    cases this

theorem ready_not_listed {i : Nat} {listed : Array Bool} (h : i ∈ Region.ready .any ops listed) : listed.getD i false = false := by
  have h0 := (mem_ready.1 h).1
  rcases Nat.lt_or_ge i listed.size with h' | h'
  · simp [h'] at h0 ⊢; exact h0
  · simp [Array.getElem?_eq_none h'] at h0

theorem wpAnyG_first {S : World → Prop} {k i : Nat} {oi : Oper} {v : Value} (hi : ops[i]? = some oi) (hik : i < k) (hl : lateB ops k i = true) (hsel : ∀ (j : Nat) (o : Oper) cs b, ops[j]? = some o → o.op ≠ .select cs b)
    (hQ : ∀ c a w, Q (.panic c) (a.put oi.dst v) w → Q (.panic c) a w) :
    ∀ (fuel : Nat) (listed : Array Bool) (a : Act) (w : World),
      (∀ j oj, ops[j]? = some oj → j ≠ i → listed.getD j true = false → (∀ e ∈ oj.after, Region.binds .any e = true → e.on ≠ i) → oi.apart ops oj = true) →
      i ∈ Region.ready .any ops listed → YieldsIf P ops S oi v a → S w →
      wpAnyG P ops Q S k fuel (listed.setIfInBounds i true) (a.put oi.dst v) w → wpAnyG P ops Q S k (fuel + 1) listed a w := by
  intro fuel
  induction fuel with
  | zero =>
    intro listed a w _ hr hy hS H
    refine ⟨fun h => (by rw [h] at hr; cases hr), fun j hj => ?_⟩
    by_cases hji : j = i
    · subst hji; exact hy.wpOp hi hS ⟨fun _ => hS, H⟩
    · have := ready_mono hj hji
      rw [H.1] at this
      cases this
  | succ fuel ih =>
    intro listed a w hfree hr hy hS H
    refine ⟨fun h => (by rw [h] at hr; cases hr), fun j hj => ?_⟩
    by_cases hji : j = i
    · subst hji; exact hy.wpOp hi hS ⟨fun _ => hS, H⟩
    · have h1 := H.2 j (ready_mono hj hji)
      obtain ⟨hjun, oj, hoj, hall⟩ := mem_ready.1 hj
      have hun0 := ready_not_listed hr
      have hjk : j < k := late_waits hl hoj hj hun0
      have hnot : ∀ e ∈ oj.after, Region.binds .any e = true → e.on ≠ i := fun e he hb heq => by
        have h2 := hall e he hb
        rw [heq, hun0] at h2
        cases h2
      have h2 := wpOp_putIf hoj (hfree j oj hoj hji hjun hnot) (fun cs b => hsel i oi cs b hi) (fun cs b => hsel j oj cs b hoj) hQ hy h1
      have hfree' : ∀ m om, ops[m]? = some om → m ≠ i → (listed.setIfInBounds j true).getD m true = false →
          (∀ e ∈ om.after, Region.binds .any e = true → e.on ≠ i) → oi.apart ops om = true := fun m om hm hmi hun hno => by
        refine hfree m om hm hmi ?_ hno
        by_cases hjm : j = m
        · subst hjm; exact hjun
        · rw [getD_set_ne true hjm] at hun; exact hun
      refine wpOp_mono (fun a' w' h3 => ⟨h3.2.1, ih (listed.setIfInBounds j true) a' w' hfree' (ready_mono hr (Ne.symm hji)) h3.1 (h3.2.1 hjk) ?_⟩) h2
      rw [Array.setIfInBounds_comm _ _ hji]
      exact h3.2.2
end

section
variable {P : Program} {N : Nat} {ops : Array Oper} {Q : Exit → Act → World → Prop} {S : World → Prop} {k fuel : Nat} {listed : Array Bool} {l : Slots} {w : World}

/-- The rest of a region whose order is drawn. S: what holds behind each of its first k operations. -/
def Gq (P : Program) (N : Nat) (ops : Array Oper) (Q : Exit → Act → World → Prop) (S : World → Prop) (k fuel : Nat) (listed : Array Bool) (l : Slots) (w : World) : Prop :=
  ∀ a, St N l a → wpAnyG P ops Q S k fuel listed a w

theorem Cq.draw {id : Nat} (k : Nat) (r : Option Nat) (hm : P.follows .mixedOrders = true) (h : ∀ w1, Ext w w1 → Gq P N ops Q (fun w' => w1.grownBy w' r) k ops.size (Array.replicate ops.size false) l w1) : Cq P N (.region id ops true) Q l w :=
  fun a ha => wp_region_any hm (wpAny_of_G _ _ _ _ (h _ ((Below.refl _ _).drew) a ha))

/-- The same with what the writer chooses as that which holds behind each of the first k operations. -/
theorem Cq.drawS {id : Nat} (k : Nat) (S : World → Prop) (hm : P.follows .mixedOrders = true) (hS : S w) (h : ∀ w1, Ext w w1 → S w → Gq P N ops Q S k ops.size (Array.replicate ops.size false) l w1) : Cq P N (.region id ops true) Q l w :=
  fun a ha => wp_region_any hm (wpAny_of_G _ _ _ _ (h _ ((Below.refl _ _).drew) hS a ha))

/-- May number i be taken first? -/
def firstB (ops : Array Oper) (k : Nat) (listed : Array Bool) (i : Nat) : Bool :=
  Nat.blt i k && (lateB ops k i && (Region.noSelect ops && (Region.free .any ops listed i && (Region.ready .any ops listed).contains i)))

theorem Gq.st {o : Oper} {d : Nat} {v : Value} (i : Nat) (hi : ops[i]? = some o) (hf : firstB ops k listed i = true) (hd : o.dst = some d) (hg : On ops l o.guard) (hN : Nat.blt d N = true)
    (hQ : ∀ c a w, Q (.panic c) (a.put (some d) v) w → Q (.panic c) a w) (x : S w) (hy : ∀ w', S w' → Still P N l o v w') (h : Gq P N ops Q S k fuel (listed.setIfInBounds i true) ((d, v) :: l) w) :
    Gq P N ops Q S k (fuel + 1) listed l w := by
  intro a ha
  simp only [firstB, Bool.and_eq_true] at hf
  obtain ⟨h1, h2, h3, h4, h5⟩ := hf
  rw [← hd] at hQ
  refine wpAnyG_first hi (Nat.lt_of_lt_of_le (Nat.lt_succ_self i) (Nat.le_of_ble_eq_true h1)) h2 (Region.noSelect_spec h3) hQ fuel listed a w (Region.free_spec hi h4) (by simpa using h5)
    (.inl ⟨hg.wanted ha, fun w' hw' => hy w' hw' a ha⟩) x ?_
  rw [hd]
  exact h _ (ha.put hN)

/-- Its guard says no. -/
theorem Gq.off {o o' : Oper} {j d d' : Nat} {b : Bool} (i : Nat) (hi : ops[i]? = some o) (hf : firstB ops k listed i = true) (hg : o.guard = some (j, b)) (ho : ops[j]? = some o') (hd : o'.dst = some d) (hv : look l d = some (.bool (!b)))
    (hd' : o.dst = some d') (hN : Nat.blt d' N = true) (hQ : ∀ c a w, Q (.panic c) (a.put (some d') undef) w → Q (.panic c) a w) (x : S w) (h : Gq P N ops Q S k fuel (listed.setIfInBounds i true) ((d', undef) :: l) w) :
    Gq P N ops Q S k (fuel + 1) listed l w := by
  intro a ha
  simp only [firstB, Bool.and_eq_true] at hf
  obtain ⟨h1, h2, h3, h4, h5⟩ := hf
  rw [← hd'] at hQ
  refine wpAnyG_first hi (Nat.lt_of_lt_of_le (Nat.lt_succ_self i) (Nat.le_of_ble_eq_true h1)) h2 (Region.noSelect_spec h3) hQ fuel listed a w (Region.free_spec hi h4) (by simpa using h5)
    (.inr ⟨by simp [Region.wanted, hg, yielded, ho, hd, ha.bool hv], rfl⟩) x ?_
  rw [hd']
  exact h _ (ha.put hN)

theorem Gq.offU {o o' : Oper} {j d d' : Nat} {b : Bool} (i : Nat) (hi : ops[i]? = some o) (hf : firstB ops k listed i = true) (hg : o.guard = some (j, b)) (ho : ops[j]? = some o') (hd : o'.dst = some d) (hv : look l d = some undef)
    (hd' : o.dst = some d') (hN : Nat.blt d' N = true) (hQ : ∀ c a w, Q (.panic c) (a.put (some d') undef) w → Q (.panic c) a w) (x : S w) (h : Gq P N ops Q S k fuel (listed.setIfInBounds i true) ((d', undef) :: l) w) :
    Gq P N ops Q S k (fuel + 1) listed l w := by
  intro a ha
  simp only [firstB, Bool.and_eq_true] at hf
  obtain ⟨h1, h2, h3, h4, h5⟩ := hf
  rw [← hd'] at hQ
  refine wpAnyG_first hi (Nat.lt_of_lt_of_le (Nat.lt_succ_self i) (Nat.le_of_ble_eq_true h1)) h2 (Region.noSelect_spec h3) hQ fuel listed a w (Region.free_spec hi h4) (by simpa using h5)
    (.inr ⟨by simp [not_wanted ha hg ho hd hv], rfl⟩) x ?_
  rw [hd']
  exact h _ (ha.put hN)

theorem Gq.isT {p : Prop} [Decidable p] {d : Nat} (hp : p) (h : Gq P N ops Q S k fuel listed ((d, .bool true) :: l) w) : Gq P N ops Q S k fuel listed ((d, .bool (decide p)) :: l) w := by rw [decide_eq_true hp]; exact h
theorem Gq.isF {p : Prop} [Decidable p] {d : Nat} (hp : ¬ p) (h : Gq P N ops Q S k fuel listed ((d, .bool false) :: l) w) : Gq P N ops Q S k fuel listed ((d, .bool (decide p)) :: l) w := by rw [decide_eq_false hp]; exact h
theorem Gq.part {p : Prop} [Decidable p] {d : Nat} (ht : p → Gq P N ops Q S k fuel listed ((d, .bool true) :: l) w) (hf : ¬ p → Gq P N ops Q S k fuel listed ((d, .bool false) :: l) w) : Gq P N ops Q S k fuel listed ((d, .bool (decide p)) :: l) w := by
  by_cases hp : p
  · rw [decide_eq_true hp]; exact ht hp
  · rw [decide_eq_false hp]; exact hf hp
theorem Gq.partB {b : Bool} {d : Nat} (ht : b = true → Gq P N ops Q S k fuel listed ((d, .bool true) :: l) w) (hf : b = false → Gq P N ops Q S k fuel listed ((d, .bool false) :: l) w) : Gq P N ops Q S k fuel listed ((d, .bool b) :: l) w := by
  cases b
  · exact hf rfl
  · exact ht rfl

/-- What is asked behind an operation that is carried out. -/
def AfterG (P : Program) (ops : Array Oper) (Q : Exit → Act → World → Prop) (S : World → Prop) (k fuel i : Nat) (listed : Array Bool) : Exit → Act → World → Prop
  | .normal, a, w => (i < k → S w) ∧ wpAnyG P ops Q S k fuel (listed.setIfInBounds i true) a w
  | e, a, w => Q e a w

theorem wpOp_of_list {K : Act → World → Prop} {Q' : Exit → Act → World → Prop} {i : Nat} {o : Oper} {a : Act} {w : World} (hi : ops[i]? = some o) (hn : ∀ a w, Q' .normal a w = K a w) (hp : ∀ c a w, Q' (.panic c) a w = Q (.panic c) a w) (ho : ∀ a w, Q' .outgrown a w = Q .outgrown a w)
    (h : wpList P ops Q' [o] a w) : wpOp P ops Q i K a w := by
  unfold wpOp
  rw [hi]
  simp only [wpList] at h ⊢
  have hlet : LetsOut Q' → LetsOut Q := fun ⟨a, w, hq⟩ => ⟨a, w, by rw [← ho]; exact hq⟩
  split
  · rename_i hw
    rw [if_pos hw] at h
    refine h.imp (fun h => ?_) (fun ⟨x, y⟩ => ⟨x, hlet y⟩)
    unfold Oper.wp at *
    generalize (execOp a.eval o).run P w = r at *
    cases r with
    | ok n w' =>
      cases n <;> simp only [Oper.upon] at h ⊢
      case value u => rw [← hn]; exact h
      case skip => rw [← hn]; exact h
      case defer d => rw [← hn]; exact h
      case enter f args =>
        refine Calls.mono h fun e w'' he => ?_
        cases e with
        | returned u => exact cast (hn _ _) he
        | panicked c => exact cast (hp _ _ _) he
        | outgrown => exact hlet he
      case row row args => exact Rows.mono h fun u w'' he => by rw [← hn]; exact he
    | halt x w' =>
      cases x <;> simp only [Oper.upon] at h ⊢
      case panic u => rw [← hp]; exact h
  · rename_i hw
    rw [if_neg hw] at h
    rw [← hn]; exact h

/-- Only number i may come up. -/
theorem Gq.one {o : Oper} (i : Nat) (hi : ops[i]? = some o) (hr : (Region.ready .any ops listed == [i]) = true) (h : Sq P N ops (AfterG P ops Q S k fuel i listed) [o] l w) : Gq P N ops Q S k (fuel + 1) listed l w := by
  intro a ha
  have hr' : Region.ready .any ops listed = [i] := by simpa using hr
  refine ⟨fun h0 => absurd (hr' ▸ h0) (by simp), fun j hj => ?_⟩
  rw [hr'] at hj
  obtain rfl : j = i := by simpa using hj
  exact wpOp_of_list (Q' := AfterG P ops Q S k fuel _ listed) hi (fun _ _ => rfl) (fun _ _ _ => rfl) (fun _ _ => rfl) (h a ha)
/-- Two may come up. -/
theorem Gq.two {o o' : Oper} (i j : Nat) (hi : ops[i]? = some o) (hj : ops[j]? = some o') (hr : (Region.ready .any ops listed == [i, j]) = true) (h : Sq P N ops (AfterG P ops Q S k fuel i listed) [o] l w) (h' : Sq P N ops (AfterG P ops Q S k fuel j listed) [o'] l w) : Gq P N ops Q S k (fuel + 1) listed l w := by
  intro a ha
  have hr' : Region.ready .any ops listed = [i, j] := by simpa using hr
  refine ⟨fun h0 => absurd (hr' ▸ h0) (by simp), fun m hm => ?_⟩
  rw [hr'] at hm
  rcases List.mem_cons.1 hm with rfl | hm
  · exact wpOp_of_list (Q' := AfterG P ops Q S k fuel _ listed) hi (fun _ _ => rfl) (fun _ _ _ => rfl) (fun _ _ => rfl) (h a ha)
  · obtain rfl : m = j := by simpa using hm
    exact wpOp_of_list (Q' := AfterG P ops Q S k fuel _ listed) hj (fun _ _ => rfl) (fun _ _ _ => rfl) (fun _ _ => rfl) (h' a ha)
/-- Behind it: the region goes on. -/
theorem Eq.goes {i : Nat} (x : i < k → S w) (h : Gq P N ops Q S k fuel (listed.setIfInBounds i true) l w) : Eq N (AfterG P ops Q S k fuel i listed) .normal l w := fun a ha => ⟨x, h a ha⟩
theorem Gq.done (hr : (Region.ready .any ops listed == []) = true) (h : Eq N Q .normal l w) : Gq P N ops Q S k fuel listed l w := by
  intro a ha
  have hr' : Region.ready .any ops listed = [] := by simpa using hr
  cases fuel with
  | zero => exact ⟨hr', h a ha⟩
  | succ n => exact ⟨fun _ => h a ha, by rw [hr']; simp⟩
end

/-! ### The laws of still operations over memory that are wanted there -/
section
variable {P : Program} {N : Nat} {l : Slots} {w : World} {d : Nat} {ty : TypeId} {pos : String} {after : Array Edge} {g : Option (Nat × Bool)}

theorem Still.loadB {t u : TypeId} {b o : Nat} {x : Operand} {v : Value} {cs : List Value} (h1 : One P t) (hx : ev l x = some (.pointer (some ⟨b, o, none⟩))) (hb : Blk w b u cs) (hc : cs[o]? = some v) : Still P N l ⟨some d, .load t x, ty, pos, after, g⟩ v w :=
  Still.load h1 hx (by rw [hb.cell, hc])
theorem Still.loadA {t : TypeId} {p : Addr} {x : Operand} {v : Value} (h1 : One P t) (hx : ev l x = some (.pointer (some p))) (hc : w.cell? p = some v) : Still P N l ⟨some d, .load t x, ty, pos, after, g⟩ v w := fun a ha => by
  simp [execOp, ha.ev hx, Instr.loadAt, Instr.sureAddr, loadVar, h1.agg, hc]
theorem Still.lenRow {t e : TypeId} {x : Operand} {v : Value} {vs : List Value} (hr : Row w e v vs) (ht : P.underlying t = some (.slice (P.elem t))) (hx : ev l x = some v) : Still P N l ⟨some d, .call ⟨.builtin .len, #[x], #[t]⟩, ty, pos, after, g⟩ (.int .i64 vs.length) w := by
  obtain ⟨p, c, rfl⟩ := hr.shape
  exact Still.len ht hx
theorem Still.lenInts {t e : TypeId} {x : Operand} {v : Value} {xs : List Int} (hr : Ints w e v xs) (ht : P.underlying t = some (.slice (P.elem t))) (hx : ev l x = some v) : Still P N l ⟨some d, .call ⟨.builtin .len, #[x], #[t]⟩, ty, pos, after, g⟩ (.int .i64 xs.length) w := by
  have := Still.lenRow (N := N) (d := d) (ty := ty) (pos := pos) (after := after) (g := g) hr ht hx; simpa using this
theorem Still.lenBools {t e : TypeId} {x : Operand} {v : Value} {xs : List Bool} (hr : Bools w e v xs) (ht : P.underlying t = some (.slice (P.elem t))) (hx : ev l x = some v) : Still P N l ⟨some d, .call ⟨.builtin .len, #[x], #[t]⟩, ty, pos, after, g⟩ (.int .i64 xs.length) w := by
  have := Still.lenRow (N := N) (d := d) (ty := ty) (pos := pos) (after := after) (g := g) hr ht hx; simpa using this
theorem Still.lenStrs {t e : TypeId} {x : Operand} {v : Value} {xs : List ByteArray} (hr : Strs w e v xs) (ht : P.underlying t = some (.slice (P.elem t))) (hx : ev l x = some v) : Still P N l ⟨some d, .call ⟨.builtin .len, #[x], #[t]⟩, ty, pos, after, g⟩ (.int .i64 xs.length) w := by
  have := Still.lenRow (N := N) (d := d) (ty := ty) (pos := pos) (after := after) (g := g) hr ht hx; simpa using this
theorem Still.lenBytes {t e : TypeId} {x : Operand} {v : Value} {xs : List UInt8} (hr : Bytes w e v xs) (ht : P.underlying t = some (.slice (P.elem t))) (hx : ev l x = some v) : Still P N l ⟨some d, .call ⟨.builtin .len, #[x], #[t]⟩, ty, pos, after, g⟩ (.int .i64 xs.length) w := by
  have := Still.lenRow (N := N) (d := d) (ty := ty) (pos := pos) (after := after) (g := g) hr ht hx; simpa using this
theorem Still.lenRows {t e e' : TypeId} {x : Operand} {v : Value} {xs : List (List Int)} (hr : Rows w e e' v xs) (ht : P.underlying t = some (.slice (P.elem t))) (hx : ev l x = some v) : Still P N l ⟨some d, .call ⟨.builtin .len, #[x], #[t]⟩, ty, pos, after, g⟩ (.int .i64 xs.length) w := by
  obtain ⟨rs, h1, h2, _⟩ := hr
  have := Still.lenRow (N := N) (d := d) (ty := ty) (pos := pos) (after := after) (g := g) h1 ht hx
  rw [h2] at this; exact this

/-- An element's address: what lies there, and that it does not hang on the world. -/
def At (w : World) (e : TypeId) (v : Value) (i : Int) (p : Addr) (u : Value) : Prop := w.cell? p = some u ∧ (∃ b o c n, v = .slice (some ⟨b, o, none⟩) n c ∧ p = ⟨b, o + i.toNat, none⟩ ∧ 0 ≤ i ∧ i < n) ∧ ∃ cur fr, w.heap[p.block]? = some (.cells cur e fr)
theorem At.ext {w w' : World} {e : TypeId} {v : Value} {i : Int} {p : Addr} {u : Value} (h : At w e v i p u) (x : Ext w w') : At w' e v i p u := ⟨by
  have h1 := h.1
  have hb := World.block_lt_of_cell? w p h1
  rw [Below.cell x hb]; exact h1, h.2.1, by
  obtain ⟨cur, fr, h3⟩ := h.2.2
  exact ⟨cur, fr, x.heap h3⟩⟩
theorem At.owned {w w' : World} {B : Nat} {e t : TypeId} {v u' : Value} {us : List Value} {i : Int} {p : Addr} {u : Value} (h : At w e v i p u) (ho : Own w B t u' us) (hg : w.grownBy w' u'.ownBlock) (hne : t ≠ e) : At w' e v i p u := by
  obtain ⟨h1, h2, cur, fr, h3⟩ := h
  have hb : w'.heap[p.block]? = w.heap[p.block]? := by
    refine hg.block _ (lt_of_block h3) fun hc => ?_
    rcases ho.cases with ⟨rfl, _⟩ | ⟨g, cap, cs, rfl, _, hb, _⟩
    · cases hc
    · simp [Value.ownBlock] at hc
      subst hc
      simp only [Blk] at hb
      rw [hb] at h3
      simp at h3
      exact hne h3.2.1
  exact ⟨by rw [World.cell?_of_block hb]; exact h1, h2, cur, fr, by rw [hb]; exact h3⟩
theorem Row.at {e : TypeId} {v : Value} {vs : List Value} (h : Row w e v vs) {i : Int} (hi : 0 ≤ i) (hlt : i.toNat < vs.length) : ∃ p, At w e v i p (vs[i.toNat]) := by
  rcases h with ⟨rfl, _⟩ | ⟨b, o, c, cur, fr, rfl, hb, hc⟩
  · cases hlt
  · exact ⟨⟨b, o + i.toNat, none⟩, by simp [World.cell?, hb, hc _ _ (List.getElem?_eq_getElem hlt)], ⟨b, o, c, vs.length, rfl, rfl, hi, by omega⟩, cur, fr, hb⟩
theorem Ints.at {e : TypeId} {v : Value} {xs : List Int} (h : Ints w e v xs) {i : Int} (hi : 0 ≤ i) (hlt : i.toNat < xs.length) : ∃ p, At w e v i p (.int .i64 (xs.getD i.toNat 0)) := by
  obtain ⟨p, hp⟩ := Row.at h hi (by simpa using hlt)
  exact ⟨p, by simpa [hlt] using hp⟩
theorem Bools.at {e : TypeId} {v : Value} {xs : List Bool} (h : Bools w e v xs) {i : Int} (hi : 0 ≤ i) (hlt : i.toNat < xs.length) : ∃ p, At w e v i p (.bool (xs.getD i.toNat false)) := by
  obtain ⟨p, hp⟩ := Row.at h hi (by simpa using hlt)
  exact ⟨p, by simpa [hlt] using hp⟩
theorem Strs.at {e : TypeId} {v : Value} {xs : List ByteArray} (h : Strs w e v xs) {i : Int} (hi : 0 ≤ i) (hlt : i.toNat < xs.length) : ∃ p, At w e v i p (.string (xs.getD i.toNat ByteArray.empty)) := by
  obtain ⟨p, hp⟩ := Row.at h hi (by simpa using hlt)
  exact ⟨p, by simpa [hlt] using hp⟩
theorem Bytes.at {e : TypeId} {v : Value} {xs : List UInt8} (h : Bytes w e v xs) {i : Int} (hi : 0 ≤ i) (hlt : i.toNat < xs.length) : ∃ p, At w e v i p (.int .u8 ((xs.getD i.toNat 0).toNat : Int)) := by
  obtain ⟨p, hp⟩ := Row.at h hi (by simpa using hlt)
  exact ⟨p, by simpa [hlt] using hp⟩
theorem Rows.at {e e' : TypeId} {v : Value} {xss : List (List Int)} (h : Rows w e e' v xss) {i : Int} (hi : 0 ≤ i) (hlt : i.toNat < xss.length) : ∃ p r, At w e v i p r ∧ Ints w e' r (xss.getD i.toNat []) := by
  obtain ⟨rs, r1, r2, r3⟩ := h
  have hl : i.toNat < rs.length := by omega
  obtain ⟨p, hp⟩ := r1.at hi hl
  exact ⟨p, _, hp, r3 _ _ (List.getElem?_eq_getElem hl)⟩
theorem Still.at {t e : TypeId} {z : Value} {x ix : Operand} {v u : Value} {i : Int} {k : IntKind} {p : Addr} (hs : SlT P t e z) (h : At w e v i p u) (hx : ev l x = some v) (hix : ev l ix = some (.int k i)) :
    Still P N l ⟨some d, .indexAddr t x ix, ty, pos, after, g⟩ (.pointer (some p)) w := fun a ha => by
  obtain ⟨_, ⟨b, o, c, n, rfl, rfl, h0, h1⟩, _⟩ := h
  have := run_indexAt_slice (P := P) (w := w) t ⟨b, o, none⟩ n c k i (by rw [hs.elem]; exact hs.und)
  rw [hs.elem, hs.sizeOf] at this
  simp [execOp, ha.ev hx, ha.ev hix, this, h0, h1, addr_add]
theorem Still.at' {t e0 e : TypeId} {z : Value} {x ix : Operand} {v u : Value} {i : Int} {k : IntKind} {p : Addr} {w0 : World} (hs : SlT P t e0 z) (h : At w0 e v i p u) (hx : ev l x = some v) (hix : ev l ix = some (.int k i)) :
    Still P N l ⟨some d, .indexAddr t x ix, ty, pos, after, g⟩ (.pointer (some p)) w := fun a ha => by
  obtain ⟨_, ⟨b, o, c, n, rfl, rfl, h0, h1⟩, _⟩ := h
  have := run_indexAt_slice (P := P) (w := w) t ⟨b, o, none⟩ n c k i (by rw [hs.elem]; exact hs.und)
  rw [hs.elem, hs.sizeOf] at this
  simp [execOp, ha.ev hx, ha.ev hix, this, h0, h1, addr_add]
end

section
variable {P : Program} {N : Nat} {ops : Array Oper} {Q : Exit → Act → World → Prop} {rest : List Oper} {l : Slots} {w : World}
variable {d : Nat} {ty : TypeId} {pos : String} {after : Array Edge} {g : Option (Nat × Bool)}

/-- 'append' of a row that lies there, whole, to a slice of the call's own. -/
theorem Sq.app {t e : TypeId} {z : Value} {s x : Operand} {v xv : Value} {vs us : List Value} {B : Nat}
    (hs : SlT P t e z) (ho : Own w B e v vs) (hB : B ≤ w.heap.size) (hr : Row w e xv us) (hu : ∀ u ∈ us, u.oneCell' = true) (hlen : vs.length + us.length < 1073741824) (hg : On ops l g) (hg2 : g = none) (hN : Nat.blt d N = true) (hsv : ev l s = some v) (hxv : ev l x = some xv)
    (h : ∀ v' w', Own w' B e v' (vs ++ us) → w.grownBy w' v.ownBlock → Sq P N ops Q rest ((d, v') :: l) w') :
    Sq P N ops Q (⟨some d, .call ⟨.builtin .append, #[s, x], #[t, t]⟩, ty, pos, after, g⟩ :: rest) l w := by
  subst hg2
  intro a ha
  obtain ⟨i, hi, hz, hsz, hby⟩ := hs.info
  have hzc : z.cells.size = 1 := by
    have := hs.one
    cases z <;> simp_all [Value.cells, Value.oneCell']
  have hby' : (vs.length + us.length) * i.bytes ≤ 1073741824 * 64 := Nat.mul_le_mul (by omega) hby
  have fin : ∀ v' w', w'.ownsRow B e 1 v' (vs.length + us.length) (vs ++ us) → w.grownBy w' v.ownBlock → wpList P ops Q rest (a.put (some d) v') w' := fun v' w' r1 r2 =>
    h v' w' (by unfold Own; simpa using r1) r2 _ (ha.put hN)
  rcases hr with ⟨rfl, p, c, rfl, hpc⟩ | ⟨b, o, c, cur, fr, rfl, hb, hc⟩
  · cases p with
    | none =>
      obtain rfl := hpc rfl
      exact wpList_append_own_none (w := w) (P := P) rfl s x t rfl B e i 1 hs.und hi v vs.length vs (ha.ev hsv) ho (ha.ev hxv) (fin v w (by simpa [Own] using ho) (World.grownBy.refl _ _))
    | some p =>
      refine wpList_append_own w (P := P) rfl s x t rfl B e i z 1 i.bytes hs.und hi hz hsz rfl hzc (by omega) v vs.length vs (ha.ev hsv) ho p 0 c [] (ha.ev hxv) rfl (by simp) (by simp)
        (by unfold maxLen; omega) (by simp at hby' ⊢; omega) hB fun v' w' r1 r2 _ => fin v' w' (by simpa using r1) r2
  · refine wpList_append_own w (P := P) rfl s x t rfl B e i z 1 i.bytes hs.und hi hz hsz rfl hzc (by omega) v vs.length vs (ha.ev hsv) ho ⟨b, o, none⟩ us.length c us (ha.ev hxv) (by simp) ?_ hu
      (by unfold maxLen; omega) (by omega) hB fun v' w' r1 r2 _ => fin v' w' r1 r2
    intro j u hj
    rw [addr_add]
    simp [World.cell?, hb, hc j u hj]
end
end Go.Proofs.Ytdkdpmmfebdeaaa
