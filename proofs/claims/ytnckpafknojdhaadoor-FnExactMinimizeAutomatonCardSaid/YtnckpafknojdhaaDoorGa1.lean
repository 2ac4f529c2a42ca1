/-
  The texts of this proof, joined (wip/merge.py): the calculus of slots, plain mathematics, walks.
-/
import Derived.WalkKit
import Derived.OrdersHeld
import Derived.Laws.AppendOwnNone
import Derived.Lib.SliceRun
import Derived.Laws.IdiomStrings
import Derived.Laws.DeepStrings4
import Derived.Laws.BytesArg
import Derived.MapKept
import Derived.Test.YtnckpafknojdhaaDoorRows
import Derived.Eval
import Derived.Lib.SmallJoins
import Derived.ChangeArms
set_option linter.unusedSimpArgs false
set_option linter.unusedVariables false
namespace Go.Proofs.YtnckpafknojdhaaDoor
open Go.RowKit
abbrev Slots := List (Nat × Value)
def look : Slots → Nat → Option Value
  | [], _ => none
  | (k, v) :: r, t => cond (Nat.beq k t) (some v) (look r t)
structure St (N : Nat) (l : Slots) (a : Act) : Prop where
  size : a.tmps.size = N
  defers : a.defers = []
  slot : ∀ t v, look l t = some v → a.tmps.getD t undef = v
def ev (l : Slots) : Operand → Option Value
  | .tmp t => look l t
  | .const v => some v
  | .global g => some (.pointer (some ⟨g, 0, none⟩))
  | .func f => some (.func (.func f) #[] #[])
theorem St.ev {N : Nat} {l : Slots} {a : Act} {x : Operand} {v : Value} (h : St N l a) (hx : ev l x = some v) : a.eval x = v := by
  cases x with
  | tmp t => exact h.slot t v hx
  | const u => simpa [Act.eval, Go.Proofs.YtnckpafknojdhaaDoor.ev] using hx
  | global g => simpa [Act.eval, Go.Proofs.YtnckpafknojdhaaDoor.ev] using hx
  | func f => simpa [Act.eval, Go.Proofs.YtnckpafknojdhaaDoor.ev] using hx
theorem St.put {N : Nat} {l : Slots} {a : Act} {d : Nat} {v : Value} (h : St N l a) (hd : Nat.blt d N = true) : St N ((d, v) :: l) (a.put (some d) v) := by
  have hd' : d < N := Nat.lt_of_lt_of_le (Nat.lt_succ_self d) (Nat.le_of_ble_eq_true hd)
  refine ⟨by simp [Act.put, h.size], h.defers, fun t u hu => ?_⟩
  simp only [look] at hu
  cases hb : Nat.beq d t with
  | true =>
    obtain rfl := Nat.eq_of_beq_eq_true hb
    rw [hb] at hu
    simp at hu
    subst hu
    have : d < a.tmps.size := by rw [h.size]; exact hd'
    simp [Act.put, this]
  | false =>
    have hne : d ≠ t := Nat.ne_of_beq_eq_false hb
    rw [hb] at hu
    have := h.slot t u hu
    simp only [Act.put]
    rw [← this]
    simp [Array.getD_eq_getD_getElem?, hne]
theorem St.bool {N : Nat} {l : Slots} {a : Act} {t : Nat} {b : Bool} (h : St N l a) (hv : look l t = some (.bool b)) : a.tmps[t]? = some (.bool b) := by
  have := h.slot _ _ hv
  rw [Array.getD_eq_getD_getElem?] at this
  cases hx : a.tmps[t]? with
  | none => rw [hx] at this; simp [undef] at this
  | some v => rw [hx] at this; simpa using this
def Sub (l l' : Slots) : Prop := ∀ t v, look l' t = some v → look l t = some v
theorem Sub.nil {l : Slots} : Sub l [] := fun t v hv => by simp [Go.Proofs.YtnckpafknojdhaaDoor.look] at hv
theorem Sub.cons {l : Slots} {k : Nat} {v : Value} {r : Slots} (h : look l k = some v) (s : Sub l r) : Sub l ((k, v) :: r) := by
  intro t u hu
  simp only [Go.Proofs.YtnckpafknojdhaaDoor.look] at hu
  cases hb : Nat.beq k t with
  | true =>
    obtain rfl := Nat.eq_of_beq_eq_true hb
    rw [hb] at hu
    simp at hu
    subst hu
    exact h
  | false => rw [hb] at hu; exact s t u hu
theorem St.sub {N : Nat} {l l' : Slots} {a : Act} (h : St N l a) (s : Sub l l') : St N l' a := ⟨h.size, h.defers, fun t v hv => h.slot t v (s t v hv)⟩
def Sq (P : Program) (N : Nat) (ops : Array Oper) (Q : Exit → Act → World → Prop) (rest : List Oper) (l : Slots) (w : World) : Prop :=
  ∀ a, St N l a → wpList P ops Q rest a w
def Cq (P : Program) (N : Nat) (c : Code) (Q : Exit → Act → World → Prop) (l : Slots) (w : World) : Prop :=
  ∀ a, St N l a → c.wp P Q a w
def Eq (N : Nat) (Q : Exit → Act → World → Prop) (e : Exit) (l : Slots) (w : World) : Prop :=
  ∀ a, St N l a → Q e a w
section code
variable {P : Program} {N : Nat} {Q : Exit → Act → World → Prop} {l : Slots} {w : World}
theorem Cq.seq {x y : Code} (h : Cq P N x (Exit.then (y.wp P Q) Q) l w) : Cq P N (.seq x y) Q l w := fun a ha => wp_seq (h a ha)
theorem Cq.skip (h : Eq N Q .normal l w) : Cq P N .skip Q l w := fun a ha => wp_skip (h a ha)
theorem Cq.ret (h : Eq N Q .ret l w) : Cq P N .ret Q l w := fun a ha => wp_ret (h a ha)
theorem Cq.exit {id : Nat} (h : Eq N Q (.exit id) l w) : Cq P N (.exit id) Q l w := fun a ha => wp_exit (h a ha)
theorem Cq.block {id : Nat} {c : Code} (h : Cq P N c (Exit.inBlock id Q) l w) : Cq P N (.block id c) Q l w := fun a ha => wp_block (h a ha)
theorem Cq.thn {c : Operand} {x y : Code} (hc : ev l c = some (.bool true)) (h : Cq P N x Q l w) : Cq P N (.cond c x y) Q l w := fun a ha => wp_cond_true (ha.ev hc) (h a ha)
theorem Cq.els {c : Operand} {x y : Code} (hc : ev l c = some (.bool false)) (h : Cq P N y Q l w) : Cq P N (.cond c x y) Q l w := fun a ha => wp_cond_false (ha.ev hc) (h a ha)
theorem Cq.region {id : Nat} {ops : List Oper} (h : Sq P N ops.toArray Q ops l w) : Cq P N (.region id ops.toArray false) Q l w := fun a ha => wp_region_lit (h a ha)
theorem Cq.sub {c : Code} {l' : Slots} (s : Sub l l') (h : Cq P N c Q l' w) : Cq P N c Q l w := fun a ha => h a (ha.sub s)
theorem Eq.sub {e : Exit} {l' : Slots} (s : Sub l l') (h : Eq N Q e l' w) : Eq N Q e l w := fun a ha => h a (ha.sub s)
theorem Cq.mono {c : Code} {Q' : Exit → Act → World → Prop} (h : Cq P N c Q' l w) (hq : ∀ e a w, Q' e a w → Q e a w) : Cq P N c Q l w := fun a ha => wp_mono (h a ha) hq
theorem Eq.next {y : Code} (h : Cq P N y Q l w) : Eq N (Exit.then (y.wp P Q) Q) .normal l w := fun a ha => h a ha
theorem Eq.past {K : Act → World → Prop} {id : Nat} (h : Eq N Q (.exit id) l w) : Eq N (Exit.then K Q) (.exit id) l w := fun a ha => h a ha
theorem Eq.pastRet {K : Act → World → Prop} (h : Eq N Q .ret l w) : Eq N (Exit.then K Q) .ret l w := fun a ha => h a ha
theorem Eq.hit {id : Nat} (h : Eq N Q .normal l w) : Eq N (Exit.inBlock id Q) (.exit id) l w := fun a ha => by simpa [Exit.inBlock] using h a ha
theorem Eq.end {id : Nat} (h : Eq N Q .normal l w) : Eq N (Exit.inBlock id Q) .normal l w := fun a ha => h a ha
theorem Eq.outRet {id : Nat} (h : Eq N Q .ret l w) : Eq N (Exit.inBlock id Q) .ret l w := fun a ha => h a ha
def Round (N : Nat) (I : Nat → World → Slots → Prop) (n : Nat) (a : Act) (w : World) : Prop := ∃ m l, I m w l ∧ St N l a ∧ m < n
theorem Cq.loop {c : Code} (I : Nat → World → Slots → Prop) (n0 : Nat) (l0 : Slots) (h0 : I n0 w l0) (s0 : Sub l l0)
    (h : ∀ n w l, I n w l → Cq P N c (Exit.then (Round N I n) Q) l w) : Cq P N (.loop c) Q l w := by
  intro a ha
  let J : Act → World → Nat → Prop := fun a w n => ∃ l, I n w l ∧ St N l a
  classical
  have least : ∀ (p : Nat → Prop), (∃ n, p n) → ∃ n, p n ∧ ∀ k, p k → n ≤ k := by
    intro p ⟨n, hn⟩
    induction n using Nat.strongRecOn with
    | _ n ih =>
      by_cases hx : ∃ k, k < n ∧ p k
      · obtain ⟨k, hk, hpk⟩ := hx
        exact ih k hk hpk
      · exact ⟨n, hn, fun k hk => Nat.le_of_not_lt fun hlt => hx ⟨k, hlt, hk⟩⟩
  let μ : Act → World → Nat := fun a w => if h : ∃ n, J a w n then Classical.choose (least _ h) else 0
  have hμ : ∀ a w, (∃ n, J a w n) → J a w (μ a w) ∧ ∀ n, J a w n → μ a w ≤ n := by
    intro a w hx
    have hs := Classical.choose_spec (least _ hx)
    have e : μ a w = Classical.choose (least _ hx) := dif_pos hx
    rw [e]
    exact hs
  refine wp_loop (fun a w => ∃ n, J a w n) μ ⟨n0, l0, h0, ha.sub s0⟩ fun a w hx => ?_
  obtain ⟨l, hI, hl⟩ := (hμ a w hx).1
  refine wp_mono (h _ w l hI a hl) fun e a' w' hq => ?_
  cases e <;> try exact hq
  obtain ⟨m, l', hj, hl', hlt⟩ := hq
  refine ⟨⟨m, l', hj, hl'⟩, ?_⟩
  have := (hμ a' w' ⟨m, l', hj, hl'⟩).2 _ ⟨l', hj, hl'⟩
  omega
theorem Eq.round {I : Nat → World → Slots → Prop} {n : Nat} (m : Nat) (l' : Slots) (hI : I m w l') (hm : m < n) (s : Sub l l') :
    Eq N (Exit.then (Round N I n) Q) .normal l w := fun _ ha => ⟨m, l', hI, ha.sub s, hm⟩
def Left (N : Nat) (R : Slots → World → Prop) : Exit → Act → World → Prop
  | .normal, a, w => ∃ l, R l w ∧ St N l a
  | _, _, _ => False
theorem Eq.left {R : Slots → World → Prop} (l' : Slots) (h : R l' w) (s : Sub l l') : Eq N (Left N R) .normal l w := fun _ ha => ⟨l', h, ha.sub s⟩
end code
section ops
variable {P : Program} {N : Nat} {ops : Array Oper} {Q : Exit → Act → World → Prop} {rest : List Oper} {l : Slots} {w : World}
theorem Sq.nil (h : Eq N Q .normal l w) : Sq P N ops Q [] l w := fun a ha => wpList_nil (h a ha)
def On (ops : Array Oper) (l : Slots) : Option (Nat × Bool) → Prop
  | none => True
  | some (j, b) => ∃ o d, ops[j]? = some o ∧ o.dst = some d ∧ look l d = some (.bool b)
theorem On.plain : On ops l none := trivial
theorem On.met {j : Nat} {b : Bool} {o : Oper} {d : Nat} (ho : ops[j]? = some o) (hd : o.dst = some d) (hv : look l d = some (.bool b)) : On ops l (some (j, b)) := ⟨o, d, ho, hd, hv⟩
theorem On.wanted {a : Act} {o : Oper} (h : On ops l o.guard) (ha : St N l a) : Region.wanted o (yielded ops a.tmps) = true := by
  revert h
  cases hg : o.guard with
  | none => intro _; simp [Region.wanted, hg]
  | some g =>
    obtain ⟨j, b⟩ := g
    rintro ⟨o', d, ho, hd, hv⟩
    simp [Region.wanted, hg, yielded, ho, hd, ha.bool hv]
theorem Sq.off {o : Oper} {j d d' : Nat} {b : Bool} {o' : Oper} (hg : o.guard = some (j, b)) (ho : ops[j]? = some o') (hd : o'.dst = some d) (hv : look l d = some (.bool (!b)))
    (hd' : o.dst = some d') (hN : Nat.blt d' N = true) (h : Sq P N ops Q rest ((d', undef) :: l) w) : Sq P N ops Q (o :: rest) l w := by
  intro a ha
  refine wpList_skip (by simp [Region.wanted, hg, yielded, ho, hd, ha.bool hv]) ?_
  rw [hd']
  exact h _ (ha.put hN)
theorem Sq.val {o : Oper} {d : Nat} {v : Value} {w' : World} (hg : On ops l o.guard) (hd : o.dst = some d) (hN : Nat.blt d N = true)
    (hrun : ∀ a, St N l a → (execOp a.eval o).run P w = .ok (.value v) w') (h : Sq P N ops Q rest ((d, v) :: l) w') : Sq P N ops Q (o :: rest) l w := by
  intro a ha
  refine wpList_step fun K hK => ?_
  rw [if_pos (hg.wanted ha)]
  unfold Oper.wp
  rw [hrun a ha, Oper.upon_value, hd]
  exact hK _ _ (h _ (ha.put hN))
def Still (P : Program) (N : Nat) (l : Slots) (o : Oper) (v : Value) (w : World) : Prop := ∀ a, St N l a → (execOp a.eval o).run P w = .ok (.value v) w
theorem Sq.unit {o : Oper} {w' : World} (hg : On ops l o.guard) (hd : o.dst = none)
    (hrun : ∀ a, St N l a → (execOp a.eval o).run P w = .ok .skip w') (h : Sq P N ops Q rest l w') : Sq P N ops Q (o :: rest) l w := by
  intro a ha
  refine wpList_step fun K hK => ?_
  rw [if_pos (hg.wanted ha)]
  unfold Oper.wp
  rw [hrun a ha, Oper.upon_skip, hd]
  exact hK _ _ (h _ ha)
section
variable {d : Nat} {ty : TypeId} {pos : String} {after : Array Edge} {g : Option (Nat × Bool)}
theorem Still.move {x : Operand} {v : Value} (hx : ev l x = some v) : Still P N l ⟨some d, .move x, ty, pos, after, g⟩ (v) w := fun a ha => by simp [execOp, ha.ev hx]
theorem Sq.move {x : Operand} {v : Value} (hg : On ops l g) (hN : Nat.blt d N = true) (hx : ev l x = some v) (h : Sq P N ops Q rest ((d, v) :: l) w) : Sq P N ops Q (⟨some d, .move x, ty, pos, after, g⟩ :: rest) l w := .val hg rfl hN (Still.move hx) h
theorem Still.assign {x : Operand} {v : Value} (hx : ev l x = some v) : Still P N l ⟨some d, .assign x, ty, pos, after, g⟩ (v) w := fun a ha => by simp [execOp, ha.ev hx]
theorem Sq.assign {x : Operand} {v : Value} (hg : On ops l g) (hN : Nat.blt d N = true) (hx : ev l x = some v) (h : Sq P N ops Q rest ((d, v) :: l) w) : Sq P N ops Q (⟨some d, .assign x, ty, pos, after, g⟩ :: rest) l w := .val hg rfl hN (Still.assign hx) h
theorem Still.pickT {c x y : Operand} {v : Value} (hc : ev l c = some (.bool true)) (hx : ev l x = some v) : Still P N l ⟨some d, .pick c x y, ty, pos, after, g⟩ (v) w := fun a ha => by simp [execOp, asBool, ha.ev hc, ha.ev hx]
theorem Sq.pickT {c x y : Operand} {v : Value} (hg : On ops l g) (hN : Nat.blt d N = true) (hc : ev l c = some (.bool true)) (hx : ev l x = some v) (h : Sq P N ops Q rest ((d, v) :: l) w) : Sq P N ops Q (⟨some d, .pick c x y, ty, pos, after, g⟩ :: rest) l w := .val hg rfl hN (Still.pickT hc hx) h
theorem Still.pickF {c x y : Operand} {v : Value} (hc : ev l c = some (.bool false)) (hx : ev l y = some v) : Still P N l ⟨some d, .pick c x y, ty, pos, after, g⟩ (v) w := fun a ha => by simp [execOp, asBool, ha.ev hc, ha.ev hx]
theorem Sq.pickF {c x y : Operand} {v : Value} (hg : On ops l g) (hN : Nat.blt d N = true) (hc : ev l c = some (.bool false)) (hx : ev l y = some v) (h : Sq P N ops Q rest ((d, v) :: l) w) : Sq P N ops Q (⟨some d, .pick c x y, ty, pos, after, g⟩ :: rest) l w := .val hg rfl hN (Still.pickF hc hx) h
theorem Still.pick {c x y : Operand} {b : Bool} {u v : Value} (hc : ev l c = some (.bool b)) (hx : ev l x = some u) (hy : ev l y = some v) : Still P N l ⟨some d, .pick c x y, ty, pos, after, g⟩ (if b then u else v) w := fun a ha => by simp [execOp, asBool, ha.ev hc, ha.ev hx, ha.ev hy]
theorem Sq.pick {c x y : Operand} {b : Bool} {u v : Value} (hg : On ops l g) (hN : Nat.blt d N = true) (hc : ev l c = some (.bool b)) (hx : ev l x = some u) (hy : ev l y = some v) (h : Sq P N ops Q rest ((d, if b then u else v) :: l) w) : Sq P N ops Q (⟨some d, .pick c x y, ty, pos, after, g⟩ :: rest) l w := .val hg rfl hN (Still.pick hc hx hy) h
theorem Still.add {xt yt : TypeId} {x y : Operand} {m n : Int} (hx : ev l x = some (.int .i64 m)) (hy : ev l y = some (.int .i64 n)) (hb : -9223372036854775808 ≤ m + n ∧ m + n ≤ 9223372036854775807) : Still P N l ⟨some d, .binOp .add xt x y yt, ty, pos, after, g⟩ (.int .i64 (m + n)) w := fun a ha => by simp [execOp, eqGuard, binOp, Op.intArith, ha.ev hx, ha.ev hy, IntWalk.i64_in _ hb]
theorem Sq.add {xt yt : TypeId} {x y : Operand} {m n : Int} (hg : On ops l g) (hN : Nat.blt d N = true) (hx : ev l x = some (.int .i64 m)) (hy : ev l y = some (.int .i64 n)) (hb : -9223372036854775808 ≤ m + n ∧ m + n ≤ 9223372036854775807) (h : Sq P N ops Q rest ((d, .int .i64 (m + n)) :: l) w) : Sq P N ops Q (⟨some d, .binOp .add xt x y yt, ty, pos, after, g⟩ :: rest) l w := .val hg rfl hN (Still.add hx hy hb) h
theorem Still.sub {xt yt : TypeId} {x y : Operand} {m n : Int} (hx : ev l x = some (.int .i64 m)) (hy : ev l y = some (.int .i64 n)) (hb : -9223372036854775808 ≤ m - n ∧ m - n ≤ 9223372036854775807) : Still P N l ⟨some d, .binOp .sub xt x y yt, ty, pos, after, g⟩ (.int .i64 (m - n)) w := fun a ha => by simp [execOp, eqGuard, binOp, Op.intArith, ha.ev hx, ha.ev hy, IntWalk.i64_in _ hb]
theorem Sq.sub {xt yt : TypeId} {x y : Operand} {m n : Int} (hg : On ops l g) (hN : Nat.blt d N = true) (hx : ev l x = some (.int .i64 m)) (hy : ev l y = some (.int .i64 n)) (hb : -9223372036854775808 ≤ m - n ∧ m - n ≤ 9223372036854775807) (h : Sq P N ops Q rest ((d, .int .i64 (m - n)) :: l) w) : Sq P N ops Q (⟨some d, .binOp .sub xt x y yt, ty, pos, after, g⟩ :: rest) l w := .val hg rfl hN (Still.sub hx hy hb) h
theorem Still.mul {xt yt : TypeId} {x y : Operand} {m n : Int} (hx : ev l x = some (.int .i64 m)) (hy : ev l y = some (.int .i64 n)) (hb : -9223372036854775808 ≤ m * n ∧ m * n ≤ 9223372036854775807) : Still P N l ⟨some d, .binOp .mul xt x y yt, ty, pos, after, g⟩ (.int .i64 (m * n)) w := fun a ha => by simp [execOp, eqGuard, binOp, Op.intArith, ha.ev hx, ha.ev hy, IntWalk.i64_in _ hb]
theorem Sq.mul {xt yt : TypeId} {x y : Operand} {m n : Int} (hg : On ops l g) (hN : Nat.blt d N = true) (hx : ev l x = some (.int .i64 m)) (hy : ev l y = some (.int .i64 n)) (hb : -9223372036854775808 ≤ m * n ∧ m * n ≤ 9223372036854775807) (h : Sq P N ops Q rest ((d, .int .i64 (m * n)) :: l) w) : Sq P N ops Q (⟨some d, .binOp .mul xt x y yt, ty, pos, after, g⟩ :: rest) l w := .val hg rfl hN (Still.mul hx hy hb) h
theorem Still.quo {xt yt : TypeId} {x y : Operand} {m n : Int} (hx : ev l x = some (.int .i64 m)) (hy : ev l y = some (.int .i64 n)) (hb : 0 ≤ m ∧ m ≤ 9223372036854775807 ∧ 1 ≤ n) : Still P N l ⟨some d, .binOp .quo xt x y yt, ty, pos, after, g⟩ (.int .i64 (m / n)) w := fun a ha => by
    have hn : ¬ n = 0 := by omega
    simp [execOp, eqGuard, binOp, Op.intDiv, ha.ev hx, ha.ev hy, IntWalk.i64_quo _ _ hb, hn]
theorem Sq.quo {xt yt : TypeId} {x y : Operand} {m n : Int} (hg : On ops l g) (hN : Nat.blt d N = true) (hx : ev l x = some (.int .i64 m)) (hy : ev l y = some (.int .i64 n)) (hb : 0 ≤ m ∧ m ≤ 9223372036854775807 ∧ 1 ≤ n) (h : Sq P N ops Q rest ((d, .int .i64 (m / n)) :: l) w) : Sq P N ops Q (⟨some d, .binOp .quo xt x y yt, ty, pos, after, g⟩ :: rest) l w := .val hg rfl hN (Still.quo hx hy hb) h
theorem Still.rem {xt yt : TypeId} {x y : Operand} {m n : Int} (hx : ev l x = some (.int .i64 m)) (hy : ev l y = some (.int .i64 n)) (hb : 0 ≤ m ∧ 1 ≤ n) : Still P N l ⟨some d, .binOp .rem xt x y yt, ty, pos, after, g⟩ (.int .i64 (m % n)) w := fun a ha => by
    have hn : ¬ n = 0 := by omega
    simp [execOp, eqGuard, binOp, Op.intDiv, ha.ev hx, ha.ev hy, hn, Int.tmod_eq_emod_of_nonneg hb.1]
theorem Sq.rem {xt yt : TypeId} {x y : Operand} {m n : Int} (hg : On ops l g) (hN : Nat.blt d N = true) (hx : ev l x = some (.int .i64 m)) (hy : ev l y = some (.int .i64 n)) (hb : 0 ≤ m ∧ 1 ≤ n) (h : Sq P N ops Q rest ((d, .int .i64 (m % n)) :: l) w) : Sq P N ops Q (⟨some d, .binOp .rem xt x y yt, ty, pos, after, g⟩ :: rest) l w := .val hg rfl hN (Still.rem hx hy hb) h
theorem Still.cmp {op : BinOp} {xt yt : TypeId} {x y : Operand} {k : IntKind} {m n : Int} {b : Bool} (hop : (Op.intCmp op m n) = pure (.bool b)) (hnot : (op matches .shl | .shr | .add | .sub | .mul | .quo | .rem | .and | .or | .xor | .andNot) = false) (hx : ev l x = some (.int k m)) (hy : ev l y = some (.int k n)) : Still P N l ⟨some d, .binOp op xt x y yt, ty, pos, after, g⟩ (.bool b) w := fun a ha => by
    have e : binOp op xt (.int k m) (.int k n) = Op.intCmp op m n := by cases op <;> simp_all [binOp]
    have e2 : eqGuard op xt x y (.int k m) (.int k n) = pure () := by unfold eqGuard; split <;> rfl
    simp [execOp, ha.ev hx, ha.ev hy, e, e2, hop]
theorem Sq.cmp {op : BinOp} {xt yt : TypeId} {x y : Operand} {k : IntKind} {m n : Int} {b : Bool} (hop : (Op.intCmp op m n) = pure (.bool b)) (hnot : (op matches .shl | .shr | .add | .sub | .mul | .quo | .rem | .and | .or | .xor | .andNot) = false) (hg : On ops l g) (hN : Nat.blt d N = true) (hx : ev l x = some (.int k m)) (hy : ev l y = some (.int k n)) (h : Sq P N ops Q rest ((d, .bool b) :: l) w) : Sq P N ops Q (⟨some d, .binOp op xt x y yt, ty, pos, after, g⟩ :: rest) l w := .val hg rfl hN (Still.cmp hop hnot hx hy) h
theorem Still.lss {xt yt : TypeId} {x y : Operand} {k : IntKind} {m n : Int} (hx : ev l x = some (.int k m)) (hy : ev l y = some (.int k n)) : Still P N l ⟨some d, .binOp .lss xt x y yt, ty, pos, after, g⟩ (.bool (decide (m < n))) w := Still.cmp rfl rfl hx hy
theorem Sq.lss {xt yt : TypeId} {x y : Operand} {k : IntKind} {m n : Int} (hg : On ops l g) (hN : Nat.blt d N = true) (hx : ev l x = some (.int k m)) (hy : ev l y = some (.int k n)) (h : Sq P N ops Q rest ((d, .bool (decide (m < n))) :: l) w) : Sq P N ops Q (⟨some d, .binOp .lss xt x y yt, ty, pos, after, g⟩ :: rest) l w := .val hg rfl hN (Still.lss hx hy) h
theorem Still.leq {xt yt : TypeId} {x y : Operand} {k : IntKind} {m n : Int} (hx : ev l x = some (.int k m)) (hy : ev l y = some (.int k n)) : Still P N l ⟨some d, .binOp .leq xt x y yt, ty, pos, after, g⟩ (.bool (decide (m ≤ n))) w := Still.cmp rfl rfl hx hy
theorem Sq.leq {xt yt : TypeId} {x y : Operand} {k : IntKind} {m n : Int} (hg : On ops l g) (hN : Nat.blt d N = true) (hx : ev l x = some (.int k m)) (hy : ev l y = some (.int k n)) (h : Sq P N ops Q rest ((d, .bool (decide (m ≤ n))) :: l) w) : Sq P N ops Q (⟨some d, .binOp .leq xt x y yt, ty, pos, after, g⟩ :: rest) l w := .val hg rfl hN (Still.leq hx hy) h
theorem Still.gtr {xt yt : TypeId} {x y : Operand} {k : IntKind} {m n : Int} (hx : ev l x = some (.int k m)) (hy : ev l y = some (.int k n)) : Still P N l ⟨some d, .binOp .gtr xt x y yt, ty, pos, after, g⟩ (.bool (decide (n < m))) w := Still.cmp rfl rfl hx hy
theorem Sq.gtr {xt yt : TypeId} {x y : Operand} {k : IntKind} {m n : Int} (hg : On ops l g) (hN : Nat.blt d N = true) (hx : ev l x = some (.int k m)) (hy : ev l y = some (.int k n)) (h : Sq P N ops Q rest ((d, .bool (decide (n < m))) :: l) w) : Sq P N ops Q (⟨some d, .binOp .gtr xt x y yt, ty, pos, after, g⟩ :: rest) l w := .val hg rfl hN (Still.gtr hx hy) h
theorem Still.geq {xt yt : TypeId} {x y : Operand} {k : IntKind} {m n : Int} (hx : ev l x = some (.int k m)) (hy : ev l y = some (.int k n)) : Still P N l ⟨some d, .binOp .geq xt x y yt, ty, pos, after, g⟩ (.bool (decide (n ≤ m))) w := Still.cmp rfl rfl hx hy
theorem Sq.geq {xt yt : TypeId} {x y : Operand} {k : IntKind} {m n : Int} (hg : On ops l g) (hN : Nat.blt d N = true) (hx : ev l x = some (.int k m)) (hy : ev l y = some (.int k n)) (h : Sq P N ops Q rest ((d, .bool (decide (n ≤ m))) :: l) w) : Sq P N ops Q (⟨some d, .binOp .geq xt x y yt, ty, pos, after, g⟩ :: rest) l w := .val hg rfl hN (Still.geq hx hy) h
theorem Still.eql {xt yt : TypeId} {x y : Operand} {k : IntKind} {m n : Int} (hx : ev l x = some (.int k m)) (hy : ev l y = some (.int k n)) : Still P N l ⟨some d, .binOp .eql xt x y yt, ty, pos, after, g⟩ (.bool (decide (m = n))) w := Still.cmp (by show pure (Value.bool (m == n)) = _; rw [show (m == n) = decide (m = n) from rfl]) rfl hx hy
theorem Sq.eql {xt yt : TypeId} {x y : Operand} {k : IntKind} {m n : Int} (hg : On ops l g) (hN : Nat.blt d N = true) (hx : ev l x = some (.int k m)) (hy : ev l y = some (.int k n)) (h : Sq P N ops Q rest ((d, .bool (decide (m = n))) :: l) w) : Sq P N ops Q (⟨some d, .binOp .eql xt x y yt, ty, pos, after, g⟩ :: rest) l w := .val hg rfl hN (Still.eql hx hy) h
theorem Still.neq {xt yt : TypeId} {x y : Operand} {k : IntKind} {m n : Int} (hx : ev l x = some (.int k m)) (hy : ev l y = some (.int k n)) : Still P N l ⟨some d, .binOp .neq xt x y yt, ty, pos, after, g⟩ (.bool (decide (m ≠ n))) w := Still.cmp (by show pure (Value.bool (m != n)) = _; rw [show (m != n) = decide (m ≠ n) from by by_cases h : m = n <;> simp [h]]) rfl hx hy
theorem Sq.neq {xt yt : TypeId} {x y : Operand} {k : IntKind} {m n : Int} (hg : On ops l g) (hN : Nat.blt d N = true) (hx : ev l x = some (.int k m)) (hy : ev l y = some (.int k n)) (h : Sq P N ops Q rest ((d, .bool (decide (m ≠ n))) :: l) w) : Sq P N ops Q (⟨some d, .binOp .neq xt x y yt, ty, pos, after, g⟩ :: rest) l w := .val hg rfl hN (Still.neq hx hy) h
theorem Sq.isT {p : Prop} [Decidable p] (hp : p) (h : Sq P N ops Q rest ((d, .bool true) :: l) w) : Sq P N ops Q rest ((d, .bool (decide p)) :: l) w := by rw [decide_eq_true hp]; exact h
theorem Sq.isF {p : Prop} [Decidable p] (hp : ¬ p) (h : Sq P N ops Q rest ((d, .bool false) :: l) w) : Sq P N ops Q rest ((d, .bool (decide p)) :: l) w := by rw [decide_eq_false hp]; exact h
theorem Sq.part {p : Prop} [Decidable p] (ht : p → Sq P N ops Q rest ((d, .bool true) :: l) w) (hf : ¬ p → Sq P N ops Q rest ((d, .bool false) :: l) w) : Sq P N ops Q rest ((d, .bool (decide p)) :: l) w := by
  by_cases hp : p
  · rw [decide_eq_true hp]; exact ht hp
  · rw [decide_eq_false hp]; exact hf hp
theorem Sq.partB {b : Bool} (ht : b = true → Sq P N ops Q rest ((d, .bool true) :: l) w) (hf : b = false → Sq P N ops Q rest ((d, .bool false) :: l) w) : Sq P N ops Q rest ((d, .bool b) :: l) w := by
  cases b
  · exact hf rfl
  · exact ht rfl
theorem Sq.beT {b : Bool} (e : b = true) (h : Sq P N ops Q rest ((d, .bool true) :: l) w) : Sq P N ops Q rest ((d, .bool b) :: l) w := by rw [e]; exact h
theorem Sq.beF {b : Bool} (e : b = false) (h : Sq P N ops Q rest ((d, .bool false) :: l) w) : Sq P N ops Q rest ((d, .bool b) :: l) w := by rw [e]; exact h
theorem Still.not {xt : TypeId} {x : Operand} {b : Bool} (hx : ev l x = some (.bool b)) : Still P N l ⟨some d, .unOp .not xt x, ty, pos, after, g⟩ (.bool (!b)) w := fun a ha => by simp [execOp, Op.unary, ha.ev hx]
theorem Sq.not {xt : TypeId} {x : Operand} {b : Bool} (hg : On ops l g) (hN : Nat.blt d N = true) (hx : ev l x = some (.bool b)) (h : Sq P N ops Q rest ((d, .bool (!b)) :: l) w) : Sq P N ops Q (⟨some d, .unOp .not xt x, ty, pos, after, g⟩ :: rest) l w := .val hg rfl hN (Still.not hx) h
theorem Still.notT {xt : TypeId} {x : Operand} (hx : ev l x = some (.bool true)) : Still P N l ⟨some d, .unOp .not xt x, ty, pos, after, g⟩ (.bool false) w := Still.not hx
theorem Sq.notT {xt : TypeId} {x : Operand} (hg : On ops l g) (hN : Nat.blt d N = true) (hx : ev l x = some (.bool true)) (h : Sq P N ops Q rest ((d, .bool false) :: l) w) : Sq P N ops Q (⟨some d, .unOp .not xt x, ty, pos, after, g⟩ :: rest) l w := .val hg rfl hN (Still.notT hx) h
theorem Still.notF {xt : TypeId} {x : Operand} (hx : ev l x = some (.bool false)) : Still P N l ⟨some d, .unOp .not xt x, ty, pos, after, g⟩ (.bool true) w := Still.not hx
theorem Sq.notF {xt : TypeId} {x : Operand} (hg : On ops l g) (hN : Nat.blt d N = true) (hx : ev l x = some (.bool false)) (h : Sq P N ops Q rest ((d, .bool true) :: l) w) : Sq P N ops Q (⟨some d, .unOp .not xt x, ty, pos, after, g⟩ :: rest) l w := .val hg rfl hN (Still.notF hx) h
def Ret (P : Program) (f : FuncId) (args : Array Value) (w : World) (R : Value → World → Prop) : Prop :=
  Calls P f args w fun e w' => ∃ v, e = .returned v ∧ R v w'
theorem Ret.mono {f : FuncId} {args : Array Value} {R R' : Value → World → Prop} (h : Ret P f args w R) (hr : ∀ v w', R v w' → R' v w') : Ret P f args w R' :=
  Calls.mono h fun _ _ ⟨v, he, hv⟩ => ⟨v, he, hr _ _ hv⟩
structure Fn (P : Program) (f : FuncId) (fn : Func) : Prop where
  get : P.funcs[f]? = some fn
  body : fn.body.isNone = false
  name : (fn.name == "runtime.NumGoroutine") = false
theorem run_callFunc {f : FuncId} {fn : Func} (hf : Fn P f fn) (args : Array Value) : (callFunc f args).run P w = .ok (.enter f args) w := by
  have h1 := hf.name
  have h2 := hf.body
  have h3 : fn.body ≠ none := by intro h; rw [h] at h2; cases h2
  have h4 : ¬ fn.name = "runtime.NumGoroutine" := by simpa using h1
  simp [callFunc, hf.get, h3, h4]
def evs (l : Slots) : List Operand → Option (List Value)
  | [] => some []
  | x :: r => match ev l x, evs l r with
    | some v, some vs => some (v :: vs)
    | _, _ => none
theorem St.evs {a : Act} (ha : St N l a) : ∀ {xs : List Operand} {vs : List Value}, evs l xs = some vs → xs.map a.eval = vs := by
  intro xs
  induction xs with
  | nil => intro vs h; simp [Go.Proofs.YtnckpafknojdhaaDoor.evs] at h; simp [h]
  | cons x r ih =>
    intro vs h
    simp only [Go.Proofs.YtnckpafknojdhaaDoor.evs] at h
    cases h1 : Go.Proofs.YtnckpafknojdhaaDoor.ev l x with
    | none => rw [h1] at h; simp at h
    | some v =>
      cases h2 : Go.Proofs.YtnckpafknojdhaaDoor.evs l r with
      | none => rw [h1, h2] at h; simp at h
      | some vs' =>
        rw [h1, h2] at h
        simp at h
        subst h
        simp [ha.ev h1, ih h2]
theorem Sq.call {f : FuncId} {fn : Func} {xs : List Operand} {ats : Array TypeId} {vs : List Value} {R : Value → World → Prop} (hf : Fn P f fn) (hg : On ops l g) (hN : Nat.blt d N = true)
    (hx : evs l xs = some vs) (hc : Ret P f vs.toArray w R) (h : ∀ v w', R v w' → Sq P N ops Q rest ((d, v) :: l) w') :
    Sq P N ops Q (⟨some d, .call ⟨.value (.func f), xs.toArray, ats⟩, ty, pos, after, g⟩ :: rest) l w := by
  intro a ha
  refine wpList_step fun K hK => ?_
  rw [if_pos (hg.wanted ha)]
  unfold Oper.wp
  rw [execOp_call_go, run_callFunc hf, Oper.upon_enter]
  have hargs : (#[] ++ xs.toArray.map a.eval ++ #[]) = vs.toArray := by
    rw [List.map_toArray, ha.evs hx]; simp
  rw [hargs]
  refine Calls.mono hc fun e w' he => ?_
  obtain ⟨v, rfl, hv⟩ := he
  exact hK _ _ (h v w' hv _ (ha.put hN))
theorem Still.extract {x : Operand} {i : Nat} {vs : Array Value} {v : Value} (hx : ev l x = some (.tuple vs)) (hv : vs[i]? = some v) : Still P N l ⟨some d, .extract x i, ty, pos, after, g⟩ (v) w := fun a ha => by simp [execOp, Instr.extract, ha.ev hx, hv]
theorem Sq.extract {x : Operand} {i : Nat} {vs : Array Value} {v : Value} (hg : On ops l g) (hN : Nat.blt d N = true) (hx : ev l x = some (.tuple vs)) (hv : vs[i]? = some v) (h : Sq P N ops Q rest ((d, v) :: l) w) : Sq P N ops Q (⟨some d, .extract x i, ty, pos, after, g⟩ :: rest) l w := .val hg rfl hN (Still.extract hx hv) h
end
end ops
theorem Ret.of {P : Program} {f : FuncId} {fn : Func} {c : Code} {N : Nat} {args : List Value} {w : World} {R : Value → World → Prop} (hf : P.funcs[f]? = some fn) (hb : fn.body = some c) (hN : fn.ntmps = N) (hle : Nat.ble args.length N = true)
    (h : ∀ l, l = args.zipIdx.map (fun p => (p.2, p.1)) → Cq P N c (bodyPost P fn fun e w' => ∃ v, e = .returned v ∧ R v w') l w) : Ret P f args.toArray w R := by
  refine calls_of_wp hf hb (h _ rfl _ ⟨?_, rfl, ?_⟩)
  · have := Nat.le_of_ble_eq_true hle
    simp [hN]
    omega
  · intro t v hv
    have key : ∀ (xs : List Value) (k : Nat), look ((xs.zipIdx k).map (fun p => (p.2, p.1))) t = some v → k ≤ t ∧ xs[t - k]? = some v := by
      intro xs
      induction xs with
      | nil => intro k h; simp [look] at h
      | cons x r ih =>
        intro k h
        simp only [List.zipIdx_cons, List.map_cons, look] at h
        cases hb : Nat.beq k t with
        | true =>
          obtain rfl := Nat.eq_of_beq_eq_true hb
          rw [hb] at h
          simp at h
          simp [h]
        | false =>
          rw [hb] at h
          obtain ⟨h1, h2⟩ := ih (k + 1) h
          have : t - k = (t - (k + 1)) + 1 := by omega
          exact ⟨by omega, by rw [this]; simpa using h2⟩
    obtain ⟨_, h2⟩ := key args 0 hv
    have h3 : args[t]? = some v := by simpa using h2
    have h4 : t < args.length := by
      rcases Nat.lt_or_ge t args.length with h | h
      · exact h
      · simp [List.getElem?_eq_none h] at h3
    have h5 : args[t] = v := by rw [List.getElem?_eq_getElem h4] at h3; exact Option.some.inj h3
    simp [Array.getD_eq_getD_getElem?, Array.getElem?_append, h4, h5]
theorem Eq.ret1 {P : Program} {fn : Func} {N t : Nat} {l : Slots} {w : World} {v : Value} {R : Value → World → Prop} (hr : fn.results = #[.tmp t]) (hv : look l t = some v) (h : R v w) :
    Eq N (bodyPost P fn fun e w' => ∃ v, e = .returned v ∧ R v w') .ret l w := fun _ ha =>
  bodyPost_ret (results_tmp hr _ _ _) ha.defers ⟨v, by rw [ha.slot _ _ hv], h⟩
theorem Eq.ret2 {P : Program} {fn : Func} {N t u : Nat} {l : Slots} {w : World} {v v' : Value} {R : Value → World → Prop} (hr : fn.results = #[.tmp t, .tmp u]) (hv : look l t = some v) (hv' : look l u = some v') (h : R (.tuple #[v, v']) w) :
    Eq N (bodyPost P fn fun e w' => ∃ v, e = .returned v ∧ R v w') .ret l w := fun _ ha =>
  bodyPost_ret (results_tmp2 hr _ _ _) ha.defers ⟨_, by rw [ha.slot _ _ hv, ha.slot _ _ hv'], h⟩
end Go.Proofs.YtnckpafknojdhaaDoor
set_option linter.unusedSimpArgs false
set_option linter.unusedVariables false
namespace Go.Proofs.YtnckpafknojdhaaDoor
open Go.RowKit
def Ext (w w' : World) : Prop := Below w.heap.size w w'
theorem Ext.refl (w : World) : Ext w w := Below.refl _ _
theorem Ext.trans {a b c : World} (h : Ext a b) (k : Ext b c) : Ext a c := Below.trans h (Below.mono k h.size)
theorem Ext.alloc (w : World) (o : Obj) : Ext w (w.alloc o) := (Below.refl _ _).alloc (Nat.le_refl _) o
theorem Ext.heap {w w' : World} (h : Ext w w') {b : Nat} {o : Obj} (hb : w.heap[b]? = some o) : w'.heap[b]? = some o := by
  rw [h.block b (lt_of_block hb)]; exact hb
theorem Ext.grown {a b w' : World} {r : Option Nat} (h : Ext a b) (hg : b.grownBy w' r) (hr : ∀ k, r = some k → a.heap.size ≤ k) : Ext a w' := Below.grown h hg h.size hr
theorem Ext.of_grown {w w' : World} (h : w.grownBy w' none) : Ext w w' := (Below.refl _ _).grown h (Nat.le_refl _) (fun k hk => by cases hk)
theorem Ext.to_grown {w w' : World} (h : Ext w w') (r : Option Nat) : w.grownBy w' r := ⟨h.os, h.tape, h.output, h.size, fun k hk _ => h.block k hk⟩
theorem grown_trans {a b c : World} {r : Option Nat} (h : a.grownBy b r) (k : b.grownBy c r) : a.grownBy c r :=
  ⟨k.os.trans h.os, k.tape.trans h.tape, k.output.trans h.output, Nat.le_trans h.size k.size, fun i hi hn => (k.block i (Nat.lt_of_lt_of_le hi h.size) hn).trans (h.block i hi hn)⟩
theorem grown_setCell (w : World) (g o : Nat) (v : Value) : w.grownBy (w.setCell ⟨g, o, none⟩ v) (some g) :=
  ⟨rfl, rfl, rfl, by simp [World.setCell], fun k _ hne => Below.heap_setCell _ _ _ _ (fun e => hne (by rw [e]))⟩
def Blk (w : World) (b : Nat) (t : TypeId) (cs : List Value) : Prop := w.heap[b]? = some (.cells cs.toArray t (0, 0))
theorem Blk.ext {w w' : World} {b : Nat} {t : TypeId} {cs : List Value} (h : Blk w b t cs) (e : Ext w w') : Blk w' b t cs := e.heap h
theorem Blk.lt {w : World} {b : Nat} {t : TypeId} {cs : List Value} (h : Blk w b t cs) : b < w.heap.size := lt_of_block h
theorem Blk.cell {w : World} {b : Nat} {t : TypeId} {cs : List Value} (h : Blk w b t cs) (j : Nat) : w.cell? ⟨b, j, none⟩ = cs[j]? := by
  simp only [Blk] at h
  simp [World.cell?, h]
theorem Blk.free {w : World} {b : Nat} {t : TypeId} {cs : List Value} (h : Blk w b t cs) (j : Nat) : w.frozen? ⟨b, j, none⟩ = false := by
  simp only [Blk] at h
  simp [World.frozen?, h]
theorem Blk.set {w : World} {b : Nat} {t : TypeId} {cs : List Value} (h : Blk w b t cs) (j : Nat) (u : Value) : Blk (w.setCell ⟨b, j, none⟩ u) b t (cs.set j u) := by
  simp only [Blk] at *
  simp [World.setCell, Array.getElem?_modify, h]
theorem Blk.new (w : World) (t : TypeId) (cs : List Value) : Blk (w.alloc (.cells cs.toArray t)) w.heap.size t cs := heap_alloc_new w _
theorem Blk.grown {w w' : World} {b : Nat} {t : TypeId} {cs : List Value} (h : Blk w b t cs) {r : Option Nat} (hg : w.grownBy w' r) (hne : r ≠ some b) : Blk w' b t cs := by
  simp only [Blk] at *
  rw [hg.block b (lt_of_block h) (fun e => hne e.symm)]; exact h
theorem Blk.ne {w : World} {b b' : Nat} {t t' : TypeId} {cs cs' : List Value} (h : Blk w b t cs) (h' : Blk w b' t' cs') (hne : t ≠ t') : b ≠ b' := by
  rintro rfl
  simp only [Blk] at *
  rw [h] at h'
  simp at h'
  exact hne h'.2
def Row (w : World) (e : TypeId) (v : Value) (vs : List Value) : Prop :=
  (vs = [] ∧ ∃ p c, v = .slice p 0 c ∧ (p = none → c = 0)) ∨
  ∃ b o c cur fr, v = .slice (some ⟨b, o, none⟩) vs.length c ∧ w.heap[b]? = some (.cells cur e fr) ∧ ∀ i x, vs[i]? = some x → cur[o + i]? = some x
theorem Row.ext {w w' : World} {e : TypeId} {v : Value} {vs : List Value} (h : Row w e v vs) (x : Ext w w') : Row w' e v vs := by
  rcases h with h | ⟨b, o, c, cur, fr, hv, hb, hx⟩
  · exact .inl h
  · exact .inr ⟨b, o, c, cur, fr, hv, x.heap hb, hx⟩
theorem Row.grown {w w' : World} {e : TypeId} {v : Value} {vs : List Value} (h : Row w e v vs) {g : Nat} {t : TypeId} {cs : List Value} (hg : w.grownBy w' (some g)) (hb' : Blk w g t cs) (hne : t ≠ e) : Row w' e v vs := by
  rcases h with h | ⟨b, o, c, cur, fr, hv, hb, hx⟩
  · exact .inl h
  · refine .inr ⟨b, o, c, cur, fr, hv, ?_, hx⟩
    rw [hg.block b (lt_of_block hb) (fun h => ?_)]
    · exact hb
    · injection h with h
      subst h
      simp only [Blk] at hb'
      rw [hb] at hb'
      simp at hb'
      exact hne hb'.2.1.symm
theorem Row.shape {w : World} {e : TypeId} {v : Value} {vs : List Value} (h : Row w e v vs) : ∃ p c, v = .slice p vs.length c := by
  rcases h with ⟨rfl, p, c, rfl, _⟩ | ⟨b, o, c, cur, fr, hv, _⟩
  · exact ⟨p, c, rfl⟩
  · exact ⟨_, c, hv⟩
theorem Row.nil (w : World) (e : TypeId) : Row w e (.slice none 0 0) [] := .inl ⟨rfl, none, 0, rfl, fun _ => rfl⟩
theorem addr_add (b o i : Nat) : (⟨b, o, none⟩ : Addr).add i = ⟨b, o + i, none⟩ := by
  simp only [Addr.add]
  split
  · subst_vars; rfl
  · rfl
def Own (w : World) (B : Nat) (e : TypeId) (v : Value) (vs : List Value) : Prop := w.ownsRow B e 1 v vs.length vs
theorem Own.nil (w : World) (B : Nat) (e : TypeId) : Own w B e (.slice none 0 0) [] := World.ownsRow_nil w B e 1
theorem Own.cases {w : World} {B : Nat} {e : TypeId} {v : Value} {vs : List Value} (h : Own w B e v vs) :
    (v = .slice none 0 0 ∧ vs = []) ∨ ∃ g cap cs, v = .slice (some ⟨g, 0, none⟩) vs.length cap ∧ B ≤ g ∧ Blk w g e cs ∧ vs.length ≤ cap ∧ cap ≤ maxLen ∧ cs.length = cap ∧ cs.take vs.length = vs := by
  rcases h.2 with ⟨h1, h2⟩ | ⟨g, cap, cur, hv, hg, hb, h3, h4, h5, h6⟩
  · exact .inl ⟨h1, List.eq_nil_of_length_eq_zero h2⟩
  · exact .inr ⟨g, cap, cur.toList, hv, hg, by simpa [Blk] using hb, h3, h4, by simpa using h5, by simpa using h6⟩
theorem Own.mk {w : World} {B : Nat} {e : TypeId} {vs : List Value} {g cap : Nat} {cs : List Value} (hg : B ≤ g) (hb : Blk w g e cs) (h3 : vs.length ≤ cap) (h4 : cap ≤ maxLen) (h5 : cs.length = cap) (h6 : cs.take vs.length = vs) :
    Own w B e (.slice (some ⟨g, 0, none⟩) vs.length cap) vs :=
  ⟨by simp, .inr ⟨g, cap, cs.toArray, rfl, hg, by simpa [Blk] using hb, h3, h4, by simpa using h5, by simpa using h6⟩⟩
theorem Own.row {w : World} {B : Nat} {e : TypeId} {v : Value} {vs : List Value} (h : Own w B e v vs) : Row w e v vs := by
  rcases h.cases with ⟨rfl, rfl⟩ | ⟨g, cap, cs, rfl, _, hb, _, _, _, h6⟩
  · exact Row.nil _ _
  · refine .inr ⟨g, 0, cap, cs.toArray, (0, 0), rfl, hb, fun i x hx => ?_⟩
    rw [← h6, List.getElem?_take] at hx
    split at hx
    · simpa using hx
    · cases hx
theorem Own.ext {w w' : World} {B : Nat} {e : TypeId} {v : Value} {vs : List Value} (h : Own w B e v vs) (x : Ext w w') : Own w' B e v vs := by
  rcases h.cases with ⟨rfl, rfl⟩ | ⟨g, cap, cs, rfl, hg, hb, h3, h4, h5, h6⟩
  · exact Own.nil _ _ _
  · exact Own.mk hg (hb.ext x) h3 h4 h5 h6
theorem Own.grown {w w' : World} {B : Nat} {e : TypeId} {v : Value} {vs : List Value} (h : Own w B e v vs) {r : Option Nat} (hg : w.grownBy w' r) (hne : ∀ k, v.ownBlock = some k → r ≠ some k) : Own w' B e v vs := by
  rcases h.cases with ⟨rfl, rfl⟩ | ⟨g, cap, cs, rfl, hg', hb, h3, h4, h5, h6⟩
  · exact Own.nil _ _ _
  · exact Own.mk hg' (hb.grown hg (hne g rfl)) h3 h4 h5 h6
theorem Own.lt {w : World} {B : Nat} {e : TypeId} {v : Value} {vs : List Value} (h : Own w B e v vs) : ∀ k, v.ownBlock = some k → B ≤ k ∧ k < w.heap.size := by
  rcases h.cases with ⟨rfl, rfl⟩ | ⟨g, cap, cs, rfl, hg', hb, h3, h4, h5, h6⟩
  · intro k hk; cases hk
  · intro k hk
    simp [Value.ownBlock] at hk
    subst hk
    exact ⟨hg', hb.lt⟩
theorem Own.mono {w : World} {B B' : Nat} {e : TypeId} {v : Value} {vs : List Value} (h : Own w B e v vs) (hB : B' ≤ B) : Own w B' e v vs := by
  rcases h.cases with ⟨rfl, rfl⟩ | ⟨g, cap, cs, rfl, hg', hb, h3, h4, h5, h6⟩
  · exact Own.nil _ _ _
  · exact Own.mk (Nat.le_trans hB hg') hb h3 h4 h5 h6
theorem Row.owned {w w' : World} {B : Nat} {e t : TypeId} {v u : Value} {vs us : List Value} (h : Row w e v vs) (ho : Own w B t u us) (hg : w.grownBy w' u.ownBlock) (hne : t ≠ e) : Row w' e v vs := by
  rcases ho.cases with ⟨rfl, rfl⟩ | ⟨g, cap, cs, rfl, hg', hb, _⟩
  · exact h.ext (Ext.of_grown hg)
  · exact h.grown (g := g) hg hb hne
theorem Blk.owned {w w' : World} {B b : Nat} {e t : TypeId} {u : Value} {cs us : List Value} (h : Blk w b e cs) (ho : Own w B t u us) (hg : w.grownBy w' u.ownBlock) (hne : t ≠ e) : Blk w' b e cs := by
  rcases ho.cases with ⟨rfl, rfl⟩ | ⟨g, cap, cs', rfl, hg', hb, _⟩
  · exact h.ext (Ext.of_grown hg)
  · exact h.grown hg (fun e' => hb.ne h hne (by simpa [Value.ownBlock] using e'))
theorem Ext.owned {a w w' : World} {B : Nat} {t : TypeId} {u : Value} {us : List Value} (h : Ext a w) (ho : Own w B t u us) (hg : w.grownBy w' u.ownBlock) (hB : a.heap.size ≤ B) : Ext a w' :=
  h.grown hg fun k hk => Nat.le_trans hB (ho.lt k hk).1
structure One (P : Program) (t : TypeId) : Prop where
  agg : ∀ w, (isAgg t).run P w = .ok false w
  size : ∀ w, (sizeOf t).run P w = .ok 1 w
structure Agg (P : Program) (t : TypeId) (n : Nat) : Prop where
  agg : ∀ w, (isAgg t).run P w = .ok true w
  size : ∀ w, (sizeOf t).run P w = .ok n w
def Fld (P : Program) (s : TypeId) (f j : Nat) : Prop := ∀ b o w, (Instr.fieldAt s (.pointer (some ⟨b, o, none⟩)) f).run P w = .ok (.pointer (some ⟨b, o + j, none⟩)) w
structure SlT (P : Program) (t e : TypeId) (z : Value) : Prop where
  und : P.underlying t = some (.slice e)
  info : ∃ i, P.info? e = some i ∧ i.zero = some z ∧ i.size = 1 ∧ i.bytes ≤ 64
  one : z.oneCell' = true
theorem SlT.elem {P : Program} {t e : TypeId} {z : Value} (h : SlT P t e z) : P.elem t = e := by simp [Program.elem, h.und]
theorem SlT.sizeOf {P : Program} {t e : TypeId} {z : Value} (h : SlT P t e z) (w : World) : (sizeOf e).run P w = .ok 1 w := by
  obtain ⟨i, hi, _, hs, _⟩ := h.info
  simp [Go.sizeOf, typeInfo, hi, hs]
section ops
variable {P : Program} {N : Nat} {ops : Array Oper} {Q : Exit → Act → World → Prop} {rest : List Oper} {l : Slots} {w : World}
theorem St.fresh {a : Act} {d : Nat} {v : Value} (h : St N l a) (hd : look l d = none) : St N l (a.put (some d) v) := by
  refine ⟨by simp [Act.put, h.size], h.defers, fun t u hu => ?_⟩
  have hne : d ≠ t := by rintro rfl; rw [hd] at hu; cases hu
  rw [← h.slot t u hu]
  simp [Act.put, Array.getD_eq_getD_getElem?, hne]
theorem Sq.mute {o : Oper} {d : Nat} {v : Value} {w' : World} (hg : On ops l o.guard) (hd : o.dst = some d) (hl : look l d = none)
    (hrun : ∀ a, St N l a → (execOp a.eval o).run P w = .ok (.value v) w') (h : ∀ a, St N l a → a.tmps.getD d undef = v ∨ ¬ d < N → wpList P ops Q rest a w') : Sq P N ops Q (o :: rest) l w := by
  intro a ha
  refine wpList_step fun K hK => ?_
  rw [if_pos (hg.wanted ha)]
  unfold Oper.wp
  rw [hrun a ha, Oper.upon_value, hd]
  refine hK _ _ (h _ (ha.fresh hl) ?_)
  by_cases hd' : d < N
  · left
    have : d < a.tmps.size := by rw [ha.size]; exact hd'
    simp [Act.put, this]
  · exact .inr hd'
section
variable {d : Nat} {ty : TypeId} {pos : String} {after : Array Edge} {g : Option (Nat × Bool)}
theorem Sq.box {t : TypeId} {x : Operand} {cs : List Value} (hg : On ops l g) (hN : Nat.blt d N = true) (hx : ev l x = some (.agg cs.toArray))
    (h : ∀ b w', Ext w w' → Blk w' b t cs → w.heap.size ≤ b → Sq P N ops Q rest ((d, .pointer (some ⟨b, 0, none⟩)) :: l) w') :
    Sq P N ops Q (⟨some d, .box t x, ty, pos, after, g⟩ :: rest) l w :=
  .val (w' := w.alloc (.cells cs.toArray t)) hg rfl hN (fun a ha => by simp [execOp, Instr.box, newVar, newRow, ha.ev hx, Value.cells])
    (h _ _ (Ext.alloc _ _) (Blk.new _ _ _) (Nat.le_refl _))
theorem Still.fieldAddr {s f j b o : Nat} {x : Operand} (hf : Fld P s f j) (hx : ev l x = some (.pointer (some ⟨b, o, none⟩))) : Still P N l ⟨some d, .fieldAddr s x f, ty, pos, after, g⟩ (.pointer (some ⟨b, o + j, none⟩)) w := fun a ha => by simp [execOp, ha.ev hx, hf b o w]
theorem Sq.fieldAddr {s f j b o : Nat} {x : Operand} (hf : Fld P s f j) (hg : On ops l g) (hN : Nat.blt d N = true) (hx : ev l x = some (.pointer (some ⟨b, o, none⟩))) (h : Sq P N ops Q rest ((d, .pointer (some ⟨b, o + j, none⟩)) :: l) w) : Sq P N ops Q (⟨some d, .fieldAddr s x f, ty, pos, after, g⟩ :: rest) l w := .val hg rfl hN (Still.fieldAddr hf hx) h
theorem run_load1 {t : TypeId} (h1 : One P t) {b o : Nat} {v : Value} (hc : w.cell? ⟨b, o, none⟩ = some v) : (Instr.loadAt t (.pointer (some ⟨b, o, none⟩))).run P w = .ok v w := by
  simp [Instr.loadAt, Instr.sureAddr, loadVar, h1.agg, hc]
theorem Still.load {t : TypeId} {b o : Nat} {x : Operand} {v : Value} (h1 : One P t) (hx : ev l x = some (.pointer (some ⟨b, o, none⟩))) (hc : w.cell? ⟨b, o, none⟩ = some v) : Still P N l ⟨some d, .load t x, ty, pos, after, g⟩ (v) w := fun a ha => by simp [execOp, ha.ev hx, run_load1 h1 hc]
theorem Sq.load {t : TypeId} {b o : Nat} {x : Operand} {v : Value} (h1 : One P t) (hg : On ops l g) (hN : Nat.blt d N = true) (hx : ev l x = some (.pointer (some ⟨b, o, none⟩))) (hc : w.cell? ⟨b, o, none⟩ = some v) (h : Sq P N ops Q rest ((d, v) :: l) w) : Sq P N ops Q (⟨some d, .load t x, ty, pos, after, g⟩ :: rest) l w := .val hg rfl hN (Still.load h1 hx hc) h
theorem Sq.loadB {t u : TypeId} {b o : Nat} {x : Operand} {v : Value} {cs : List Value} (h1 : One P t) (hg : On ops l g) (hN : Nat.blt d N = true) (hx : ev l x = some (.pointer (some ⟨b, o, none⟩)))
    (hb : Blk w b u cs) (hc : cs[o]? = some v) (h : Sq P N ops Q rest ((d, v) :: l) w) : Sq P N ops Q (⟨some d, .load t x, ty, pos, after, g⟩ :: rest) l w :=
  .load h1 hg hN hx (by rw [hb.cell, hc]) h
theorem Still.loadAgg {t u : TypeId} {b n : Nat} {x : Operand} {cs : List Value} (h1 : Agg P t n) (hx : ev l x = some (.pointer (some ⟨b, 0, none⟩))) (hb : Blk w b u cs) (hn : cs.length = n) : Still P N l ⟨some d, .load t x, ty, pos, after, g⟩ (.agg cs.toArray) w := fun a ha => by
    have hl : (loadCells ⟨b, 0, none⟩ n).run P w = .ok cs.toArray w := by
      rw [← hn]
      refine run_loadCells_list _ _ _ fun j v hv => ?_
      rw [addr_add, hb.cell]
      simpa using hv
    simp [execOp, ha.ev hx, Instr.loadAt, Instr.sureAddr, loadVar, h1.agg, h1.size, hl]
theorem Sq.loadAgg {t u : TypeId} {b n : Nat} {x : Operand} {cs : List Value} (h1 : Agg P t n) (hg : On ops l g) (hN : Nat.blt d N = true) (hx : ev l x = some (.pointer (some ⟨b, 0, none⟩))) (hb : Blk w b u cs) (hn : cs.length = n) (h : Sq P N ops Q rest ((d, .agg cs.toArray) :: l) w) : Sq P N ops Q (⟨some d, .load t x, ty, pos, after, g⟩ :: rest) l w := .val hg rfl hN (Still.loadAgg h1 hx hb hn) h
theorem Sq.store {t u : TypeId} {b o : Nat} {x y : Operand} {v : Value} {cs : List Value} (h1 : One P t) (hg : On ops l g) (hx : ev l x = some (.pointer (some ⟨b, o, none⟩))) (hy : ev l y = some v) (hv : v.oneCell' = true)
    (hb : Blk w b u cs) (ho : o < cs.length)
    (h : ∀ w', w.grownBy w' (some b) → Blk w' b u (cs.set o v) → Sq P N ops Q rest l w') : Sq P N ops Q (⟨none, .store t x y, ty, pos, after, g⟩ :: rest) l w :=
  .unit (w' := w.setCell ⟨b, o, none⟩ v) hg rfl (fun a ha => by
    have hc : v.cells = #[v] := by cases v <;> simp_all [Value.cells, Value.oneCell']
    have h2 := hb.cell o
    rw [List.getElem?_eq_getElem ho] at h2
    simp [execOp, ha.ev hx, ha.ev hy, Instr.storeAt, Instr.sureAddr, storeVar, hc, h1.size, storeCells, addr_add, run_store _ _ _ _ _ hv, h2, hb.free])
    (h _ (grown_setCell _ _ _ _) (hb.set _ _))
theorem storeCells_all (b t : Nat) : ∀ (vs : List Value) (i : Nat) (w : World) (cs : List Value), Blk w b t cs → i + vs.length ≤ cs.length → (∀ v ∈ vs, v.oneCell' = true) →
    ∃ w', (storeCells ⟨b, 0, none⟩ vs i).run P w = .ok () w' ∧ w.grownBy w' (some b) ∧ Blk w' b t (cs.take i ++ vs ++ cs.drop (i + vs.length)) := by
  intro vs
  induction vs with
  | nil => intro i w cs hb hi _; exact ⟨w, by simp [storeCells], World.grownBy.refl _ _, by simpa using hb⟩
  | cons v r ih =>
    intro i w cs hb hi h1
    simp only [List.length_cons] at hi
    have hlt : i < cs.length := by omega
    have h2 := hb.cell i
    rw [List.getElem?_eq_getElem hlt] at h2
    obtain ⟨w', hr, hg, hb'⟩ := ih (i + 1) (w.setCell ⟨b, i, none⟩ v) (cs.set i v) (hb.set i v) (by simp; omega) (fun u hu => h1 u (List.mem_cons_of_mem _ hu))
    refine ⟨w', ?_, grown_trans (grown_setCell _ _ _ _) hg, ?_⟩
    · simp [storeCells, addr_add, run_store _ _ _ _ _ (h1 v (List.mem_cons_self ..)), h2, hb.free, hr]
    · have e : (cs.set i v).take (i + 1) ++ r ++ (cs.set i v).drop (i + 1 + r.length) = cs.take i ++ v :: r ++ cs.drop (i + (r.length + 1)) := by
        have h3 : (cs.set i v).take (i + 1) = cs.take i ++ [v] := by
          rw [List.take_succ_eq_append_getElem (by simpa using hlt)]
          simp [List.take_set_of_le (Nat.le_refl i)]
        have h4 : (cs.set i v).drop (i + 1 + r.length) = cs.drop (i + (r.length + 1)) := by
          rw [List.drop_set_of_lt (by omega)]
          congr 1
          omega
        rw [h3, h4]
        simp
      rw [e] at hb'
      exact hb'
theorem Sq.storeAgg {t u : TypeId} {b n : Nat} {x y : Operand} {vs cs : List Value} (h1 : Agg P t n) (hg : On ops l g) (hx : ev l x = some (.pointer (some ⟨b, 0, none⟩))) (hy : ev l y = some (.agg vs.toArray)) (hv : ∀ v ∈ vs, v.oneCell' = true)
    (hb : Blk w b u cs) (hn : vs.length = n) (hm : cs.length = n)
    (h : ∀ w', w.grownBy w' (some b) → Blk w' b u vs → Sq P N ops Q rest l w') : Sq P N ops Q (⟨none, .store t x y, ty, pos, after, g⟩ :: rest) l w := by
  obtain ⟨w', hr, hgr, hb'⟩ := storeCells_all (P := P) b u vs 0 w cs hb (by omega) hv
  refine .unit (w' := w') hg rfl (fun a ha => ?_) (h w' hgr ?_)
  · simp [execOp, ha.ev hx, ha.ev hy, Instr.storeAt, Instr.sureAddr, storeVar, h1.size, Value.cells, hn, hr]
  · have : cs.drop vs.length = [] := List.drop_eq_nil_of_le (by omega)
    simpa [this] using hb'
theorem Sq.alloc {t : TypeId} {zs : List Value} (hz : ∀ w, (zeroValue t).run P w = .ok (.agg zs.toArray) w) (hg : On ops l g) (hN : Nat.blt d N = true)
    (h : ∀ b w', Ext w w' → Blk w' b t zs → w.heap.size ≤ b → Sq P N ops Q rest ((d, .pointer (some ⟨b, 0, none⟩)) :: l) w') :
    Sq P N ops Q (⟨some d, .alloc t, ty, pos, after, g⟩ :: rest) l w :=
  .val (w' := w.alloc (.cells zs.toArray t)) hg rfl hN (fun a ha => by simp [execOp, Instr.alloc, newVar, newRow, hz, Value.cells])
    (h _ _ (Ext.alloc _ _) (Blk.new _ _ _) (Nat.le_refl _))
theorem Sq.alloc1 {t : TypeId} {z : Value} (hz : ∀ w, (zeroValue t).run P w = .ok z w) (h1 : z.oneCell' = true) (hg : On ops l g) (hN : Nat.blt d N = true)
    (h : ∀ b w', Ext w w' → Blk w' b t [z] → w.heap.size ≤ b → Sq P N ops Q rest ((d, .pointer (some ⟨b, 0, none⟩)) :: l) w') :
    Sq P N ops Q (⟨some d, .alloc t, ty, pos, after, g⟩ :: rest) l w :=
  .val (w' := w.alloc (.cells [z].toArray t)) hg rfl hN (fun a ha => by
    have : z.cells = #[z] := by cases z <;> simp_all [Value.cells, Value.oneCell']
    simp [execOp, Instr.alloc, newVar, newRow, hz, this])
    (h _ _ (Ext.alloc _ _) (Blk.new _ _ _) (Nat.le_refl _))
theorem Still.len {t : TypeId} {x : Operand} {p : Option Addr} {n c : Nat} (ht : P.underlying t = some (.slice (P.elem t))) (hx : ev l x = some (.slice p n c)) : Still P N l ⟨some d, .call ⟨.builtin .len, #[x], #[t]⟩, ty, pos, after, g⟩ (.int .i64 n) w := fun a ha => by
    rw [BigFrame.execOp_builtin, BigFrame.builtin_len]
    simp only [List.map_toArray, List.map_cons, List.map_nil, ha.ev hx, Sem.run_bind, run_len_slice w t ty p n c ht, Result.andThen, Sem.run_pure]; rfl
theorem Sq.len {t : TypeId} {x : Operand} {p : Option Addr} {n c : Nat} (hg : On ops l g) (hN : Nat.blt d N = true) (ht : P.underlying t = some (.slice (P.elem t))) (hx : ev l x = some (.slice p n c)) (h : Sq P N ops Q rest ((d, .int .i64 n) :: l) w) : Sq P N ops Q (⟨some d, .call ⟨.builtin .len, #[x], #[t]⟩, ty, pos, after, g⟩ :: rest) l w := .val hg rfl hN (Still.len ht hx) h
theorem Sq.lenRow {t e : TypeId} {x : Operand} {v : Value} {vs : List Value} (hr : Row w e v vs) (hg : On ops l g) (hN : Nat.blt d N = true) (ht : P.underlying t = some (.slice (P.elem t))) (hx : ev l x = some v)
    (h : Sq P N ops Q rest ((d, .int .i64 vs.length) :: l) w) : Sq P N ops Q (⟨some d, .call ⟨.builtin .len, #[x], #[t]⟩, ty, pos, after, g⟩ :: rest) l w := by
  obtain ⟨p, c, rfl⟩ := hr.shape
  exact .len hg hN ht hx h
theorem Sq.idx {t e0 e lt : TypeId} {z : Value} {x ix : Operand} {v u : Value} {vs : List Value} {k : IntKind} {i : Int} {d2 : Nat} {ty2 : TypeId} {pos2 : String} {after2 : Array Edge} {g2 : Option (Nat × Bool)}
    (hs : SlT P t e0 z) (h1 : One P lt) (hr : Row w e v vs) (hg : On ops l g) (hN : Nat.blt d N = true) (hN2 : Nat.blt d2 N = true) (hd : look l d = none) (hg2 : On ops l g2) (hx : ev l x = some v) (hix : ev l ix = some (.int k i)) (hi : 0 ≤ i)
    (hu : vs[i.toNat]? = some u) (h : Sq P N ops Q rest ((d2, u) :: l) w) :
    Sq P N ops Q (⟨some d, .indexAddr t x ix, ty, pos, after, g⟩ :: ⟨some d2, .load lt (.tmp d), ty2, pos2, after2, g2⟩ :: rest) l w := by
  have hlt : i.toNat < vs.length := by
    rcases Nat.lt_or_ge i.toNat vs.length with h | h
    · exact h
    · rw [List.getElem?_eq_none h] at hu; cases hu
  rcases hr with ⟨rfl, _⟩ | ⟨b, o, c, cur, fr, rfl, hb, hc⟩
  · cases hu
  · have hcell : w.cell? ⟨b, o + i.toNat, none⟩ = some u := by simp [World.cell?, hb, hc _ _ hu]
    have hd' : d < N := Nat.lt_of_lt_of_le (Nat.lt_succ_self d) (Nat.le_of_ble_eq_true hN)
    refine .mute (w' := w) (v := .pointer (some ⟨b, o + i.toNat, none⟩)) hg rfl hd (fun a ha => ?_) fun a ha hva => ?_
    · have := run_indexAt_slice (P := P) (w := w) t ⟨b, o, none⟩ vs.length c k i (by rw [hs.elem]; exact hs.und)
      have hi' : 0 ≤ i ∧ i < (vs.length : Int) := ⟨hi, by omega⟩
      rw [hs.elem, hs.sizeOf] at this
      simp [execOp, ha.ev hx, ha.ev hix, this, hi', addr_add]
    · have hva' := hva.resolve_right (by omega)
      have hst : St N l a := ha
      refine wpList_step fun K hK => ?_
      rw [if_pos (hg2.wanted hst)]
      unfold Oper.wp
      have hev : a.eval (.tmp d) = .pointer (some ⟨b, o + i.toNat, none⟩) := hva'
      have : (execOp a.eval ⟨some d2, .load lt (.tmp d), ty2, pos2, after2, g2⟩).run P w = .ok (.value u) w := by
        simp [execOp, hev, run_load1 h1 hcell]
      rw [this, Oper.upon_value]
      exact hK _ _ (h _ (hst.put hN2))
end
end ops
end Go.Proofs.YtnckpafknojdhaaDoor
set_option linter.unusedSimpArgs false
set_option linter.unusedVariables false
namespace Go.Proofs.YtnckpafknojdhaaDoor
open Go.RowKit
def hs (s n : Int) : Bool := decide (0 ≤ n) && s.toNat.testBit n.toNat
theorem hs_shift (s n : Int) (h0 : 0 ≤ s) (h1 : s ≤ 9223372036854775807) (hn : 0 ≤ n) : decide (s / 2 ^ (min n.toNat 64) % 2 = 1) = hs s n := by
  obtain ⟨m, rfl⟩ := Int.eq_ofNat_of_zero_le h0
  simp only [hs, decide_eq_true hn, Bool.true_and, Int.toNat_natCast, Nat.testBit_eq_decide_div_mod_eq]
  rw [decide_eq_decide]
  have e : ((m : Int) / 2 ^ (min n.toNat 64) % 2 = 1) ↔ m / 2 ^ (min n.toNat 64) % 2 = 1 := by
    constructor
    · intro h; exact_mod_cast h
    · intro h; exact_mod_cast h
  rw [e]
  rcases Nat.le_total n.toNat 64 with h | h
  · rw [Nat.min_eq_left h]
  · rw [Nat.min_eq_right h]
    have h64 : m < 2 ^ 64 := by omega
    have hp : 2 ^ 64 ≤ 2 ^ n.toNat := Nat.pow_le_pow_right (by omega) h
    rw [Nat.div_eq_of_lt h64, Nat.div_eq_of_lt (by omega)]
theorem shr_ok {s : Int} {k : Nat} (h : 0 ≤ s ∧ s ≤ 9223372036854775807) : 0 ≤ s / 2 ^ k ∧ s / 2 ^ k ≤ 9223372036854775807 := by
  have hp : (0 : Int) < 2 ^ k := Int.pow_pos (by decide)
  exact ⟨Int.ediv_nonneg h.1 (Int.le_of_lt hp), Int.le_trans (Int.ediv_le_self _ h.1) h.2⟩
section ops
variable {P : Program} {N : Nat} {ops : Array Oper} {Q : Exit → Act → World → Prop} {rest : List Oper} {l : Slots} {w : World}
variable {d : Nat} {ty : TypeId} {pos : String} {after : Array Edge} {g : Option (Nat × Bool)}
theorem Still.shr {xt yt : TypeId} {x y : Operand} {m n : Int} {k : IntKind} (hx : ev l x = some (.int .i64 m)) (hy : ev l y = some (.int k n)) (hb : 0 ≤ n) : Still P N l ⟨some d, .binOp .shr xt x y yt, ty, pos, after, g⟩ (.int .i64 (m / 2 ^ (min n.toNat 64))) w := fun a ha => by
    have h1 : ¬ n < 0 := by omega
    have h2 : m.fdiv (2 ^ (min n.toNat 64)) = m / 2 ^ (min n.toNat 64) := Int.fdiv_eq_ediv_of_nonneg m (by
      have : (0 : Int) < 2 ^ (min n.toNat 64) := Int.pow_pos (by decide)
      omega)
    have h3 : eqGuard .shr xt x y (.int .i64 m) (.int k n) = pure () := rfl
    have h4 : binOp .shr xt (.int .i64 m) (.int k n) = Op.shift .shr .i64 m k n := rfl
    simp only [execOp, ha.ev hx, ha.ev hy, h3, h4, Op.shift, if_neg h1, IntKind.bits]
    simp [h2]
theorem Sq.shr {xt yt : TypeId} {x y : Operand} {m n : Int} {k : IntKind} (hg : On ops l g) (hN : Nat.blt d N = true) (hx : ev l x = some (.int .i64 m)) (hy : ev l y = some (.int k n)) (hb : 0 ≤ n) (h : Sq P N ops Q rest ((d, .int .i64 (m / 2 ^ (min n.toNat 64))) :: l) w) : Sq P N ops Q (⟨some d, .binOp .shr xt x y yt, ty, pos, after, g⟩ :: rest) l w := .val hg rfl hN (Still.shr hx hy hb) h
theorem Still.shl {xt yt : TypeId} {x y : Operand} {m n : Int} {k : IntKind} (hx : ev l x = some (.int .i64 m)) (hy : ev l y = some (.int k n)) (hb : 0 ≤ m ∧ m ≤ 1 ∧ 0 ≤ n ∧ n ≤ 60) : Still P N l ⟨some d, .binOp .shl xt x y yt, ty, pos, after, g⟩ (.int .i64 (m * 2 ^ n.toNat)) w := fun a ha => by
    have h1 : ¬ n < 0 := by omega
    have h2 : min n.toNat 64 = n.toNat := by omega
    have h3 : (2 : Int) ^ n.toNat ≤ 2 ^ 60 := by exact_mod_cast Nat.pow_le_pow_right (by omega : 0 < 2) (by omega : n.toNat ≤ 60)
    have h4 : (0 : Int) < 2 ^ n.toNat := Int.pow_pos (by decide)
    have h5 : m = 0 ∨ m = 1 := by omega
    have h6 : IntKind.i64.wrap (m * 2 ^ n.toNat) = m * 2 ^ n.toNat := IntWalk.i64_in _ (by rcases h5 with rfl | rfl <;> omega)
    have h7 : eqGuard .shl xt x y (.int .i64 m) (.int k n) = pure () := rfl
    have h8 : binOp .shl xt (.int .i64 m) (.int k n) = Op.shift .shl .i64 m k n := rfl
    simp only [execOp, ha.ev hx, ha.ev hy, h7, h8, Op.shift, if_neg h1, IntKind.bits, h2]
    simp [h6]
theorem Sq.shl {xt yt : TypeId} {x y : Operand} {m n : Int} {k : IntKind} (hg : On ops l g) (hN : Nat.blt d N = true) (hx : ev l x = some (.int .i64 m)) (hy : ev l y = some (.int k n)) (hb : 0 ≤ m ∧ m ≤ 1 ∧ 0 ≤ n ∧ n ≤ 60) (h : Sq P N ops Q rest ((d, .int .i64 (m * 2 ^ n.toNat)) :: l) w) : Sq P N ops Q (⟨some d, .binOp .shl xt x y yt, ty, pos, after, g⟩ :: rest) l w := .val hg rfl hN (Still.shl hx hy hb) h
theorem bits_nat (f : ∀ k : Nat, BitVec k → BitVec k → BitVec k) (F : Nat → Nat → Nat) (hf : ∀ a b : Nat, a < 2 ^ 63 → b < 2 ^ 63 → (f 64 (BitVec.ofNat 64 a) (BitVec.ofNat 64 b)).toNat = F a b) (hF : ∀ a b : Nat, a < 2 ^ 63 → b < 2 ^ 63 → F a b < 2 ^ 63)
    (m n : Int) (h : 0 ≤ m ∧ m ≤ 9223372036854775807 ∧ 0 ≤ n ∧ n ≤ 9223372036854775807) :
    IntKind.i64.wrap ((f 64 (BitVec.ofInt 64 m) (BitVec.ofInt 64 n)).toNat : Int) = (F m.toNat n.toNat : Nat) := by
  obtain ⟨a, rfl⟩ := Int.eq_ofNat_of_zero_le h.1
  obtain ⟨b, rfl⟩ := Int.eq_ofNat_of_zero_le h.2.2.1
  have ha : a < 2 ^ 63 := by omega
  have hb : b < 2 ^ 63 := by omega
  rw [BitVec.ofInt_natCast, BitVec.ofInt_natCast, hf a b ha hb]
  have := hF a b ha hb
  rw [IntWalk.i64_in _ (by omega)]
  simp
theorem Still.and {xt yt : TypeId} {x y : Operand} {m n : Int} (hx : ev l x = some (.int .i64 m)) (hy : ev l y = some (.int .i64 n)) (hb : 0 ≤ m ∧ m ≤ 9223372036854775807 ∧ 0 ≤ n ∧ n ≤ 9223372036854775807) : Still P N l ⟨some d, .binOp .and xt x y yt, ty, pos, after, g⟩ (.int .i64 ((m.toNat &&& n.toNat : Nat) : Int)) w := fun a ha => by
    have := bits_nat (fun _ a b => a &&& b) (fun a b => a &&& b) (fun a b ha hb => by simp [Nat.mod_eq_of_lt (show a < 18446744073709551616 by omega), Nat.mod_eq_of_lt (show b < 18446744073709551616 by omega)])
      (fun a b ha hb => Nat.and_lt_two_pow _ hb) m n hb
    simp only [execOp, eqGuard, binOp, Op.intBits, ha.ev hx, ha.ev hy]
    simp
    exact this
theorem Sq.and {xt yt : TypeId} {x y : Operand} {m n : Int} (hg : On ops l g) (hN : Nat.blt d N = true) (hx : ev l x = some (.int .i64 m)) (hy : ev l y = some (.int .i64 n)) (hb : 0 ≤ m ∧ m ≤ 9223372036854775807 ∧ 0 ≤ n ∧ n ≤ 9223372036854775807) (h : Sq P N ops Q rest ((d, .int .i64 ((m.toNat &&& n.toNat : Nat) : Int)) :: l) w) : Sq P N ops Q (⟨some d, .binOp .and xt x y yt, ty, pos, after, g⟩ :: rest) l w := .val hg rfl hN (Still.and hx hy hb) h
theorem Still.or {xt yt : TypeId} {x y : Operand} {m n : Int} (hx : ev l x = some (.int .i64 m)) (hy : ev l y = some (.int .i64 n)) (hb : 0 ≤ m ∧ m ≤ 9223372036854775807 ∧ 0 ≤ n ∧ n ≤ 9223372036854775807) : Still P N l ⟨some d, .binOp .or xt x y yt, ty, pos, after, g⟩ (.int .i64 ((m.toNat ||| n.toNat : Nat) : Int)) w := fun a ha => by
    have := bits_nat (fun _ a b => a ||| b) (fun a b => a ||| b) (fun a b ha hb => by simp [Nat.mod_eq_of_lt (show a < 18446744073709551616 by omega), Nat.mod_eq_of_lt (show b < 18446744073709551616 by omega)])
      (fun a b ha hb => Nat.or_lt_two_pow ha hb) m n hb
    simp only [execOp, eqGuard, binOp, Op.intBits, ha.ev hx, ha.ev hy]
    simp
    exact this
theorem Sq.or {xt yt : TypeId} {x y : Operand} {m n : Int} (hg : On ops l g) (hN : Nat.blt d N = true) (hx : ev l x = some (.int .i64 m)) (hy : ev l y = some (.int .i64 n)) (hb : 0 ≤ m ∧ m ≤ 9223372036854775807 ∧ 0 ≤ n ∧ n ≤ 9223372036854775807) (h : Sq P N ops Q rest ((d, .int .i64 ((m.toNat ||| n.toNat : Nat) : Int)) :: l) w) : Sq P N ops Q (⟨some d, .binOp .or xt x y yt, ty, pos, after, g⟩ :: rest) l w := .val hg rfl hN (Still.or hx hy hb) h
theorem Still.xor {xt yt : TypeId} {x y : Operand} {m n : Int} (hx : ev l x = some (.int .i64 m)) (hy : ev l y = some (.int .i64 n)) (hb : 0 ≤ m ∧ m ≤ 9223372036854775807 ∧ 0 ≤ n ∧ n ≤ 9223372036854775807) : Still P N l ⟨some d, .binOp .xor xt x y yt, ty, pos, after, g⟩ (.int .i64 ((m.toNat ^^^ n.toNat : Nat) : Int)) w := fun a ha => by
    have := bits_nat (fun _ a b => a ^^^ b) (fun a b => a ^^^ b) (fun a b ha hb => by simp [Nat.mod_eq_of_lt (show a < 18446744073709551616 by omega), Nat.mod_eq_of_lt (show b < 18446744073709551616 by omega)])
      (fun a b ha hb => Nat.xor_lt_two_pow ha hb) m n hb
    simp only [execOp, eqGuard, binOp, Op.intBits, ha.ev hx, ha.ev hy]
    simp
    exact this
theorem Sq.xor {xt yt : TypeId} {x y : Operand} {m n : Int} (hg : On ops l g) (hN : Nat.blt d N = true) (hx : ev l x = some (.int .i64 m)) (hy : ev l y = some (.int .i64 n)) (hb : 0 ≤ m ∧ m ≤ 9223372036854775807 ∧ 0 ≤ n ∧ n ≤ 9223372036854775807) (h : Sq P N ops Q rest ((d, .int .i64 ((m.toNat ^^^ n.toNat : Nat) : Int)) :: l) w) : Sq P N ops Q (⟨some d, .binOp .xor xt x y yt, ty, pos, after, g⟩ :: rest) l w := .val hg rfl hN (Still.xor hx hy hb) h
theorem Sq.and1 {xt yt : TypeId} {x : Operand} {m : Int} (hg : On ops l g) (hN : Nat.blt d N = true) (hx : ev l x = some (.int .i64 m))
    (hb : 0 ≤ m ∧ m ≤ 9223372036854775807) (h : Sq P N ops Q rest ((d, .int .i64 (m % 2)) :: l) w) :
    Sq P N ops Q (⟨some d, .binOp .and xt x (.const (.int .i64 1)) yt, ty, pos, after, g⟩ :: rest) l w := by
  refine Sq.and hg hN hx (n := 1) rfl (by omega) ?_
  have e : ((m.toNat &&& (1 : Int).toNat : Nat) : Int) = m % 2 := by
    show ((m.toNat &&& 1 : Nat) : Int) = m % 2
    rw [Nat.and_one_is_mod]
    omega
  rw [e]
  exact h
def Cnv (P : Program) (s t : TypeId) (k : IntKind) : Prop := ∀ (j : IntKind) (n : Int) w, (convert s t (.int j n)).run P w = .ok (.int k (k.wrap n)) w
theorem Cnv.of {s t : TypeId} {k : IntKind} (hs : (P.underlying s).isSome = true) (hd : P.underlying t = some (.int k)) : Cnv P s t k := by
  intro j n w
  obtain ⟨d, hd'⟩ := Option.isSome_iff_exists.mp hs
  simp [convert, run_underlying hd', run_underlying hd, Conv.intToInt]
theorem Still.conv {s t : TypeId} {x : Operand} {j : IntKind} {n : Int} (hc : Cnv P s t .i64) (hx : ev l x = some (.int j n)) (hb : -9223372036854775808 ≤ n ∧ n ≤ 9223372036854775807) : Still P N l ⟨some d, .convert s t x, ty, pos, after, g⟩ (.int .i64 n) w := fun a ha => by simp [execOp, ha.ev hx, hc j n w, IntWalk.i64_in _ hb]
theorem Sq.conv {s t : TypeId} {x : Operand} {j : IntKind} {n : Int} (hc : Cnv P s t .i64) (hg : On ops l g) (hN : Nat.blt d N = true) (hx : ev l x = some (.int j n)) (hb : -9223372036854775808 ≤ n ∧ n ≤ 9223372036854775807) (h : Sq P N ops Q rest ((d, .int .i64 n) :: l) w) : Sq P N ops Q (⟨some d, .convert s t x, ty, pos, after, g⟩ :: rest) l w := .val hg rfl hN (Still.conv hc hx hb) h
theorem Still.convU {s t : TypeId} {x : Operand} {j : IntKind} {n : Int} (hc : Cnv P s t .u64) (hx : ev l x = some (.int j n)) (hb : 0 ≤ n ∧ n ≤ 18446744073709551615) : Still P N l ⟨some d, .convert s t x, ty, pos, after, g⟩ (.int .u64 n) w := fun a ha => by simp [execOp, ha.ev hx, hc j n w, IntWalk.u64_in _ hb]
theorem Sq.convU {s t : TypeId} {x : Operand} {j : IntKind} {n : Int} (hc : Cnv P s t .u64) (hg : On ops l g) (hN : Nat.blt d N = true) (hx : ev l x = some (.int j n)) (hb : 0 ≤ n ∧ n ≤ 18446744073709551615) (h : Sq P N ops Q rest ((d, .int .u64 n) :: l) w) : Sq P N ops Q (⟨some d, .convert s t x, ty, pos, after, g⟩ :: rest) l w := .val hg rfl hN (Still.convU hc hx hb) h
theorem Still.neqB {xt yt : TypeId} {x y : Operand} {b c : Bool} (ht : P.underlying xt = some .bool) (hx : ev l x = some (.bool b)) (hy : ev l y = some (.bool c)) : Still P N l ⟨some d, .binOp .neq xt x y yt, ty, pos, after, g⟩ (.bool (b != c)) w := fun a ha => by simp [execOp, ha.ev hx, ha.ev hy, eqGuard, binOp, run_equal_bool w xt b c ht, bne]
theorem Sq.neqB {xt yt : TypeId} {x y : Operand} {b c : Bool} (ht : P.underlying xt = some .bool) (hg : On ops l g) (hN : Nat.blt d N = true) (hx : ev l x = some (.bool b)) (hy : ev l y = some (.bool c)) (h : Sq P N ops Q rest ((d, .bool (b != c)) :: l) w) : Sq P N ops Q (⟨some d, .binOp .neq xt x y yt, ty, pos, after, g⟩ :: rest) l w := .val hg rfl hN (Still.neqB ht hx hy) h
theorem Still.cat {xt yt : TypeId} {x y : Operand} {s t : ByteArray} (hx : ev l x = some (.string s)) (hy : ev l y = some (.string t)) (hb : s.size + t.size ≤ 9223372036854775807) : Still P N l ⟨some d, .binOp .add xt x y yt, ty, pos, after, g⟩ (.string (s ++ t)) w := fun a ha => by simp [execOp, ha.ev hx, ha.ev hy, eqGuard, binOp_string_add, run_string_add_sum (P := P) (w := w) s t hb]
theorem Sq.cat {xt yt : TypeId} {x y : Operand} {s t : ByteArray} (hg : On ops l g) (hN : Nat.blt d N = true) (hx : ev l x = some (.string s)) (hy : ev l y = some (.string t)) (hb : s.size + t.size ≤ 9223372036854775807) (h : Sq P N ops Q rest ((d, .string (s ++ t)) :: l) w) : Sq P N ops Q (⟨some d, .binOp .add xt x y yt, ty, pos, after, g⟩ :: rest) l w := .val hg rfl hN (Still.cat hx hy hb) h
def StT (P : Program) (t : TypeId) (n : Nat) (zs : List Value) : Prop := ∀ parts w, (Instr.build t parts).run P w =
  (match Instr.fill (((List.range n).map fun i => (i, 1)).toArray[·]?) zs.toArray parts.toList with
   | some cells => (pure (.agg cells) : Sem Value)
   | none => stuck "build: no such field, or a part of the wrong size").run P w
def fieldsOf (P : Program) (t : TypeId) : Array Field := match P.underlying t with | some (.struct fs) => fs | _ => #[]
theorem StT.of {t : TypeId} {n : Nat} {zs : List Value} (h1 : P.underlying t = some (.struct (fieldsOf P t))) (h2 : ∀ w, ((fieldsOf P t).mapM fun f => do pure (f.offset, ← sizeOf f.type) : Sem _).run P w = .ok ((List.range n).map fun i => (i, 1)).toArray w)
    (h3 : ∀ w, (zeroValue t).run P w = .ok (.agg zs.toArray) w) : StT P t n zs := by
  intro parts w
  simp only [Instr.build, Sem.run_bind, h3, Result.andThen, run_underlying h1, h2, Value.cells]
  generalize Instr.fill _ zs.toArray parts.toList = r
  cases r <;> rfl
theorem fill_ones (n : Nat) : ∀ (parts : List (Nat × Value)) (cs : List Value), cs.length = n → (∀ p ∈ parts, p.1 < n ∧ p.2.oneCell' = true) →
    Instr.fill (((List.range n).map fun i => (i, 1)).toArray[·]?) cs.toArray parts = some (parts.foldl (fun cs p => cs.set p.1 p.2) cs).toArray := by
  intro parts
  induction parts with
  | nil => intro cs _ _; simp [Instr.fill]
  | cons p r ih =>
    intro cs hn h
    obtain ⟨i, v⟩ := p
    obtain ⟨h1, h2⟩ := h _ (List.mem_cons_self ..)
    simp only at h1 h2
    have hv : v.cells = #[v] := by cases v <;> simp_all [Value.cells, Value.oneCell']
    have hp : (((List.range n).map fun i => (i, 1)).toArray[i]?) = some (i, 1) := by simp [h1]
    have hlt : ¬ cs.length < i + 1 := by omega
    have := ih (cs.set i v) (by simpa using hn) (fun p hp => h p (List.mem_cons_of_mem _ hp))
    simp only [Instr.fill, hp, hv]
    simpa [hlt] using this
theorem Still.build {t : TypeId} {n : Nat} {zs : List Value} {parts : List (Nat × Operand)} {vs cs : List Value} (hs : StT P t n zs) (hz : zs.length = n) (hp : (parts.map (·.1)).all (Nat.blt · n) = true) (hx : (evs l (parts.map (·.2))) = some vs) (h1 : ∀ v ∈ vs, v.oneCell' = true) (hv : ((parts.map (·.1)).zip vs).foldl (fun cs p => cs.set p.1 p.2) zs = cs) : Still P N l ⟨some d, .build t parts.toArray, ty, pos, after, g⟩ (.agg cs.toArray) w := fun a ha => by
    have e : (parts.toArray.map fun (i, x) => (i, a.eval x)) = ((parts.map (·.1)).zip vs).toArray := by
      rw [← ha.evs hx]
      simp [List.zip_map', List.map_map]
    have hb : ∀ p ∈ (parts.map (·.1)).zip vs, p.1 < n ∧ p.2.oneCell' = true := by
      rintro ⟨i, v⟩ hm
      have hm1 := (List.of_mem_zip hm).1
      have hm2 := (List.of_mem_zip hm).2
      exact ⟨Nat.lt_of_lt_of_le (Nat.lt_succ_self _) (Nat.le_of_ble_eq_true (List.all_eq_true.1 hp _ hm1)), h1 _ hm2⟩
    have hf := fill_ones n ((parts.map (·.1)).zip vs) zs hz hb
    rw [hv] at hf
    have hr := hs ((parts.map (·.1)).zip vs).toArray w
    rw [List.toList_toArray, hf] at hr
    simp only [execOp]
    rw [e]
    simp [hr]
theorem Sq.build {t : TypeId} {n : Nat} {zs : List Value} {parts : List (Nat × Operand)} {vs cs : List Value} (hs : StT P t n zs) (hz : zs.length = n) (hp : (parts.map (·.1)).all (Nat.blt · n) = true) (hg : On ops l g) (hN : Nat.blt d N = true) (hx : (evs l (parts.map (·.2))) = some vs) (h1 : ∀ v ∈ vs, v.oneCell' = true) (hv : ((parts.map (·.1)).zip vs).foldl (fun cs p => cs.set p.1 p.2) zs = cs) (h : Sq P N ops Q rest ((d, .agg cs.toArray) :: l) w) : Sq P N ops Q (⟨some d, .build t parts.toArray, ty, pos, after, g⟩ :: rest) l w := .val hg rfl hN (Still.build hs hz hp hx h1 hv) h
end ops
def Ints (w : World) (e : TypeId) (v : Value) (xs : List Int) : Prop := Row w e v (xs.map (Value.int .i64))
def Bools (w : World) (e : TypeId) (v : Value) (xs : List Bool) : Prop := Row w e v (xs.map Value.bool)
def Strs (w : World) (e : TypeId) (v : Value) (xs : List ByteArray) : Prop := Row w e v (xs.map Value.string)
def Bytes (w : World) (e : TypeId) (v : Value) (xs : List UInt8) : Prop := Row w e v (xs.map fun b => Value.int .u8 b.toNat)
def Rows (w : World) (e e' : TypeId) (v : Value) (xss : List (List Int)) : Prop :=
  ∃ rs, Row w e v rs ∧ rs.length = xss.length ∧ ∀ i r, rs[i]? = some r → Ints w e' r (xss.getD i [])
section
variable {w w' : World} {e e' : TypeId} {v : Value}
theorem Ints.ext {xs : List Int} (h : Ints w e v xs) (x : Ext w w') : Ints w' e v xs := Row.ext h x
theorem Bools.ext {xs : List Bool} (h : Bools w e v xs) (x : Ext w w') : Bools w' e v xs := Row.ext h x
theorem Strs.ext {xs : List ByteArray} (h : Strs w e v xs) (x : Ext w w') : Strs w' e v xs := Row.ext h x
theorem Bytes.ext {xs : List UInt8} (h : Bytes w e v xs) (x : Ext w w') : Bytes w' e v xs := Row.ext h x
theorem Rows.ext {xss : List (List Int)} (h : Rows w e e' v xss) (x : Ext w w') : Rows w' e e' v xss := by
  obtain ⟨rs, h1, h2, h3⟩ := h
  exact ⟨rs, h1.ext x, h2, fun i r hr => (h3 i r hr).ext x⟩
theorem Row.stored {vs : List Value} (h : Row w e v vs) {g : Nat} {t : TypeId} {cs : List Value} (hg : w.grownBy w' (some g)) (hb : Blk w g t cs) (hne : t ≠ e) : Row w' e v vs := h.grown hg hb hne
theorem Ints.stored {xs : List Int} (h : Ints w e v xs) {g : Nat} {t : TypeId} {cs : List Value} (hg : w.grownBy w' (some g)) (hb : Blk w g t cs) (hne : t ≠ e) : Ints w' e v xs := Row.grown h hg hb hne
theorem Bools.stored {xs : List Bool} (h : Bools w e v xs) {g : Nat} {t : TypeId} {cs : List Value} (hg : w.grownBy w' (some g)) (hb : Blk w g t cs) (hne : t ≠ e) : Bools w' e v xs := Row.grown h hg hb hne
theorem Strs.stored {xs : List ByteArray} (h : Strs w e v xs) {g : Nat} {t : TypeId} {cs : List Value} (hg : w.grownBy w' (some g)) (hb : Blk w g t cs) (hne : t ≠ e) : Strs w' e v xs := Row.grown h hg hb hne
theorem Bytes.stored {xs : List UInt8} (h : Bytes w e v xs) {g : Nat} {t : TypeId} {cs : List Value} (hg : w.grownBy w' (some g)) (hb : Blk w g t cs) (hne : t ≠ e) : Bytes w' e v xs := Row.grown h hg hb hne
theorem Rows.stored {xss : List (List Int)} (h : Rows w e e' v xss) {g : Nat} {t : TypeId} {cs : List Value} (hg : w.grownBy w' (some g)) (hb : Blk w g t cs) (hne : t ≠ e) (hne' : t ≠ e') : Rows w' e e' v xss := by
  obtain ⟨rs, h1, h2, h3⟩ := h
  exact ⟨rs, h1.grown hg hb hne, h2, fun i r hr => (h3 i r hr).stored hg hb hne'⟩
theorem Own.stored {B : Nat} {vs : List Value} (h : Own w B e v vs) {g : Nat} {t : TypeId} {cs : List Value} (hg : w.grownBy w' (some g)) (hb : Blk w g t cs) (hne : t ≠ e) : Own w' B e v vs := by
  rcases h.cases with ⟨rfl, rfl⟩ | ⟨g', cap, cs', rfl, hg', hb', h3, h4, h5, h6⟩
  · exact Own.nil _ _ _
  · exact Own.mk hg' (hb'.grown hg (fun x => hb.ne hb' hne (Option.some.inj x))) h3 h4 h5 h6
variable {B : Nat} {t : TypeId} {u : Value} {us : List Value}
theorem Ints.owned {xs : List Int} (h : Ints w e v xs) (ho : Own w B t u us) (hg : w.grownBy w' u.ownBlock) (hne : t ≠ e) : Ints w' e v xs := Row.owned h ho hg hne
theorem Bools.owned {xs : List Bool} (h : Bools w e v xs) (ho : Own w B t u us) (hg : w.grownBy w' u.ownBlock) (hne : t ≠ e) : Bools w' e v xs := Row.owned h ho hg hne
theorem Strs.owned {xs : List ByteArray} (h : Strs w e v xs) (ho : Own w B t u us) (hg : w.grownBy w' u.ownBlock) (hne : t ≠ e) : Strs w' e v xs := Row.owned h ho hg hne
theorem Bytes.owned {xs : List UInt8} (h : Bytes w e v xs) (ho : Own w B t u us) (hg : w.grownBy w' u.ownBlock) (hne : t ≠ e) : Bytes w' e v xs := Row.owned h ho hg hne
theorem Rows.owned {xss : List (List Int)} (h : Rows w e e' v xss) (ho : Own w B t u us) (hg : w.grownBy w' u.ownBlock) (hne : t ≠ e) (hne' : t ≠ e') : Rows w' e e' v xss := by
  obtain ⟨rs, h1, h2, h3⟩ := h
  exact ⟨rs, h1.owned ho hg hne, h2, fun i r hr => (h3 i r hr).owned ho hg hne'⟩
theorem Own.owned {B' : Nat} {vs : List Value} (h : Own w B' e v vs) (ho : Own w B t u us) (hg : w.grownBy w' u.ownBlock) (hne : t ≠ e) : Own w' B' e v vs := by
  rcases ho.cases with ⟨rfl, rfl⟩ | ⟨g, cap, cs, rfl, _, hb, _⟩
  · exact h.ext (Ext.of_grown hg)
  · exact h.stored hg hb hne
end
section ops
variable {P : Program} {N : Nat} {ops : Array Oper} {Q : Exit → Act → World → Prop} {rest : List Oper} {l : Slots} {w : World}
variable {d : Nat} {ty : TypeId} {pos : String} {after : Array Edge} {g : Option (Nat × Bool)}
theorem Sq.lenInts {t e : TypeId} {x : Operand} {v : Value} {xs : List Int} (hr : Ints w e v xs) (hg : On ops l g) (hN : Nat.blt d N = true) (ht : P.underlying t = some (.slice (P.elem t))) (hx : ev l x = some v)
    (h : Sq P N ops Q rest ((d, .int .i64 xs.length) :: l) w) : Sq P N ops Q (⟨some d, .call ⟨.builtin .len, #[x], #[t]⟩, ty, pos, after, g⟩ :: rest) l w := .lenRow hr hg hN ht hx (by simpa using h)
theorem Sq.lenBools {t e : TypeId} {x : Operand} {v : Value} {xs : List Bool} (hr : Bools w e v xs) (hg : On ops l g) (hN : Nat.blt d N = true) (ht : P.underlying t = some (.slice (P.elem t))) (hx : ev l x = some v)
    (h : Sq P N ops Q rest ((d, .int .i64 xs.length) :: l) w) : Sq P N ops Q (⟨some d, .call ⟨.builtin .len, #[x], #[t]⟩, ty, pos, after, g⟩ :: rest) l w := .lenRow hr hg hN ht hx (by simpa using h)
theorem Sq.lenRows {t e e' : TypeId} {x : Operand} {v : Value} {xs : List (List Int)} (hr : Rows w e e' v xs) (hg : On ops l g) (hN : Nat.blt d N = true) (ht : P.underlying t = some (.slice (P.elem t))) (hx : ev l x = some v)
    (h : Sq P N ops Q rest ((d, .int .i64 xs.length) :: l) w) : Sq P N ops Q (⟨some d, .call ⟨.builtin .len, #[x], #[t]⟩, ty, pos, after, g⟩ :: rest) l w := by
  obtain ⟨rs, h1, h2, _⟩ := hr
  exact .lenRow h1 hg hN ht hx (by rw [h2]; exact h)
section
variable {t e lt : TypeId} {z : Value} {x ix : Operand} {v : Value} {k : IntKind} {i : Int} {d2 : Nat} {ty2 : TypeId} {pos2 : String} {after2 : Array Edge} {g2 : Option (Nat × Bool)}
theorem Sq.idxInts {xs : List Int} (hs : SlT P t e z) (h1 : One P lt) (hr : Ints w e v xs) (hg : On ops l g) (hN : Nat.blt d N = true) (hN2 : Nat.blt d2 N = true) (hd : look l d = none) (hg2 : On ops l g2) (hx : ev l x = some v) (hix : ev l ix = some (.int k i)) (hi : 0 ≤ i)
    (hlt : i.toNat < xs.length) (h : Sq P N ops Q rest ((d2, .int .i64 (xs.getD i.toNat 0)) :: l) w) :
    Sq P N ops Q (⟨some d, .indexAddr t x ix, ty, pos, after, g⟩ :: ⟨some d2, .load lt (.tmp d), ty2, pos2, after2, g2⟩ :: rest) l w :=
  .idx hs h1 hr hg hN hN2 hd hg2 hx hix hi (by simp [hlt]) h
theorem Sq.idxBools {xs : List Bool} (hs : SlT P t e z) (h1 : One P lt) (hr : Bools w e v xs) (hg : On ops l g) (hN : Nat.blt d N = true) (hN2 : Nat.blt d2 N = true) (hd : look l d = none) (hg2 : On ops l g2) (hx : ev l x = some v) (hix : ev l ix = some (.int k i)) (hi : 0 ≤ i)
    (hlt : i.toNat < xs.length) (h : Sq P N ops Q rest ((d2, .bool (xs.getD i.toNat false)) :: l) w) :
    Sq P N ops Q (⟨some d, .indexAddr t x ix, ty, pos, after, g⟩ :: ⟨some d2, .load lt (.tmp d), ty2, pos2, after2, g2⟩ :: rest) l w :=
  .idx hs h1 hr hg hN hN2 hd hg2 hx hix hi (by simp [hlt]) h
theorem Sq.idxRows {e' : TypeId} {xss : List (List Int)} (hs : SlT P t e z) (h1 : One P lt) (hr : Rows w e e' v xss) (hg : On ops l g) (hN : Nat.blt d N = true) (hN2 : Nat.blt d2 N = true) (hd : look l d = none) (hg2 : On ops l g2) (hx : ev l x = some v) (hix : ev l ix = some (.int k i)) (hi : 0 ≤ i)
    (hlt : i.toNat < xss.length) (h : ∀ r, Ints w e' r (xss.getD i.toNat []) → Sq P N ops Q rest ((d2, r) :: l) w) :
    Sq P N ops Q (⟨some d, .indexAddr t x ix, ty, pos, after, g⟩ :: ⟨some d2, .load lt (.tmp d), ty2, pos2, after2, g2⟩ :: rest) l w := by
  obtain ⟨rs, r1, r2, r3⟩ := hr
  have hl : i.toNat < rs.length := by omega
  exact .idx hs h1 r1 hg hN hN2 hd hg2 hx hix hi (List.getElem?_eq_getElem hl) (h _ (r3 _ _ (List.getElem?_eq_getElem hl)))
end
theorem Sq.lit {t e : TypeId} {z : Value} {parts : List (Nat × Operand)} {vs : List Value} {n : Nat} (hs : SlT P t e z) (hp : parts.map (·.1) = List.range n) (hn : Nat.ble n 1000 = true) (hg : On ops l g) (hN : Nat.blt d N = true)
    (hx : evs l (parts.map (·.2)) = some vs) (h1 : ∀ v ∈ vs, v.oneCell' = true)
    (h : ∀ b w', Ext w w' → w.heap.size ≤ b → (∀ B, B ≤ w.heap.size → Own w' B e (.slice (some ⟨b, 0, none⟩) vs.length vs.length) vs) → Blk w' b e vs → Sq P N ops Q rest ((d, .slice (some ⟨b, 0, none⟩) vs.length vs.length) :: l) w') :
    Sq P N ops Q (⟨some d, .buildSlice t n parts.toArray, ty, pos, after, g⟩ :: rest) l w := by
  have hlen : vs.length = n := by
    have h2 : parts.length = n := by have := congrArg List.length hp; simpa using this
    have key : ∀ (xs : List Operand) (vs : List Value), evs l xs = some vs → vs.length = xs.length := by
      intro xs
      induction xs with
      | nil => intro vs h; simp [evs] at h; simp [← h]
      | cons x r ih =>
        intro vs h
        simp only [evs] at h
        cases h3 : ev l x with
        | none => rw [h3] at h; simp at h
        | some v =>
          cases h4 : evs l r with
          | none => rw [h3, h4] at h; simp at h
          | some vs' => rw [h3, h4] at h; simp at h; subst h; simp [ih _ h4]
    have := key _ _ hx
    simpa [h2] using this
  subst hlen
  obtain ⟨i, hi, hz, hsz, hby⟩ := hs.info
  have hn' := Nat.le_of_ble_eq_true hn
  refine .val (w' := w.alloc (.cells vs.toArray e)) hg rfl hN (fun a ha => ?_) (h _ _ (Ext.alloc _ _) (Nat.le_refl _) (fun B hB => Own.mk hB (Blk.new _ _ _) (Nat.le_refl _) (by unfold maxLen; omega) rfl (by simp)) (Blk.new _ _ _))
  have e1 : (parts.toArray.map fun (i, x) => (i, a.eval x)) = ((List.range vs.length).zip vs).toArray := by
    rw [← hp, ← ha.evs hx]
    simp [List.zip_map', List.map_map]
  have hfill : ∀ (vs : List Value) (k : Nat) (cs : Array Value), (∀ v ∈ vs, v.oneCell' = true) → k + vs.length ≤ cs.size →
      ∃ cs', Instr.fill (fun i => some (i * 1, 1)) cs ((List.range' k vs.length).zip vs) = some cs' ∧ cs'.toList = cs.toList.take k ++ vs ++ cs.toList.drop (k + vs.length) := by
    intro vs
    induction vs with
    | nil => intro k cs _ _; exact ⟨cs, by simp [Instr.fill], by simp⟩
    | cons v r ih =>
      intro k cs h1 hk
      simp only [List.length_cons] at hk
      have hv : v.cells = #[v] := by
        have := h1 v (List.mem_cons_self ..)
        cases v <;> simp_all [Value.cells, Value.oneCell']
      obtain ⟨cs', f1, f2⟩ := ih (k + 1) (cs.setIfInBounds k v) (fun u hu => h1 u (List.mem_cons_of_mem _ hu)) (by simp; omega)
      refine ⟨cs', ?_, ?_⟩
      · have : ¬ cs.size < k + 1 := by omega
        simp only [List.length_cons, List.range'_succ, List.zip_cons_cons, Instr.fill, hv]
        simpa [this] using f1
      · rw [f2]
        have hlt : k < cs.toList.length := by simp; omega
        have h3 : (cs.toList.set k v).take (k + 1) = cs.toList.take k ++ [v] := by
          rw [List.take_succ_eq_append_getElem (by simpa using hlt)]
          simp [List.take_set_of_le (Nat.le_refl k)]
        have h4 : (cs.toList.set k v).drop (k + 1 + r.length) = cs.toList.drop (k + (r.length + 1)) := by
          rw [List.drop_set_of_lt (by omega)]
          congr 1
          omega
        simp only [Array.toList_setIfInBounds, h3, h4, List.length_cons]
        simp
  have hzc : z.cells = #[z] := by
    have := hs.one
    cases z <;> simp_all [Value.cells, Value.oneCell']
  obtain ⟨cs', f1, f2⟩ := hfill vs 0 (Array.replicate vs.length z) h1 (by simp)
  have f3 : cs' = vs.toArray := by
    have : cs'.toList = vs := by rw [f2]; simp
    rw [← this]
  subst f3
  have hlim : ¬ 16777216 < vs.length := by omega
  have hrow : (Array.range vs.length).map (fun i => (#[z] : Array Value)[i % 1]!) = Array.replicate vs.length z := by
    apply Array.ext
    · simp
    · intro i h1 h2
      have : i % 1 = 0 := Nat.mod_one i
      simp [this]
  have hrow2 : (Array.range vs.length).map (fun i => ([z] : List Value)[i % 1]?.getD default) = Array.replicate vs.length z := by
    apply Array.ext
    · simp
    · intro i h1 h2
      have : i % 1 = 0 := Nat.mod_one i
      simp [this]
  simp only [execOp]
  rw [e1]
  rw [List.range_eq_range']
  simp only [Nat.mul_one] at f1
  by_cases h0 : vs.length = 0
  · obtain rfl : vs = [] := List.eq_nil_of_length_eq_zero h0
    have hr0 : Array.map (fun _ : Nat => (default : Value)) (Array.range 0) = #[] := by apply Array.ext <;> simp
    simp [Instr.buildSlice, run_underlying hs.und, hs.sizeOf, newRow, Instr.fill, hr0]
  · simp [Instr.buildSlice, run_underlying hs.und, hs.sizeOf, newRow, zeroValue, typeInfo, hi, hz, hzc, hlim, h0, hrow2, f1]
theorem Sq.app1 {t e : TypeId} {z : Value} {s x : Operand} {v u : Value} {vs : List Value} {B d2 : Nat} {ty2 : TypeId} {pos2 : String} {after2 : Array Edge} {g2 : Option (Nat × Bool)}
    (hs : SlT P t e z) (ho : Own w B e v vs) (hB : B ≤ w.heap.size) (hlen : vs.length < 1073741824) (hg : On ops l g) (hN : Nat.blt d N = true) (hN2 : Nat.blt d2 N = true) (hg2 : g2 = none) (hsv : ev ((d, undef) :: l) s = some v) (hd : look l d = none) (hxv : ev l x = some u) (h1 : u.oneCell' = true)
    (h : ∀ v' w', Own w' B e v' (vs ++ [u]) → w.grownBy w' v.ownBlock → v' ≠ .slice none 0 0 → Sq P N ops Q rest ((d2, v') :: l) w') :
    Sq P N ops Q (⟨some d, .buildSlice t 1 #[(0, x)], ty, pos, after, g⟩ :: ⟨some d2, .call ⟨.builtin .append, #[s, .tmp d], #[t, t]⟩, ty2, pos2, after2, g2⟩ :: rest) l w := by
  subst hg2
  refine Sq.lit (parts := [(0, x)]) (vs := [u]) (n := 1) hs rfl rfl hg hN (by simp [evs, hxv]) (by simpa using h1) fun b w1 x1 hb1 hown1 hblk1 => ?_
  intro a ha
  obtain ⟨i, hi, hz, hsz, hby⟩ := hs.info
  have hzc : z.cells.size = 1 := by
    have := hs.one
    cases z <;> simp_all [Value.cells, Value.oneCell']
  have ho1 : Own w1 B e v vs := ho.ext x1
  have hev : a.eval s = v := by
    cases s with
    | tmp t' =>
      simp only [ev, look] at hsv
      cases hb : Nat.beq d t' with
      | true => rw [hb] at hsv; simp at hsv; subst hsv; rcases ho.cases with ⟨h, _⟩ | ⟨_, _, _, h, _⟩ <;> simp [undef] at h
      | false => exact ha.slot t' v (by simp only [look, hb]; rw [hb] at hsv; exact hsv)
    | const c => simpa [ev, Act.eval] using hsv
    | global c => simpa [ev, Act.eval] using hsv
    | func c => simpa [ev, Act.eval] using hsv
  have hx2 : a.eval (.tmp d) = .slice (some ⟨b, 0, none⟩) 1 1 := ha.slot d _ (by simp [look])
  refine wpList_append_own w1 (P := P) rfl s (.tmp d) t rfl B e i z 1 i.bytes hs.und hi hz hsz rfl hzc (by omega) v vs.length vs hev ho1 ⟨b, 0, none⟩ 1 1 [u] hx2 rfl ?_ (by simpa using h1)
    (by unfold maxLen; omega) ?_ (Nat.le_trans hB x1.size) fun v' w' r1 r2 r3 => ?_
  · intro j u' hj
    rw [addr_add, hblk1.cell]
    simpa using hj
  · have : (vs.length + 1) * i.bytes ≤ 1073741824 * 64 := Nat.mul_le_mul (by omega) hby
    omega
  · have hgr : w.grownBy w' v.ownBlock := grown_trans (x1.to_grown _) r2
    have ho' : Own w' B e v' (vs ++ [u]) := by unfold Own; simpa using r1
    have hnn : v' ≠ .slice none 0 0 := fun hc => by simpa using r3.1 hc
    refine h v' w' ho' hgr hnn _ ?_
    · refine ⟨by simp [Act.put, ha.size], ha.defers, fun t u' hu => ?_⟩
      have hst : St N l a := ⟨ha.size, ha.defers, fun t' v'' hv'' => ha.slot t' v'' (by
        have : Nat.beq d t' = false := by
          cases hb : Nat.beq d t' with
          | false => rfl
          | true => obtain rfl := Nat.eq_of_beq_eq_true hb; rw [hd] at hv''; cases hv''
        simp [look, this, hv''])⟩
      exact (hst.put hN2).slot t u' hu
end ops
theorem Eq.retCell {P : Program} {fn : Func} {N t b n : Nat} {ty u : TypeId} {l : Slots} {w : World} {cs : List Value} {R : Value → World → Prop} (hr : fn.results = #[.cell t ty]) (hv : look l t = some (.pointer (some ⟨b, 0, none⟩))) (h1 : Agg P ty n) (hb : Blk w b u cs) (hn : cs.length = n) (h : R (.agg cs.toArray) w) :
    Eq N (bodyPost P fn fun e w' => ∃ v, e = .returned v ∧ R v w') .ret l w := fun a ha => by
  have hl : (loadCells ⟨b, 0, none⟩ n).run P w = .ok cs.toArray w := by
    rw [← hn]
    refine run_loadCells_list _ _ _ fun j v hv => ?_
    rw [addr_add, hb.cell]
    simpa using hv
  have hs := ha.slot _ _ hv
  refine bodyPost_ret (v := .agg cs.toArray) ?_ ha.defers ⟨_, rfl, h⟩
  simp only [results, hr]
  simp only [Array.getD_eq_getD_getElem?] at hs
  simp [hs, asAddr, loadVar, h1.agg, h1.size, hl]
theorem Eq.retCell2 {P : Program} {fn : Func} {N t t' b n : Nat} {ty u : TypeId} {l : Slots} {w : World} {cs : List Value} {v' : Value} {R : Value → World → Prop} (hr : fn.results = #[.cell t ty, .tmp t']) (hv : look l t = some (.pointer (some ⟨b, 0, none⟩))) (h1 : Agg P ty n) (hb : Blk w b u cs) (hn : cs.length = n) (hv' : look l t' = some v') (h : R (.tuple #[.agg cs.toArray, v']) w) :
    Eq N (bodyPost P fn fun e w' => ∃ v, e = .returned v ∧ R v w') .ret l w := fun a ha => by
  have hl : (loadCells ⟨b, 0, none⟩ n).run P w = .ok cs.toArray w := by
    rw [← hn]
    refine run_loadCells_list _ _ _ fun j v hv => ?_
    rw [addr_add, hb.cell]
    simpa using hv
  have hs := ha.slot _ _ hv
  have hs' := ha.slot _ _ hv'
  refine bodyPost_ret (v := .tuple #[.agg cs.toArray, v']) ?_ ha.defers ⟨_, rfl, h⟩
  simp only [results, hr]
  simp only [Array.getD_eq_getD_getElem?] at hs hs'
  simp [hs, hs', asAddr, loadVar, h1.agg, h1.size, hl]
end Go.Proofs.YtnckpafknojdhaaDoor
set_option linter.unusedSimpArgs false
set_option linter.unusedVariables false
namespace Go.Proofs.YtnckpafknojdhaaDoor
open Go.RowKit
section
variable {P : Program} {ops : Array Oper} {Q : Exit → Act → World → Prop}
def wpAnyG (P : Program) (ops : Array Oper) (Q : Exit → Act → World → Prop) (S : World → Prop) (k : Nat) : Nat → Array Bool → Act → World → Prop
  | 0, listed, a, w => Region.ready .any ops listed = [] ∧ Q .normal a w
  | fuel + 1, listed, a, w =>
    (Region.ready .any ops listed = [] → Q .normal a w) ∧
    ∀ i ∈ Region.ready .any ops listed, wpOp P ops Q i (fun a' w' => (i < k → S w') ∧ wpAnyG P ops Q S k fuel (listed.setIfInBounds i true) a' w') a w
theorem wpAny_of_G {S : World → Prop} {k : Nat} : ∀ (fuel : Nat) (listed : Array Bool) (a : Act) (w : World), wpAnyG P ops Q S k fuel listed a w → wpAny P .any ops Q fuel listed a w
  | 0, _, _, _, h => h
  | fuel + 1, _, _, _, h => ⟨h.1, fun i hi => wpOp_mono (fun a' w' h' => wpAny_of_G fuel _ a' w' h'.2) (h.2 i hi)⟩
def lateB (ops : Array Oper) (k i : Nat) : Bool := (List.range ops.size).all fun j => Nat.blt j k || match ops[j]? with
  | some o => o.after.any fun e => Region.binds .any e && e.on == i
  | none => true
theorem late_waits {k i j : Nat} {o : Oper} {listed : Array Bool} (h : lateB ops k i = true) (ho : ops[j]? = some o) (hj : j ∈ Region.ready .any ops listed) (hi : listed.getD i false = false) : j < k := by
  have hlt : j < ops.size := (Array.getElem?_eq_some_iff.1 ho).1
  simp only [lateB, List.all_eq_true, List.mem_range] at h
  have h1 := h j hlt
  simp only [ho, Bool.or_eq_true] at h1
  rcases h1 with h1 | h1
  · exact Nat.lt_of_lt_of_le (Nat.lt_succ_self j) (Nat.le_of_ble_eq_true h1)
  · obtain ⟨e, he, hb⟩ := Array.any_eq_true'.1 h1
    simp only [Bool.and_eq_true, beq_iff_eq] at hb
    obtain ⟨_, o', ho', hall⟩ := mem_ready.1 hj
    rw [ho] at ho'
    obtain rfl := Option.some.inj ho'
    have := hall e he hb.1
    rw [hb.2, hi] at this
    cases this
theorem ready_not_listed {i : Nat} {listed : Array Bool} (h : i ∈ Region.ready .any ops listed) : listed.getD i false = false := by
  have h0 := (mem_ready.1 h).1
  rcases Nat.lt_or_ge i listed.size with h' | h'
  · simp [h'] at h0 ⊢; exact h0
  · simp [Array.getElem?_eq_none h'] at h0
theorem wpAnyG_first {S : World → Prop} {k i : Nat} {oi : Oper} {v : Value} (hi : ops[i]? = some oi) (hik : i < k) (hl : lateB ops k i = true) (hsel : ∀ (j : Nat) (o : Oper) cs b, ops[j]? = some o → o.op ≠ .select cs b)
    (hQ : ∀ c a w, Q (.panic c) (a.put oi.dst v) w → Q (.panic c) a w) :
    ∀ (fuel : Nat) (listed : Array Bool) (a : Act) (w : World),
      (∀ j oj, ops[j]? = some oj → j ≠ i → listed.getD j true = false → (∀ e ∈ oj.after, Region.binds .any e = true → e.on ≠ i) → oi.apart ops oj = true) →
      i ∈ Region.ready .any ops listed → YieldsIf P ops S oi v a → S w →
      wpAnyG P ops Q S k fuel (listed.setIfInBounds i true) (a.put oi.dst v) w → wpAnyG P ops Q S k (fuel + 1) listed a w := by
  intro fuel
  induction fuel with
  | zero =>
    intro listed a w _ hr hy hS H
    refine ⟨fun h => (by rw [h] at hr; cases hr), fun j hj => ?_⟩
    by_cases hji : j = i
    · subst hji; exact hy.wpOp hi hS ⟨fun _ => hS, H⟩
    · have := ready_mono hj hji
      rw [H.1] at this
      cases this
  | succ fuel ih =>
    intro listed a w hfree hr hy hS H
    refine ⟨fun h => (by rw [h] at hr; cases hr), fun j hj => ?_⟩
    by_cases hji : j = i
    · subst hji; exact hy.wpOp hi hS ⟨fun _ => hS, H⟩
    · have h1 := H.2 j (ready_mono hj hji)
      obtain ⟨hjun, oj, hoj, hall⟩ := mem_ready.1 hj
      have hun0 := ready_not_listed hr
      have hjk : j < k := late_waits hl hoj hj hun0
      have hnot : ∀ e ∈ oj.after, Region.binds .any e = true → e.on ≠ i := fun e he hb heq => by
        have h2 := hall e he hb
        rw [heq, hun0] at h2
        cases h2
      have h2 := wpOp_putIf hoj (hfree j oj hoj hji hjun hnot) (fun cs b => hsel i oi cs b hi) (fun cs b => hsel j oj cs b hoj) hQ hy h1
      have hfree' : ∀ m om, ops[m]? = some om → m ≠ i → (listed.setIfInBounds j true).getD m true = false →
          (∀ e ∈ om.after, Region.binds .any e = true → e.on ≠ i) → oi.apart ops om = true := fun m om hm hmi hun hno => by
        refine hfree m om hm hmi ?_ hno
        by_cases hjm : j = m
        · subst hjm; exact hjun
        · rw [getD_set_ne true hjm] at hun; exact hun
      refine wpOp_mono (fun a' w' h3 => ⟨h3.2.1, ih (listed.setIfInBounds j true) a' w' hfree' (ready_mono hr (Ne.symm hji)) h3.1 (h3.2.1 hjk) ?_⟩) h2
      rw [Array.setIfInBounds_comm _ _ hji]
      exact h3.2.2
end
section
variable {P : Program} {N : Nat} {ops : Array Oper} {Q : Exit → Act → World → Prop} {S : World → Prop} {k fuel : Nat} {listed : Array Bool} {l : Slots} {w : World}
def Gq (P : Program) (N : Nat) (ops : Array Oper) (Q : Exit → Act → World → Prop) (S : World → Prop) (k fuel : Nat) (listed : Array Bool) (l : Slots) (w : World) : Prop :=
  ∀ a, St N l a → wpAnyG P ops Q S k fuel listed a w
theorem Cq.draw {id : Nat} (k : Nat) (r : Option Nat) (hm : P.follows .mixedOrders = true) (h : ∀ w1, Ext w w1 → Gq P N ops Q (fun w' => w1.grownBy w' r) k ops.size (Array.replicate ops.size false) l w1) : Cq P N (.region id ops true) Q l w :=
  fun a ha => wp_region_any hm (wpAny_of_G _ _ _ _ (h _ ((Below.refl _ _).drew) a ha))
theorem Cq.drawS {id : Nat} (k : Nat) (S : World → Prop) (hm : P.follows .mixedOrders = true) (hS : S w) (h : ∀ w1, Ext w w1 → S w → Gq P N ops Q S k ops.size (Array.replicate ops.size false) l w1) : Cq P N (.region id ops true) Q l w :=
  fun a ha => wp_region_any hm (wpAny_of_G _ _ _ _ (h _ ((Below.refl _ _).drew) hS a ha))
def firstB (ops : Array Oper) (k : Nat) (listed : Array Bool) (i : Nat) : Bool :=
  Nat.blt i k && (lateB ops k i && (Region.noSelect ops && (Region.free .any ops listed i && (Region.ready .any ops listed).contains i)))
theorem Gq.st {o : Oper} {d : Nat} {v : Value} (i : Nat) (hi : ops[i]? = some o) (hf : firstB ops k listed i = true) (hd : o.dst = some d) (hg : On ops l o.guard) (hN : Nat.blt d N = true)
    (hQ : ∀ c a w, Q (.panic c) (a.put (some d) v) w → Q (.panic c) a w) (x : S w) (hy : ∀ w', S w' → Still P N l o v w') (h : Gq P N ops Q S k fuel (listed.setIfInBounds i true) ((d, v) :: l) w) :
    Gq P N ops Q S k (fuel + 1) listed l w := by
  intro a ha
  simp only [firstB, Bool.and_eq_true] at hf
  obtain ⟨h1, h2, h3, h4, h5⟩ := hf
  rw [← hd] at hQ
  refine wpAnyG_first hi (Nat.lt_of_lt_of_le (Nat.lt_succ_self i) (Nat.le_of_ble_eq_true h1)) h2 (Region.noSelect_spec h3) hQ fuel listed a w (Region.free_spec hi h4) (by simpa using h5)
    (.inl ⟨hg.wanted ha, fun w' hw' => hy w' hw' a ha⟩) x ?_
  rw [hd]
  exact h _ (ha.put hN)
theorem Gq.off {o o' : Oper} {j d d' : Nat} {b : Bool} (i : Nat) (hi : ops[i]? = some o) (hf : firstB ops k listed i = true) (hg : o.guard = some (j, b)) (ho : ops[j]? = some o') (hd : o'.dst = some d) (hv : look l d = some (.bool (!b)))
    (hd' : o.dst = some d') (hN : Nat.blt d' N = true) (hQ : ∀ c a w, Q (.panic c) (a.put (some d') undef) w → Q (.panic c) a w) (x : S w) (h : Gq P N ops Q S k fuel (listed.setIfInBounds i true) ((d', undef) :: l) w) :
    Gq P N ops Q S k (fuel + 1) listed l w := by
  intro a ha
  simp only [firstB, Bool.and_eq_true] at hf
  obtain ⟨h1, h2, h3, h4, h5⟩ := hf
  rw [← hd'] at hQ
  refine wpAnyG_first hi (Nat.lt_of_lt_of_le (Nat.lt_succ_self i) (Nat.le_of_ble_eq_true h1)) h2 (Region.noSelect_spec h3) hQ fuel listed a w (Region.free_spec hi h4) (by simpa using h5)
    (.inr ⟨by simp [Region.wanted, hg, yielded, ho, hd, ha.bool hv], rfl⟩) x ?_
  rw [hd']
  exact h _ (ha.put hN)
theorem Gq.isT {p : Prop} [Decidable p] {d : Nat} (hp : p) (h : Gq P N ops Q S k fuel listed ((d, .bool true) :: l) w) : Gq P N ops Q S k fuel listed ((d, .bool (decide p)) :: l) w := by rw [decide_eq_true hp]; exact h
theorem Gq.isF {p : Prop} [Decidable p] {d : Nat} (hp : ¬ p) (h : Gq P N ops Q S k fuel listed ((d, .bool false) :: l) w) : Gq P N ops Q S k fuel listed ((d, .bool (decide p)) :: l) w := by rw [decide_eq_false hp]; exact h
theorem Gq.part {p : Prop} [Decidable p] {d : Nat} (ht : p → Gq P N ops Q S k fuel listed ((d, .bool true) :: l) w) (hf : ¬ p → Gq P N ops Q S k fuel listed ((d, .bool false) :: l) w) : Gq P N ops Q S k fuel listed ((d, .bool (decide p)) :: l) w := by
  by_cases hp : p
  · rw [decide_eq_true hp]; exact ht hp
  · rw [decide_eq_false hp]; exact hf hp
theorem Gq.partB {b : Bool} {d : Nat} (ht : b = true → Gq P N ops Q S k fuel listed ((d, .bool true) :: l) w) (hf : b = false → Gq P N ops Q S k fuel listed ((d, .bool false) :: l) w) : Gq P N ops Q S k fuel listed ((d, .bool b) :: l) w := by
  cases b
  · exact hf rfl
  · exact ht rfl
def AfterG (P : Program) (ops : Array Oper) (Q : Exit → Act → World → Prop) (S : World → Prop) (k fuel i : Nat) (listed : Array Bool) : Exit → Act → World → Prop
  | .normal, a, w => (i < k → S w) ∧ wpAnyG P ops Q S k fuel (listed.setIfInBounds i true) a w
  | e, a, w => Q e a w
theorem wpOp_of_list {K : Act → World → Prop} {Q' : Exit → Act → World → Prop} {i : Nat} {o : Oper} {a : Act} {w : World} (hi : ops[i]? = some o) (hn : ∀ a w, Q' .normal a w = K a w) (hp : ∀ c a w, Q' (.panic c) a w = Q (.panic c) a w) (ho : ∀ a w, Q' .outgrown a w = Q .outgrown a w)
    (h : wpList P ops Q' [o] a w) : wpOp P ops Q i K a w := by
  unfold wpOp
  rw [hi]
  simp only [wpList] at h ⊢
  have hlet : LetsOut Q' → LetsOut Q := fun ⟨a, w, hq⟩ => ⟨a, w, by rw [← ho]; exact hq⟩
  split
  · rename_i hw
    rw [if_pos hw] at h
    refine h.imp (fun h => ?_) (fun ⟨x, y⟩ => ⟨x, hlet y⟩)
    unfold Oper.wp at *
    generalize (execOp a.eval o).run P w = r at *
    cases r with
    | ok n w' =>
      cases n <;> simp only [Oper.upon] at h ⊢
      case value u => rw [← hn]; exact h
      case skip => rw [← hn]; exact h
      case defer d => rw [← hn]; exact h
      case enter f args =>
        refine Calls.mono h fun e w'' he => ?_
        cases e with
        | returned u => exact cast (hn _ _) he
        | panicked c => exact cast (hp _ _ _) he
        | outgrown => exact hlet he
      case row row args => exact Rows.mono h fun u w'' he => by rw [← hn]; exact he
    | halt x w' =>
      cases x <;> simp only [Oper.upon] at h ⊢
      case panic u => rw [← hp]; exact h
  · rename_i hw
    rw [if_neg hw] at h
    rw [← hn]; exact h
theorem Gq.one {o : Oper} (i : Nat) (hi : ops[i]? = some o) (hr : (Region.ready .any ops listed == [i]) = true) (h : Sq P N ops (AfterG P ops Q S k fuel i listed) [o] l w) : Gq P N ops Q S k (fuel + 1) listed l w := by
  intro a ha
  have hr' : Region.ready .any ops listed = [i] := by simpa using hr
  refine ⟨fun h0 => absurd (hr' ▸ h0) (by simp), fun j hj => ?_⟩
  rw [hr'] at hj
  obtain rfl : j = i := by simpa using hj
  exact wpOp_of_list (Q' := AfterG P ops Q S k fuel _ listed) hi (fun _ _ => rfl) (fun _ _ _ => rfl) (fun _ _ => rfl) (h a ha)
theorem Eq.goes {i : Nat} (x : i < k → S w) (h : Gq P N ops Q S k fuel (listed.setIfInBounds i true) l w) : Eq N (AfterG P ops Q S k fuel i listed) .normal l w := fun a ha => ⟨x, h a ha⟩
theorem Gq.done (hr : (Region.ready .any ops listed == []) = true) (h : Eq N Q .normal l w) : Gq P N ops Q S k fuel listed l w := by
  intro a ha
  have hr' : Region.ready .any ops listed = [] := by simpa using hr
  cases fuel with
  | zero => exact ⟨hr', h a ha⟩
  | succ n => exact ⟨fun _ => h a ha, by rw [hr']; simp⟩
end
section
variable {P : Program} {N : Nat} {l : Slots} {w : World} {d : Nat} {ty : TypeId} {pos : String} {after : Array Edge} {g : Option (Nat × Bool)}
theorem Still.loadB {t u : TypeId} {b o : Nat} {x : Operand} {v : Value} {cs : List Value} (h1 : One P t) (hx : ev l x = some (.pointer (some ⟨b, o, none⟩))) (hb : Blk w b u cs) (hc : cs[o]? = some v) : Still P N l ⟨some d, .load t x, ty, pos, after, g⟩ v w :=
  Still.load h1 hx (by rw [hb.cell, hc])
theorem Still.loadA {t : TypeId} {p : Addr} {x : Operand} {v : Value} (h1 : One P t) (hx : ev l x = some (.pointer (some p))) (hc : w.cell? p = some v) : Still P N l ⟨some d, .load t x, ty, pos, after, g⟩ v w := fun a ha => by
  simp [execOp, ha.ev hx, Instr.loadAt, Instr.sureAddr, loadVar, h1.agg, hc]
theorem Still.lenRow {t e : TypeId} {x : Operand} {v : Value} {vs : List Value} (hr : Row w e v vs) (ht : P.underlying t = some (.slice (P.elem t))) (hx : ev l x = some v) : Still P N l ⟨some d, .call ⟨.builtin .len, #[x], #[t]⟩, ty, pos, after, g⟩ (.int .i64 vs.length) w := by
  obtain ⟨p, c, rfl⟩ := hr.shape
  exact Still.len ht hx
theorem Still.lenInts {t e : TypeId} {x : Operand} {v : Value} {xs : List Int} (hr : Ints w e v xs) (ht : P.underlying t = some (.slice (P.elem t))) (hx : ev l x = some v) : Still P N l ⟨some d, .call ⟨.builtin .len, #[x], #[t]⟩, ty, pos, after, g⟩ (.int .i64 xs.length) w := by
  have := Still.lenRow (N := N) (d := d) (ty := ty) (pos := pos) (after := after) (g := g) hr ht hx; simpa using this
theorem Still.lenBools {t e : TypeId} {x : Operand} {v : Value} {xs : List Bool} (hr : Bools w e v xs) (ht : P.underlying t = some (.slice (P.elem t))) (hx : ev l x = some v) : Still P N l ⟨some d, .call ⟨.builtin .len, #[x], #[t]⟩, ty, pos, after, g⟩ (.int .i64 xs.length) w := by
  have := Still.lenRow (N := N) (d := d) (ty := ty) (pos := pos) (after := after) (g := g) hr ht hx; simpa using this
theorem Still.lenRows {t e e' : TypeId} {x : Operand} {v : Value} {xs : List (List Int)} (hr : Rows w e e' v xs) (ht : P.underlying t = some (.slice (P.elem t))) (hx : ev l x = some v) : Still P N l ⟨some d, .call ⟨.builtin .len, #[x], #[t]⟩, ty, pos, after, g⟩ (.int .i64 xs.length) w := by
  obtain ⟨rs, h1, h2, _⟩ := hr
  have := Still.lenRow (N := N) (d := d) (ty := ty) (pos := pos) (after := after) (g := g) h1 ht hx
  rw [h2] at this; exact this
def At (w : World) (e : TypeId) (v : Value) (i : Int) (p : Addr) (u : Value) : Prop := w.cell? p = some u ∧ (∃ b o c n, v = .slice (some ⟨b, o, none⟩) n c ∧ p = ⟨b, o + i.toNat, none⟩ ∧ 0 ≤ i ∧ i < n) ∧ ∃ cur fr, w.heap[p.block]? = some (.cells cur e fr)
theorem At.ext {w w' : World} {e : TypeId} {v : Value} {i : Int} {p : Addr} {u : Value} (h : At w e v i p u) (x : Ext w w') : At w' e v i p u := ⟨by
  have h1 := h.1
  have hb := World.block_lt_of_cell? w p h1
  rw [Below.cell x hb]; exact h1, h.2.1, by
  obtain ⟨cur, fr, h3⟩ := h.2.2
  exact ⟨cur, fr, x.heap h3⟩⟩
theorem At.owned {w w' : World} {B : Nat} {e t : TypeId} {v u' : Value} {us : List Value} {i : Int} {p : Addr} {u : Value} (h : At w e v i p u) (ho : Own w B t u' us) (hg : w.grownBy w' u'.ownBlock) (hne : t ≠ e) : At w' e v i p u := by
  obtain ⟨h1, h2, cur, fr, h3⟩ := h
  have hb : w'.heap[p.block]? = w.heap[p.block]? := by
    refine hg.block _ (lt_of_block h3) fun hc => ?_
    rcases ho.cases with ⟨rfl, _⟩ | ⟨g, cap, cs, rfl, _, hb, _⟩
    · cases hc
    · simp [Value.ownBlock] at hc
      subst hc
      simp only [Blk] at hb
      rw [hb] at h3
      simp at h3
      exact hne h3.2.1
  exact ⟨by rw [World.cell?_of_block hb]; exact h1, h2, cur, fr, by rw [hb]; exact h3⟩
theorem Row.at {e : TypeId} {v : Value} {vs : List Value} (h : Row w e v vs) {i : Int} (hi : 0 ≤ i) (hlt : i.toNat < vs.length) : ∃ p, At w e v i p (vs[i.toNat]) := by
  rcases h with ⟨rfl, _⟩ | ⟨b, o, c, cur, fr, rfl, hb, hc⟩
  · cases hlt
  · exact ⟨⟨b, o + i.toNat, none⟩, by simp [World.cell?, hb, hc _ _ (List.getElem?_eq_getElem hlt)], ⟨b, o, c, vs.length, rfl, rfl, hi, by omega⟩, cur, fr, hb⟩
theorem Ints.at {e : TypeId} {v : Value} {xs : List Int} (h : Ints w e v xs) {i : Int} (hi : 0 ≤ i) (hlt : i.toNat < xs.length) : ∃ p, At w e v i p (.int .i64 (xs.getD i.toNat 0)) := by
  obtain ⟨p, hp⟩ := Row.at h hi (by simpa using hlt)
  exact ⟨p, by simpa [hlt] using hp⟩
theorem Bools.at {e : TypeId} {v : Value} {xs : List Bool} (h : Bools w e v xs) {i : Int} (hi : 0 ≤ i) (hlt : i.toNat < xs.length) : ∃ p, At w e v i p (.bool (xs.getD i.toNat false)) := by
  obtain ⟨p, hp⟩ := Row.at h hi (by simpa using hlt)
  exact ⟨p, by simpa [hlt] using hp⟩
theorem Strs.at {e : TypeId} {v : Value} {xs : List ByteArray} (h : Strs w e v xs) {i : Int} (hi : 0 ≤ i) (hlt : i.toNat < xs.length) : ∃ p, At w e v i p (.string (xs.getD i.toNat ByteArray.empty)) := by
  obtain ⟨p, hp⟩ := Row.at h hi (by simpa using hlt)
  exact ⟨p, by simpa [hlt] using hp⟩
theorem Bytes.at {e : TypeId} {v : Value} {xs : List UInt8} (h : Bytes w e v xs) {i : Int} (hi : 0 ≤ i) (hlt : i.toNat < xs.length) : ∃ p, At w e v i p (.int .u8 ((xs.getD i.toNat 0).toNat : Int)) := by
  obtain ⟨p, hp⟩ := Row.at h hi (by simpa using hlt)
  exact ⟨p, by simpa [hlt] using hp⟩
theorem Rows.at {e e' : TypeId} {v : Value} {xss : List (List Int)} (h : Rows w e e' v xss) {i : Int} (hi : 0 ≤ i) (hlt : i.toNat < xss.length) : ∃ p r, At w e v i p r ∧ Ints w e' r (xss.getD i.toNat []) := by
  obtain ⟨rs, r1, r2, r3⟩ := h
  have hl : i.toNat < rs.length := by omega
  obtain ⟨p, hp⟩ := r1.at hi hl
  exact ⟨p, _, hp, r3 _ _ (List.getElem?_eq_getElem hl)⟩
theorem Still.at {t e : TypeId} {z : Value} {x ix : Operand} {v u : Value} {i : Int} {k : IntKind} {p : Addr} (hs : SlT P t e z) (h : At w e v i p u) (hx : ev l x = some v) (hix : ev l ix = some (.int k i)) :
    Still P N l ⟨some d, .indexAddr t x ix, ty, pos, after, g⟩ (.pointer (some p)) w := fun a ha => by
  obtain ⟨_, ⟨b, o, c, n, rfl, rfl, h0, h1⟩, _⟩ := h
  have := run_indexAt_slice (P := P) (w := w) t ⟨b, o, none⟩ n c k i (by rw [hs.elem]; exact hs.und)
  rw [hs.elem, hs.sizeOf] at this
  simp [execOp, ha.ev hx, ha.ev hix, this, h0, h1, addr_add]
theorem Still.at' {t e0 e : TypeId} {z : Value} {x ix : Operand} {v u : Value} {i : Int} {k : IntKind} {p : Addr} {w0 : World} (hs : SlT P t e0 z) (h : At w0 e v i p u) (hx : ev l x = some v) (hix : ev l ix = some (.int k i)) :
    Still P N l ⟨some d, .indexAddr t x ix, ty, pos, after, g⟩ (.pointer (some p)) w := fun a ha => by
  obtain ⟨_, ⟨b, o, c, n, rfl, rfl, h0, h1⟩, _⟩ := h
  have := run_indexAt_slice (P := P) (w := w) t ⟨b, o, none⟩ n c k i (by rw [hs.elem]; exact hs.und)
  rw [hs.elem, hs.sizeOf] at this
  simp [execOp, ha.ev hx, ha.ev hix, this, h0, h1, addr_add]
end
section
variable {P : Program} {N : Nat} {ops : Array Oper} {Q : Exit → Act → World → Prop} {rest : List Oper} {l : Slots} {w : World}
variable {d : Nat} {ty : TypeId} {pos : String} {after : Array Edge} {g : Option (Nat × Bool)}
theorem Sq.app {t e : TypeId} {z : Value} {s x : Operand} {v xv : Value} {vs us : List Value} {B : Nat}
    (hs : SlT P t e z) (ho : Own w B e v vs) (hB : B ≤ w.heap.size) (hr : Row w e xv us) (hu : ∀ u ∈ us, u.oneCell' = true) (hlen : vs.length + us.length < 1073741824) (hg : On ops l g) (hg2 : g = none) (hN : Nat.blt d N = true) (hsv : ev l s = some v) (hxv : ev l x = some xv)
    (h : ∀ v' w', Own w' B e v' (vs ++ us) → w.grownBy w' v.ownBlock → Sq P N ops Q rest ((d, v') :: l) w') :
    Sq P N ops Q (⟨some d, .call ⟨.builtin .append, #[s, x], #[t, t]⟩, ty, pos, after, g⟩ :: rest) l w := by
  subst hg2
  intro a ha
  obtain ⟨i, hi, hz, hsz, hby⟩ := hs.info
  have hzc : z.cells.size = 1 := by
    have := hs.one
    cases z <;> simp_all [Value.cells, Value.oneCell']
  have hby' : (vs.length + us.length) * i.bytes ≤ 1073741824 * 64 := Nat.mul_le_mul (by omega) hby
  have fin : ∀ v' w', w'.ownsRow B e 1 v' (vs.length + us.length) (vs ++ us) → w.grownBy w' v.ownBlock → wpList P ops Q rest (a.put (some d) v') w' := fun v' w' r1 r2 =>
    h v' w' (by unfold Own; simpa using r1) r2 _ (ha.put hN)
  rcases hr with ⟨rfl, p, c, rfl, hpc⟩ | ⟨b, o, c, cur, fr, rfl, hb, hc⟩
  · cases p with
    | none =>
      obtain rfl := hpc rfl
      exact wpList_append_own_none (w := w) (P := P) rfl s x t rfl B e i 1 hs.und hi v vs.length vs (ha.ev hsv) ho (ha.ev hxv) (fin v w (by simpa [Own] using ho) (World.grownBy.refl _ _))
    | some p =>
      refine wpList_append_own w (P := P) rfl s x t rfl B e i z 1 i.bytes hs.und hi hz hsz rfl hzc (by omega) v vs.length vs (ha.ev hsv) ho p 0 c [] (ha.ev hxv) rfl (by simp) (by simp)
        (by unfold maxLen; omega) (by simp at hby' ⊢; omega) hB fun v' w' r1 r2 _ => fin v' w' (by simpa using r1) r2
  · refine wpList_append_own w (P := P) rfl s x t rfl B e i z 1 i.bytes hs.und hi hz hsz rfl hzc (by omega) v vs.length vs (ha.ev hsv) ho ⟨b, o, none⟩ us.length c us (ha.ev hxv) (by simp) ?_ hu
      (by unfold maxLen; omega) (by omega) hB fun v' w' r1 r2 _ => fin v' w' r1 r2
    intro j u hj
    rw [addr_add]
    simp [World.cell?, hb, hc j u hj]
end
end Go.Proofs.YtnckpafknojdhaaDoor
set_option linter.unusedSimpArgs false
set_option linter.unusedVariables false
namespace Go.Proofs.YtnckpafknojdhaaDoor
open Go.RowKit
def OwnRows (w : World) (B U : Nat) (e e' : TypeId) (v : Value) (xss : List (List Int)) : Prop :=
  ∃ rs, Own w B e v rs ∧ rs.length = xss.length ∧ (∀ i r, rs[i]? = some r → Own w B e' r ((xss.getD i []).map (Value.int .i64)) ∧ ∀ k, r.ownBlock = some k → k < U) ∧
    ∀ (i j : Nat) (r r' : Value), rs[i]? = some r → rs[j]? = some r' → i ≠ j → ∀ k, r.ownBlock = some k → r'.ownBlock ≠ some k
section
variable {w w' : World} {B U : Nat} {e e' : TypeId} {v : Value} {xss : List (List Int)}
theorem OwnRows.nil (w : World) (B U : Nat) (e e' : TypeId) : OwnRows w B U e e' (.slice none 0 0) [] := ⟨[], Own.nil _ _ _, rfl, by simp, by simp⟩
theorem OwnRows.rows (h : OwnRows w B U e e' v xss) : Rows w e e' v xss := by
  obtain ⟨rs, h1, h2, h3, _⟩ := h
  exact ⟨rs, h1.row, h2, fun i r hr => (h3 i r hr).1.row⟩
theorem OwnRows.ext (h : OwnRows w B U e e' v xss) (x : Ext w w') : OwnRows w' B U e e' v xss := by
  obtain ⟨rs, h1, h2, h3, h4⟩ := h
  exact ⟨rs, h1.ext x, h2, fun i r hr => ⟨(h3 i r hr).1.ext x, (h3 i r hr).2⟩, h4⟩
theorem OwnRows.up {U' : Nat} (h : OwnRows w B U e e' v xss) (hU : U ≤ U') : OwnRows w B U' e e' v xss := by
  obtain ⟨rs, h1, h2, h3, h4⟩ := h
  exact ⟨rs, h1, h2, fun i r hr => ⟨(h3 i r hr).1, fun k hk => Nat.lt_of_lt_of_le ((h3 i r hr).2 k hk) hU⟩, h4⟩
theorem OwnRows.mono {B' : Nat} (h : OwnRows w B U e e' v xss) (hB : B' ≤ B) : OwnRows w B' U e e' v xss := by
  obtain ⟨rs, h1, h2, h3, h4⟩ := h
  exact ⟨rs, h1.mono hB, h2, fun i r hr => ⟨(h3 i r hr).1.mono hB, (h3 i r hr).2⟩, h4⟩
theorem OwnRows.now (h : OwnRows w B U e e' v xss) : OwnRows w B w.heap.size e e' v xss := by
  obtain ⟨rs, h1, h2, h3, h4⟩ := h
  exact ⟨rs, h1, h2, fun i r hr => ⟨(h3 i r hr).1, fun k hk => ((h3 i r hr).1.lt k hk).2⟩, h4⟩
theorem OwnRows.owned {B' : Nat} {t : TypeId} {u : Value} {us : List Value} (h : OwnRows w B U e e' v xss) (ho : Own w B' t u us) (hg : w.grownBy w' u.ownBlock) (hne : t ≠ e) (hne' : t ≠ e') : OwnRows w' B U e e' v xss := by
  obtain ⟨rs, h1, h2, h3, h4⟩ := h
  exact ⟨rs, h1.owned ho hg hne, h2, fun i r hr => ⟨(h3 i r hr).1.owned ho hg hne', (h3 i r hr).2⟩, h4⟩
theorem OwnRows.stored {g : Nat} {t : TypeId} {cs : List Value} (h : OwnRows w B U e e' v xss) (hg : w.grownBy w' (some g)) (hb : Blk w g t cs) (hne : t ≠ e) (hne' : t ≠ e') : OwnRows w' B U e e' v xss := by
  obtain ⟨rs, h1, h2, h3, h4⟩ := h
  exact ⟨rs, h1.stored hg hb hne, h2, fun i r hr => ⟨(h3 i r hr).1.stored hg hb hne', (h3 i r hr).2⟩, h4⟩
theorem OwnRows.apart {B' : Nat} {u : Value} {us : List Value} (h : OwnRows w B U e e' v xss) (ho : Own w B' e' u us) (hg : w.grownBy w' u.ownBlock) (hB : U ≤ B') (hne : e' ≠ e) : OwnRows w' B U e e' v xss := by
  obtain ⟨rs, h1, h2, h3, h4⟩ := h
  refine ⟨rs, h1.owned ho hg hne, h2, fun i r hr => ⟨(h3 i r hr).1.grown hg (fun k hk hc => ?_), (h3 i r hr).2⟩, h4⟩
  have := (h3 i r hr).2 k hk
  have := (ho.lt k hc).1
  omega
theorem OwnRows.open (h : OwnRows w B U e e' v xss) (hne : e ≠ e') : ∃ rs, Own w B e v rs ∧ rs.length = xss.length ∧
    ∀ r xs w1 v' w', Ext w w1 → Own w1 U e' r (xs.map (Value.int .i64)) → B ≤ U → Own w' B e v' (rs ++ [r]) → w1.grownBy w' v.ownBlock → OwnRows w' B w'.heap.size e e' v' (xss ++ [xs]) := by
  obtain ⟨rs, h1, h2, h3, h4⟩ := h
  refine ⟨rs, h1, h2, fun r xs w1 v' w' x hr hBU hv hg => ?_⟩
  have hv1 := h1.ext x
  have hr' := hr.owned hv1 hg hne
  have hrow : ∀ i q, (rs ++ [r])[i]? = some q → (rs[i]? = some q ∧ i < rs.length) ∨ (i = rs.length ∧ q = r) := by
    intro i q hq
    rw [List.getElem?_append] at hq
    split at hq
    · exact .inl ⟨hq, by assumption⟩
    · right
      have : i - rs.length = 0 := by
        rcases Nat.eq_zero_or_pos (i - rs.length) with h | h
        · exact h
        · rw [List.getElem?_eq_none (by simp; omega)] at hq; cases hq
      rw [this] at hq
      simp at hq
      exact ⟨by omega, hq.symm⟩
  refine ⟨rs ++ [r], hv, by simp [h2], fun i q hq => ?_, fun i j q q' hq hq' hij k hk hk' => ?_⟩
  · rcases hrow i q hq with ⟨hq, hlt⟩ | ⟨rfl, rfl⟩
    · have e1 : (xss ++ [xs]).getD i [] = xss.getD i [] := by
        simp [List.getElem?_append, show i < xss.length by omega]
      rw [e1]
      have ho := ((h3 i q hq).1.ext x).owned hv1 hg hne
      exact ⟨ho, fun k hk => (ho.lt k hk).2⟩
    · have e1 : (xss ++ [xs]).getD rs.length [] = xs := by
        simp [List.getElem?_append, h2]
      rw [e1]
      exact ⟨hr'.mono hBU, fun k hk => (hr'.lt k hk).2⟩
  · rcases hrow i q hq with ⟨hq1, _⟩ | ⟨hi1, hq1⟩ <;> rcases hrow j q' hq' with ⟨hq2, _⟩ | ⟨hj1, hq2⟩
    · exact h4 i j q q' hq1 hq2 hij k hk hk'
    · have a1 := (h3 i q hq1).2 k hk
      have a2 := (hr.lt k (hq2 ▸ hk')).1
      omega
    · have a1 := (h3 j q' hq2).2 k hk'
      have a2 := (hr.lt k (hq1 ▸ hk)).1
      omega
    · exact hij (by omega)
theorem OwnRows.rowAt (h : OwnRows w B U e e' v xss) {i : Int} {p : Addr} {r : Value} (ha : At w e v i p r) : Own w B e' r ((xss.getD i.toNat []).map (Value.int .i64)) ∧ i.toNat < xss.length := by
  obtain ⟨rs, h1, h2, h3, h4⟩ := h
  obtain ⟨hc, ⟨b, o, c, n, rfl, rfl, h0, hn⟩, hty⟩ := ha
  rcases h1.cases with ⟨hv, _⟩ | ⟨g, cap, cs, hv, hB, hb, h5, h6, h7, h8⟩
  · simp at hv
  · simp only [Value.slice.injEq, Option.some.injEq, Addr.mk.injEq] at hv
    obtain ⟨⟨rfl, rfl, _⟩, rfl, rfl⟩ := hv
    rw [hb.cell] at hc
    have hlt : i.toNat < rs.length := by omega
    have : rs[i.toNat]? = some r := by
      rw [← h8, List.getElem?_take, if_pos hlt]
      simpa using hc
    exact ⟨(h3 _ _ this).1, by omega⟩
theorem OwnRows.set (h : OwnRows w B U e e' v xss) (hne : e' ≠ e) {i : Int} {p : Addr} {r : Value} (ha : At w e v i p r) {ys : List Int} (hr : Own w' B e' r (ys.map (Value.int .i64))) (hg : w.grownBy w' r.ownBlock) :
    OwnRows w' B U e e' v (xss.set i.toNat ys) ∧ At w' e v i p r := by
  have hold := (h.rowAt ha).1
  obtain ⟨rs, h1, h2, h3, h4⟩ := h
  have h1' := h1.owned hold hg hne
  have hcell : w'.cell? p = w.cell? p := by
    obtain ⟨hc, ⟨b, o, c, n, rfl, rfl, h0, hn⟩, hty⟩ := ha
    rcases h1.cases with ⟨hv, _⟩ | ⟨g, cap, cs, hv, hB, hb, h5, h6, h7, h8⟩
    · simp at hv
    · simp only [Value.slice.injEq, Option.some.injEq, Addr.mk.injEq] at hv
      obtain ⟨⟨rfl, rfl, _⟩, rfl, rfl⟩ := hv
      rw [hb.cell, (hb.owned hold hg hne).cell]
  have hrs : rs[i.toNat]? = some r := by
    obtain ⟨hc, ⟨b, o, c, n, rfl, rfl, h0, hn⟩, hty⟩ := ha
    rcases h1.cases with ⟨hv, _⟩ | ⟨g, cap, cs, hv, hB, hb, h5, h6, h7, h8⟩
    · simp at hv
    · simp only [Value.slice.injEq, Option.some.injEq, Addr.mk.injEq] at hv
      obtain ⟨⟨rfl, rfl, _⟩, rfl, rfl⟩ := hv
      rw [hb.cell] at hc
      have hlt : i.toNat < rs.length := by omega
      rw [← h8, List.getElem?_take, if_pos hlt]
      simpa using hc
  refine ⟨⟨rs, h1', by simp [h2], fun j q hq => ?_, h4⟩, At.owned ha hold hg hne⟩
  by_cases hj : i.toNat = j
  · subst hj
    rw [hrs] at hq
    obtain rfl := Option.some.inj hq
    have hlt : i.toNat < xss.length := by
      have := (List.getElem?_eq_some_iff.1 hrs).1
      omega
    have e1 : (xss.set i.toNat ys).getD i.toNat [] = ys := by simp [hlt]
    rw [e1]
    exact ⟨hr, (h3 _ _ hrs).2⟩
  · have e1 : (xss.set i.toNat ys).getD j [] = xss.getD j [] := by simp [List.getElem?_set_ne hj]
    rw [e1]
    exact ⟨(h3 j q hq).1.grown hg (fun k hk hc => h4 i.toNat j r q hrs hq hj k hc hk), (h3 j q hq).2⟩
end
theorem one_nil : ∀ v ∈ ([] : List Value), v.oneCell' = true := fun _ h => by cases h
theorem one_cons {v : Value} {l : List Value} (h : v.oneCell' = true) (hs : ∀ u ∈ l, u.oneCell' = true) : ∀ u ∈ v :: l, u.oneCell' = true := fun u hu => by
  rcases List.mem_cons.1 hu with rfl | hu
  · exact h
  · exact hs u hu
theorem one_ints (xs : List Int) : ∀ v ∈ xs.map (Value.int .i64), v.oneCell' = true := fun v h => by obtain ⟨x, _, rfl⟩ := List.mem_map.1 h; rfl
theorem Row.one {w : World} {e : TypeId} {v : Value} {vs : List Value} (h : Row w e v vs) : v.oneCell' = true := by
  obtain ⟨p, c, rfl⟩ := h.shape
  rfl
theorem Rows.one {w : World} {e e' : TypeId} {v : Value} {xss : List (List Int)} (h : Rows w e e' v xss) : v.oneCell' = true := by
  obtain ⟨rs, h1, _⟩ := h
  exact h1.one
def AtO (v : Value) (i : Int) (p : Addr) : Prop := ∃ g n c, v = .slice (some ⟨g, 0, none⟩) n c ∧ p = ⟨g, i.toNat, none⟩ ∧ 0 ≤ i ∧ i < (n : Nat)
theorem Own.at {w : World} {B : Nat} {e : TypeId} {v : Value} {vs : List Value} (h : Own w B e v vs) {i : Int} (hi : 0 ≤ i) (hlt : i.toNat < vs.length) : ∃ p, AtO v i p := by
  rcases h.cases with ⟨rfl, rfl⟩ | ⟨g, cap, cs, rfl, _⟩
  · cases hlt
  · exact ⟨⟨g, i.toNat, none⟩, g, vs.length, cap, rfl, rfl, hi, by omega⟩
theorem AtO.of {w : World} {B : Nat} {e : TypeId} {v u : Value} {vs : List Value} {i : Int} {p : Addr} (h : Own w B e v vs) (ha : At w e v i p u) : AtO v i p := by
  obtain ⟨hc, ⟨b, o, c, n, rfl, rfl, h0, hn⟩, hty⟩ := ha
  rcases h.cases with ⟨hv, _⟩ | ⟨g, cap, cs, hv, _⟩
  · simp at hv
  · simp only [Value.slice.injEq, Option.some.injEq, Addr.mk.injEq] at hv
    obtain ⟨⟨rfl, rfl, _⟩, rfl, rfl⟩ := hv
    exact ⟨_, _, _, rfl, by simp, h0, hn⟩
section
variable {P : Program} {N : Nat} {ops : Array Oper} {Q : Exit → Act → World → Prop} {rest : List Oper} {l : Slots} {w : World}
variable {d : Nat} {ty : TypeId} {pos : String} {after : Array Edge} {g : Option (Nat × Bool)}
def SlK (P : Program) (t e k : Nat) : Prop := P.underlying t = some (.slice e) ∧ ∀ w, (sizeOf e).run P w = .ok k w
def ArT (P : Program) (t e n : Nat) : Prop := P.underlying t = some (.array n e) ∧ ∀ w, (sizeOf e).run P w = .ok 1 w
theorem Still.ixS {t e k : Nat} {x ix : Operand} {b o n c : Nat} {i : Int} {kk : IntKind} (hs : SlK P t e k) (hx : ev l x = some (.slice (some ⟨b, o, none⟩) n c)) (hix : ev l ix = some (.int kk i)) (h0 : 0 ≤ i) (h1 : i < n) :
    Still P N l ⟨some d, .indexAddr t x ix, ty, pos, after, g⟩ (.pointer (some ⟨b, o + i.toNat * k, none⟩)) w := fun a ha => by
  have he : P.elem t = e := by simp [Program.elem, hs.1]
  have := run_indexAt_slice (P := P) (w := w) t ⟨b, o, none⟩ n c kk i (by rw [he]; exact hs.1)
  rw [he, hs.2] at this
  simp [execOp, ha.ev hx, ha.ev hix, this, h0, h1, addr_add]
theorem Still.ixA {t e n : Nat} {x ix : Operand} {b o : Nat} {i : Int} {kk : IntKind} (hs : ArT P t e n) (hx : ev l x = some (.pointer (some ⟨b, o, none⟩))) (hix : ev l ix = some (.int kk i)) (h0 : 0 ≤ i) (h1 : i < n) :
    Still P N l ⟨some d, .indexAddr t x ix, ty, pos, after, g⟩ (.pointer (some ⟨b, o + i.toNat, none⟩)) w := fun a ha => by
  have he : P.elem t = e := by simp [Program.elem, hs.1]
  have hn : P.arrayLen t = n := by simp [Program.arrayLen, hs.1]
  have := run_indexAt_array (P := P) (w := w) t ⟨b, o, none⟩ kk i (by rw [he, hn]; exact hs.1)
  rw [he, hn, hs.2] at this
  simp [execOp, ha.ev hx, ha.ev hix, this, h0, h1, addr_add]
theorem Sq.makeK {t e k : Nat} {z : Value} {x y : Operand} {n : Int} (hs : SlK P t e k) (hi : ∃ i, P.info? e = some i ∧ i.zero = some z ∧ i.size = k ∧ i.bytes ≤ 512) (hk : k ≤ 64) (hz : z.cells.toList = List.replicate k (.int .i64 0)) (hg : On ops l g) (hg2 : g = none) (hN : Nat.blt d N = true) (hx : ev l x = some (.int .i64 n)) (hy : ev l y = some (.int .i64 n)) (hn : 0 ≤ n ∧ n ≤ 100000000)
    (h : ∀ b w', Ext w w' → w.heap.size ≤ b → Blk w' b e ((List.replicate (n.toNat * k) (0 : Int)).map (Value.int .i64)) → Sq P N ops Q rest ((d, .slice (some ⟨b, 0, none⟩) n.toNat n.toNat) :: l) w') :
    Sq P N ops Q (⟨some d, .makeSlice t x y, ty, pos, after, g⟩ :: rest) l w := by
  subst hg2
  intro a ha
  obtain ⟨i, hi, hz0, hsz, hby⟩ := hi
  have hb : i.bytes * n.toNat ≤ 512 * 100000000 := Nat.mul_le_mul hby (by omega)
  refine wpList_make_full w (P := P) rfl x y t rfl w.heap.size e i z k hs.1 hi hz0 hsz .i64 .i64 n n n.toNat (ha.ev hx) (ha.ev hy) (by omega) (by omega) (by omega) (by unfold maxLen; omega) (Nat.le_refl _) fun w' r1 r2 => ?_
  have hc : (madeCells z.cells (n.toNat * k)).toList = (List.replicate (n.toNat * k) (0 : Int)).map (Value.int .i64) := by
    have hz2 : z.cells = (List.replicate k (Value.int .i64 0)).toArray := by
      apply Array.toList_inj.1
      simpa using hz
    apply List.ext_getElem
    · simp [size_madeCells]
    · intro j h1 h2
      have hj : j < n.toNat * k := by simpa using h2
      have hk0 : 0 < k := by
        rcases Nat.eq_zero_or_pos k with rfl | h
        · simp at hj
        · exact h
      have hm : j % k < k := Nat.mod_lt _ hk0
      simp [madeCells, hz2, hm]
  rw [hc] at r1
  refine h _ w' (Ext.of_grown r2) (Nat.le_refl _) ?_ _ (ha.put hN)
  rcases r1.2 with ⟨h1, _⟩ | ⟨g', cap, cur, hv, hg', hb', h3, h4, h5, h6⟩
  · simp at h1
  · simp only [Value.slice.injEq, Option.some.injEq, Addr.mk.injEq] at hv
    obtain ⟨⟨rfl, _⟩, _, rfl⟩ := hv
    have : cur.toList = (List.replicate (n.toNat * k) (0 : Int)).map (Value.int .i64) := by
      rw [← h6, List.take_of_length_le (by simp [h5])]
    simp only [Blk]
    rw [← this]
    simpa using hb'
theorem Still.atO {t e : TypeId} {z : Value} {x ix : Operand} {v : Value} {i : Int} {k : IntKind} {p : Addr} (hs : SlT P t e z) (h : AtO v i p) (hx : ev l x = some v) (hix : ev l ix = some (.int k i)) :
    Still P N l ⟨some d, .indexAddr t x ix, ty, pos, after, g⟩ (.pointer (some p)) w := fun a ha => by
  obtain ⟨b, n, c, rfl, rfl, h0, h1⟩ := h
  have := run_indexAt_slice (P := P) (w := w) t ⟨b, 0, none⟩ n c k i (by rw [hs.elem]; exact hs.und)
  rw [hs.elem, hs.sizeOf] at this
  simp [execOp, ha.ev hx, ha.ev hix, this, h0, h1, addr_add]
theorem Sq.atO {t e : TypeId} {z : Value} {x ix : Operand} {v : Value} {i : Int} {k : IntKind} {p : Addr} (hs : SlT P t e z) (h : AtO v i p) (hg : On ops l g) (hN : Nat.blt d N = true) (hx : ev l x = some v) (hix : ev l ix = some (.int k i))
    (hK : Sq P N ops Q rest ((d, .pointer (some p)) :: l) w) : Sq P N ops Q (⟨some d, .indexAddr t x ix, ty, pos, after, g⟩ :: rest) l w := .val hg rfl hN (Still.atO hs h hx hix) hK
theorem Own.set {B : Nat} {e : TypeId} {v : Value} {vs : List Value} (h : Own w B e v vs) {i : Int} {p : Addr} (hp : AtO v i p) (u : Value) : Own (w.setCell p u) B e v (vs.set i.toNat u) ∧ w.grownBy (w.setCell p u) v.ownBlock ∧ (∃ b, p = ⟨b, i.toNat, none⟩) ∧ (∃ v0, w.cell? p = some v0) ∧ w.frozen? p = false := by
  obtain ⟨b, n, c, rfl, rfl, h0, h1⟩ := hp
  rcases h.cases with ⟨h, _⟩ | ⟨g', cap, cs, hv, hB, hb, h3, h4, h5, h6⟩
  · simp at h
  · simp only [Value.slice.injEq, Option.some.injEq, Addr.mk.injEq] at hv
    obtain ⟨⟨rfl, _, _⟩, rfl, rfl⟩ := hv
    have hlt : i.toNat < cs.length := by omega
    refine ⟨?_, grown_setCell _ _ _ _, ⟨_, rfl⟩, ⟨cs[i.toNat], by rw [hb.cell, List.getElem?_eq_getElem hlt]⟩, hb.free _⟩
    have := Own.mk (vs := vs.set i.toNat u) hB (hb.set i.toNat u) (by simpa using h3) h4 (by simpa using h5) (by
      rw [List.take_set, List.length_set, h6])
    simpa using this
theorem Sq.storeO {t e : TypeId} {x y : Operand} {v u : Value} {vs : List Value} {B : Nat} {i : Int} {p : Addr} (h1 : One P t) (ho : Own w B e v vs) (hp : AtO v i p) (hg : On ops l g) (hx : ev l x = some (.pointer (some p))) (hy : ev l y = some u) (hu : u.oneCell' = true)
    (h : ∀ w', w.grownBy w' v.ownBlock → Own w' B e v (vs.set i.toNat u) → Sq P N ops Q rest l w') : Sq P N ops Q (⟨none, .store t x y, ty, pos, after, g⟩ :: rest) l w := by
  obtain ⟨k1, k2, ⟨b, rfl⟩, ⟨v0, k4⟩, k5⟩ := ho.set hp u
  refine .unit (w' := w.setCell _ u) hg rfl (fun a ha => ?_) (h _ k2 k1)
  have hc : u.cells = #[u] := by cases u <;> simp_all [Value.cells, Value.oneCell']
  simp [execOp, ha.ev hx, ha.ev hy, Instr.storeAt, Instr.sureAddr, storeVar, hc, h1.size, storeCells, addr_add, run_store _ _ _ _ _ hu, k4, k5]
theorem Sq.make {t e : TypeId} {z : Value} {x y : Operand} {n : Int} (hs : SlT P t e z) (hg : On ops l g) (hg2 : g = none) (hN : Nat.blt d N = true) (hx : ev l x = some (.int .i64 n)) (hy : ev l y = some (.int .i64 n)) (hn : 0 ≤ n ∧ n ≤ 1000000000)
    (h : ∀ b w', Ext w w' → w.heap.size ≤ b → (∀ B, B ≤ w.heap.size → Own w' B e (.slice (some ⟨b, 0, none⟩) n.toNat n.toNat) (List.replicate n.toNat z)) → Sq P N ops Q rest ((d, .slice (some ⟨b, 0, none⟩) n.toNat n.toNat) :: l) w') :
    Sq P N ops Q (⟨some d, .makeSlice t x y, ty, pos, after, g⟩ :: rest) l w := by
  subst hg2
  intro a ha
  obtain ⟨i, hi, hz, hsz, hby⟩ := hs.info
  have hzc : z.cells = #[z] := by
    have := hs.one
    cases z <;> simp_all [Value.cells, Value.oneCell']
  have hb : i.bytes * n.toNat ≤ 64 * 1000000000 := Nat.mul_le_mul hby (by omega)
  refine wpList_make_full w (P := P) rfl x y t rfl w.heap.size e i z 1 hs.und hi hz hsz .i64 .i64 n n n.toNat (ha.ev hx) (ha.ev hy) (by omega) (by omega) (by omega) (by unfold maxLen; omega) (Nat.le_refl _) fun w' r1 r2 => ?_
  rw [hzc, Nat.mul_one, toList_madeCells_one] at r1
  have hown : Own w' w.heap.size e (.slice (some ⟨w.heap.size, 0, none⟩) n.toNat n.toNat) (List.replicate n.toNat z) := by simpa [Own] using r1
  exact h _ w' (Ext.of_grown r2) (Nat.le_refl _) (fun B hB => hown.mono hB) _ (ha.put hN)
end
end Go.Proofs.YtnckpafknojdhaaDoor
set_option linter.unusedSimpArgs false
set_option linter.unusedVariables false
namespace Go.Proofs.YtnckpafknojdhaaDoor
open Go.RowKit
section
variable {P : Program} {N : Nat} {ops : Array Oper} {Q : Exit → Act → World → Prop} {rest : List Oper} {l : Slots} {w : World}
variable {d : Nat} {ty : TypeId} {pos : String} {after : Array Edge} {g : Option (Nat × Bool)}
theorem Still.cutLH {t : TypeId} {x lo hi : Operand} {s : ByteArray} {m n : Int} (ht : P.underlying t = some .string) (hx : ev l x = some (.string s)) (hlo : ev l lo = some (.int .i64 m)) (hhi : ev l hi = some (.int .i64 n)) (hb : 0 ≤ m ∧ m ≤ n ∧ n ≤ (s.size : Int)) : Still P N l ⟨some d, .slice t x (some lo) (some hi) none, ty, pos, after, g⟩ (.string (s.extract m.toNat n.toNat)) w := fun a ha => by
  have h1 := run_sliceAt_string (P := P) w t (.string s) (some (.int .i64 m)) (some (.int .i64 n)) none ht
  have h2 := run_slice_string_if (P := P) w t s .i64 .i64 m n ht
  have h3 : 0 ≤ n ∧ n ≤ (s.size : Int) := by omega
  have h4 : 0 ≤ m ∧ m ≤ n := by omega
  rw [if_pos h3, if_pos h4] at h2
  simp [execOp, ha.ev hx, ha.ev hlo, ha.ev hhi, h1, h2]
end
theorem size_cat (s t : ByteArray) : (s ++ t).size = s.size + t.size := by simp
end Go.Proofs.YtnckpafknojdhaaDoor
set_option linter.unusedSimpArgs false
set_option linter.unusedVariables false
namespace Go.Proofs.YtnckpafknojdhaaDoor
open Go.RowKit
section
variable {P : Program} {N : Nat} {ops : Array Oper} {Q : Exit → Act → World → Prop} {rest : List Oper} {l : Slots} {w : World}
variable {d : Nat} {ty : TypeId} {pos : String} {after : Array Edge} {g : Option (Nat × Bool)}
theorem Still.makeFunc {k : FuncId} {xs : List Operand} {vs : List Value} (hx : evs l xs = some vs) : Still P N l ⟨some d, .makeFunc (.func k) #[] xs.toArray, ty, pos, after, g⟩ (.func (.func k) #[] vs.toArray) w := fun a ha => by
  have : xs.toArray.map a.eval = vs.toArray := by rw [List.map_toArray, ha.evs hx]
  simp [execOp, Instr.makeFunc, this, ha.evs hx]
theorem Sq.makeFunc {k : FuncId} {xs : List Operand} {vs : List Value} (hg : On ops l g) (hN : Nat.blt d N = true) (hx : evs l xs = some vs) (h : Sq P N ops Q rest ((d, .func (.func k) #[] vs.toArray) :: l) w) :
    Sq P N ops Q (⟨some d, .makeFunc (.func k) #[] xs.toArray, ty, pos, after, g⟩ :: rest) l w := .val hg rfl hN (Still.makeFunc hx) h
theorem Sq.callC {f : FuncId} {fn : Func} {x : Operand} {xs : List Operand} {ats : Array TypeId} {vs cs : List Value} {R : Value → World → Prop} (hf : Fn P f fn) (hg : On ops l g) (hN : Nat.blt d N = true)
    (hc : ev l x = some (.func (.func f) #[] cs.toArray)) (hx : evs l xs = some vs) (hr : Ret P f (vs ++ cs).toArray w R) (h : ∀ v w', R v w' → Sq P N ops Q rest ((d, v) :: l) w') :
    Sq P N ops Q (⟨some d, .call ⟨.value x, xs.toArray, ats⟩, ty, pos, after, g⟩ :: rest) l w := by
  intro a ha
  refine wpList_step fun K hK => ?_
  rw [if_pos (hg.wanted ha)]
  unfold Oper.wp
  have e1 : xs.toArray.map a.eval = vs.toArray := by rw [List.map_toArray, ha.evs hx]
  have e : execOp a.eval ⟨some d, .call ⟨.value x, xs.toArray, ats⟩, ty, pos, after, g⟩ = callFunc f (vs ++ cs).toArray := by
    show (do let d ← resolve a.eval ⟨.value x, xs.toArray, ats⟩ ty; invoke d.target d.args) = _
    unfold resolve
    simp only [e1, ha.ev hc, Deferred.ofValue]
    show invoke (.fn (.func f) cs.toArray) (#[] ++ vs.toArray) = _
    simp [invoke]
  rw [e, run_callFunc hf, Oper.upon_enter]
  refine Calls.mono hr fun e w' he => ?_
  obtain ⟨v, rfl, hv⟩ := he
  exact hK _ _ (h v w' hv _ (ha.put hN))
def MapN {κ : Type} (enc : κ → Value) (w : World) (b : Nat) (xs : List κ) : Prop := ∃ es clock, w.heap[b]? = some (.map es clock) ∧ es.toList.map (fun e => (e.key, e.val)) = xs.zipIdx.map fun p => (enc p.1, Value.int .i64 (p.2 : Int))
variable {κ : Type} {enc : κ → Value} {w' : World} {b : Nat} {xs : List κ}
theorem MapN.lt (h : MapN enc w b xs) : b < w.heap.size := by
  obtain ⟨es, c, hb, _⟩ := h
  exact (Array.getElem?_eq_some_iff.1 hb).1
theorem MapN.ext (h : MapN enc w b xs) (x : Ext w w') : MapN enc w' b xs := by
  obtain ⟨es, c, hb, hx⟩ := h
  exact ⟨es, c, x.heap hb, hx⟩
theorem MapN.grown {r : Option Nat} (h : MapN enc w b xs) (hg : w.grownBy w' r) (hr : r ≠ some b) : MapN enc w' b xs := by
  obtain ⟨es, c, hb, hx⟩ := h
  exact ⟨es, c, by rw [hg.block b (Array.getElem?_eq_some_iff.1 hb).1 (fun e => hr e.symm)]; exact hb, hx⟩
theorem MapN.stored {gb : Nat} {t : TypeId} {cs : List Value} (h : MapN enc w b xs) (hg : w.grownBy w' (some gb)) (hb : Blk w gb t cs) : MapN enc w' b xs := by
  refine h.grown hg (fun e => ?_)
  injection e with e
  subst e
  obtain ⟨es, c, hb', _⟩ := h
  simp only [Blk] at hb
  rw [hb] at hb'
  cases hb'
theorem MapN.owned {B : Nat} {t : TypeId} {u : Value} {us : List Value} (h : MapN enc w b xs) (ho : Own w B t u us) (hg : w.grownBy w' u.ownBlock) : MapN enc w' b xs := by
  rcases ho.cases with ⟨rfl, rfl⟩ | ⟨gb, cap, cs, rfl, hg', hb, _⟩
  · exact h.ext (Ext.of_grown hg)
  · exact h.stored (gb := gb) hg hb
theorem Blk.mapped {bb : Nat} {t : TypeId} {cs : List Value} (h : Blk w bb t cs) (hm : MapN enc w b xs) (hg : w.grownBy w' (some b)) : Blk w' bb t cs := by
  refine h.grown hg (fun e => ?_)
  injection e with e
  subst e
  obtain ⟨es, c, hb', _⟩ := hm
  simp only [Blk] at h
  rw [h] at hb'
  cases hb'
theorem Row.mapped {e : TypeId} {v : Value} {vs : List Value} (h : Row w e v vs) (hm : MapN enc w b xs) (hg : w.grownBy w' (some b)) : Row w' e v vs := by
  rcases h with h | ⟨b', o, c, cur, fr, hv, hb, hx⟩
  · exact .inl h
  · refine .inr ⟨b', o, c, cur, fr, hv, ?_, hx⟩
    rw [hg.block b' (lt_of_block hb) (fun h => ?_)]
    · exact hb
    · injection h with h
      subst h
      obtain ⟨es, cc, hb', _⟩ := hm
      rw [hb] at hb'
      cases hb'
theorem Own.mapped {B : Nat} {e : TypeId} {v : Value} {vs : List Value} (h : Own w B e v vs) (hm : MapN enc w b xs) (hg : w.grownBy w' (some b)) : Own w' B e v vs := by
  rcases h.cases with ⟨rfl, rfl⟩ | ⟨g', cap, cs, rfl, hg', hb, h3, h4, h5, h6⟩
  · exact Own.nil _ _ _
  · exact Own.mk hg' (hb.mapped hm hg) h3 h4 h5 h6
theorem OwnRows.mapped {B U : Nat} {e e' : TypeId} {v : Value} {xss : List (List Int)} (h : OwnRows w B U e e' v xss) (hm : MapN enc w b xs) (hg : w.grownBy w' (some b)) : OwnRows w' B U e e' v xss := by
  obtain ⟨rs, h1, h2, h3, h4⟩ := h
  exact ⟨rs, h1.mapped hm hg, h2, fun i r hr => ⟨(h3 i r hr).1.mapped hm hg, (h3 i r hr).2⟩, h4⟩
theorem Ext.mapped {w1 : World} (h : Ext w1 w) (hg : w.grownBy w' (some b)) (hB : w1.heap.size ≤ b) : Ext w1 w' := h.grown hg fun k hk => by injection hk with hk; omega
theorem Sq.makeMap {t : TypeId} (enc : κ → Value) (hg : On ops l g) (hN : Nat.blt d N = true) (h : ∀ b w', Ext w w' → MapN enc w' b ([] : List κ) → w.heap.size ≤ b → Sq P N ops Q rest ((d, .map (some b)) :: l) w') :
    Sq P N ops Q (⟨some d, .makeMap t none, ty, pos, after, g⟩ :: rest) l w :=
  .val (w' := w.alloc (.map #[] 0)) hg rfl hN (fun a ha => by simp [execOp, Instr.makeMap, run_makeMap]) (h _ _ (Ext.alloc _ _) ⟨#[], 0, heap_alloc_new w _, rfl⟩ (Nat.le_refl _))
theorem Still.lenMap {t kt et : TypeId} {x : Operand} (ht : P.underlying t = some (.map kt et)) (hm : MapN enc w b xs) (hx : ev l x = some (.map (some b))) : Still P N l ⟨some d, .call ⟨.builtin .len, #[x], #[t]⟩, ty, pos, after, g⟩ (.int .i64 xs.length) w := fun a ha => by
  obtain ⟨es, c, hb, hes⟩ := hm
  have hl : es.size = xs.length := by
    have := congrArg List.length hes
    simpa using this
  rw [BigFrame.execOp_builtin, BigFrame.builtin_len]
  have hr : (Builtin.len_ #[t] ty #[.map (some b)]).run P w = .ok (.int .i64 xs.length) w := by
    simp [Builtin.len_, run_underlying ht, MapKept.run_getObj_map hb, goInt, hl, Result.andThen]
  simp only [List.map_toArray, List.map_cons, List.map_nil, ha.ev hx, Sem.run_bind, hr, Result.andThen, Sem.run_pure]
theorem Sq.lenMap {t kt et : TypeId} {x : Operand} (ht : P.underlying t = some (.map kt et)) (hm : MapN enc w b xs) (hg : On ops l g) (hN : Nat.blt d N = true) (hx : ev l x = some (.map (some b))) (h : Sq P N ops Q rest ((d, .int .i64 xs.length) :: l) w) :
    Sq P N ops Q (⟨some d, .call ⟨.builtin .len, #[x], #[t]⟩, ty, pos, after, g⟩ :: rest) l w := .val hg rfl hN (Still.lenMap ht hm hx) h
structure KeyT [DecidableEq κ] (P : Program) (t : TypeId) (enc : κ → Value) : Prop where
  types : ∃ kt et kd, P.underlying t = some (.map kt et) ∧ P.underlying kt = some kd ∧ (∀ x y, Instr.sameNow kd (enc x) (enc y) = some (decide (x = y))) ∧ (∀ w, (zeroValue et).run P w = .ok (.int .i64 0) w) ∧ ∀ x, MapKept.IsKey kd (enc x)
variable [DecidableEq κ]
theorem findNow_num {kd : TypeDesc} (hk : ∀ x y, Instr.sameNow kd (enc x) (enc y) = some (decide (x = y))) (k : κ) : ∀ (es : List MapEntry) (xs : List κ) (j s : Nat), es.map (fun e => (e.key, e.val)) = (xs.zipIdx s).map (fun p => (enc p.1, Value.int .i64 (p.2 : Int))) →
    Instr.findNow kd (enc k) es j = some (if k ∈ xs then some (j + xs.idxOf k, .int .i64 ((s + xs.idxOf k : Nat) : Int)) else none)
  | [], xs, j, s, h => by
    have : xs = [] := by cases xs with | nil => rfl | cons x r => simp at h
    subst this
    simp [Instr.findNow]
  | e :: es, xs, j, s, h => by
    cases xs with
    | nil => simp at h
    | cons x r =>
      simp only [List.map_cons, List.zipIdx_cons, List.cons.injEq, Prod.mk.injEq] at h
      obtain ⟨⟨h1, h2⟩, h3⟩ := h
      have ih := findNow_num hk k es r (j + 1) (s + 1) h3
      unfold Instr.findNow
      rw [h1, hk]
      by_cases hx : k = x
      · subst hx
        simp [h2]
      · have hx' : (x == k) = false := by simpa using fun h => hx h.symm
        rw [decide_eq_false hx]
        show Instr.findNow kd (enc k) es (j + 1) = _
        rw [ih]
        by_cases hm : k ∈ r
        · rw [if_pos hm, if_pos (List.mem_cons_of_mem _ hm), List.idxOf_cons, hx']
          simp only [cond_false]
          congr 3
          · omega
          · congr 1; omega
        · rw [if_neg hm, if_neg (by simp [hx, hm])]
theorem findKey_num {kt : TypeId} {kd : TypeDesc} (hd : P.underlying kt = some kd) (hk : ∀ x y, Instr.sameNow kd (enc x) (enc y) = some (decide (x = y))) (k : κ) {es : Array MapEntry} (h : es.toList.map (fun e => (e.key, e.val)) = xs.zipIdx.map (fun p => (enc p.1, Value.int .i64 (p.2 : Int)))) :
    (Instr.findKey kt (enc k) es.toList).run P w = .ok (if k ∈ xs then some (xs.idxOf k, .int .i64 (xs.idxOf k : Int)) else none) w := by
  have := findNow_num hk k es.toList xs 0 0 h
  simp only [Nat.zero_add] at this
  simp [Instr.findKey, run_underlying hd, this]
theorem Still.lookup {t : TypeId} {m x : Operand} {k : κ} (ht : KeyT P t enc) (hm : MapN enc w b xs) (hx : ev l m = some (.map (some b))) (hk : ev l x = some (enc k)) :
    Still P N l ⟨some d, .lookup t m x true, ty, pos, after, g⟩ (.tuple #[.int .i64 (if k ∈ xs then (xs.idxOf k : Int) else 0), .bool (decide (k ∈ xs))]) w := fun a ha => by
  obtain ⟨kt, et, kd, h1, h2, h3, h4, h5⟩ := ht.types
  obtain ⟨es, c, hb, hes⟩ := hm
  have hf := findKey_num (P := P) (w := w) h2 h3 k hes
  by_cases hin : k ∈ xs
  · rw [if_pos hin] at hf
    simp [execOp, Instr.lookup, ha.ev hx, ha.ev hk, run_underlying h1, MapKept.run_getObj_map hb, MapKept.run_checkKey h2 (h5 k), hf, hin, Result.andThen]
  · rw [if_neg hin] at hf
    simp [execOp, Instr.lookup, ha.ev hx, ha.ev hk, run_underlying h1, MapKept.run_getObj_map hb, MapKept.run_checkKey h2 (h5 k), hf, hin, h4, Result.andThen]
theorem Sq.lookup {t : TypeId} {m x : Operand} {k : κ} (ht : KeyT P t enc) (hm : MapN enc w b xs) (hg : On ops l g) (hN : Nat.blt d N = true) (hx : ev l m = some (.map (some b))) (hk : ev l x = some (enc k))
    (h : Sq P N ops Q rest ((d, .tuple #[.int .i64 (if k ∈ xs then (xs.idxOf k : Int) else 0), .bool (decide (k ∈ xs))]) :: l) w) : Sq P N ops Q (⟨some d, .lookup t m x true, ty, pos, after, g⟩ :: rest) l w := .val hg rfl hN (Still.lookup ht hm hx hk) h
theorem Sq.mapUpdate {t : TypeId} {m x y : Operand} {k : κ} {n : Int} (ht : KeyT P t enc) (hm : MapN enc w b xs) (hg : On ops l g) (hx : ev l m = some (.map (some b))) (hk : ev l x = some (enc k)) (hy : ev l y = some (.int .i64 n)) (hn : n = xs.length) (hin : k ∉ xs)
    (h : ∀ w', w.grownBy w' (some b) → MapN enc w' b (xs ++ [k]) → Sq P N ops Q rest l w') : Sq P N ops Q (⟨none, .mapUpdate t m x y, ty, pos, after, g⟩ :: rest) l w := by
  obtain ⟨kt, et, kd, h1, h2, h3, h4, h5⟩ := ht.types
  obtain ⟨es, c, hb, hes⟩ := hm
  have hf := findKey_num (P := P) (w := w) h2 h3 k hes
  rw [if_neg hin] at hf
  have hs := MapKept.heap_set (o' := .map (es.push { key := enc k, val := .int .i64 n, born := c }) (c + 1)) hb
  refine .unit (w' := { w with heap := w.heap.setIfInBounds b (.map (es.push { key := enc k, val := .int .i64 n, born := c }) (c + 1)) }) hg rfl (fun a ha => ?_) (h _ ⟨rfl, rfl, rfl, by simp, fun j _ hne => hs.2 j (fun e => hne (congrArg some e))⟩ ⟨_, _, hs.1, ?_⟩)
  · simp [execOp, Instr.mapUpdate, ha.ev hx, ha.ev hk, ha.ev hy, run_underlying h1, MapKept.run_getObj_map hb, MapKept.run_checkKey h2 (h5 k), hf, MapKept.run_setObj_map _ hb, Result.andThen]
  · rw [Array.toList_push, List.map_append, hes, List.zipIdx_append, List.map_append, hn]
    simp
def Apart (v u : Value) : Prop := ∀ k, v.ownBlock = some k → u.ownBlock ≠ some k
theorem Apart.symm {v u : Value} (h : Apart v u) : Apart u v := fun k hk hc => h k hc hk
theorem Apart.nil (u : Value) : Apart (.slice none 0 0) u := fun k hk => by cases hk
theorem Apart.grow {v v' u : Value} {B : Nat} {e : TypeId} {us : List Value} (h : Apart v u) (ho : Own w B e u us) (hf : ∀ k, v'.ownBlock = some k → v.ownBlock = some k ∨ w.heap.size ≤ k) : Apart v' u := fun k hk hc => by
  rcases hf k hk with h1 | h1
  · exact h k h1 hc
  · have := (ho.lt k hc).2; omega
theorem Own.other {B : Nat} {e : TypeId} {v u : Value} {vs : List Value} (h : Own w B e v vs) (hg : w.grownBy w' u.ownBlock) (ha : Apart u v) : Own w' B e v vs := h.grown hg fun k hk hc => ha k hc hk
theorem fresh_of {B n m size c : Nat} {t e : TypeId} {i : TypeInfo} {z : Value} {v v' : Value} {xs news : List Value} {ad : Addr} {w'' : World} (ht : P.underlying t = some (.slice e)) (hi : P.info? e = some i) (hz : i.zero = some z) (hsize : i.size = size)
    (hown : w.ownsRow B e size v n xs) (hl : news.length = m * size) (hnews : ∀ j u, news[j]? = some u → w.cell? (ad.add j) = some u) (h1 : ∀ u ∈ news, u.oneCell' = true) (h63 : n + m ≤ maxLen) (hbytes : (n + m) * i.bytes ≤ 140737488355328) (hm : 0 < m)
    (hr : (Builtin.append_ #[t, t] ty #[v, .slice (some ad) m c]).run P w = .ok v' w'') : ∀ k, v'.ownBlock = some k → v.ownBlock = some k ∨ w.heap.size ≤ k := by
  subst hsize
  have h63' : n + m ≤ 9223372036854775807 := by simp only [maxLen] at h63; omega
  intro k hk
  rcases hown.2 with ⟨rfl, rfl⟩ | ⟨gb, cap, cur, rfl, hbg, hgg, hnc, hcm, hcs, htake⟩
  · have e2 := run_append_nil (P := P) w t ty e i z ht hi hz ad m c news hl hnews (by omega) (by omega) (Nat.le_trans (by simpa using hbytes) (by decide : 140737488355328 ≤ 281474976710656))
    rw [e2] at hr
    injection hr with hv _
    subst hv
    simp [Value.ownBlock] at hk
    omega
  · by_cases hroom : n + m ≤ cap
    · have hfit : n * i.size + news.length ≤ cur.size := by rw [hl, hcs, ← Nat.add_mul]; exact Nat.mul_le_mul_right _ hroom
      have e2 := run_append_room (P := P) w t ty e i ht hi gb n cap cur hgg ad m c news hl hnews h1 hroom hfit
      rw [e2] at hr
      injection hr with hv _
      subst hv
      exact .inl hk
    · have holds : ∀ j u, xs[j]? = some u → w.cell? ((⟨gb, 0, none⟩ : Addr).add j) = some u := hown.cells (g := gb) rfl
      have e2 := run_append_grow (P := P) w t ty e i z ht hi hz ⟨gb, 0, none⟩ n cap xs hown.1 holds ad m c news hl hnews (by omega) (by omega) (growslice_fits (by omega) hbytes)
      rw [e2] at hr
      injection hr with hv _
      subst hv
      simp [Value.ownBlock] at hk
      omega
end
end Go.Proofs.YtnckpafknojdhaaDoor
set_option linter.unusedSimpArgs false
set_option linter.unusedVariables false
namespace Go.Proofs.YtnckpafknojdhaaDoor
open Go.RowKit
structure SlW (P : Program) (t e : TypeId) (z : Value) (n : Nat) : Prop where
  und : P.underlying t = some (.slice e)
  info : ∃ i, P.info? e = some i ∧ i.zero = some z ∧ i.size = n ∧ i.bytes ≤ 1024
  cells : z.cells.size = n
  pos : 0 < n
theorem SlW.elem {P : Program} {t e : TypeId} {z : Value} {n : Nat} (h : SlW P t e z n) : P.elem t = e := by simp [Program.elem, h.und]
theorem SlW.sizeOf {P : Program} {t e : TypeId} {z : Value} {n : Nat} (h : SlW P t e z n) (w : World) : (sizeOf e).run P w = .ok n w := by
  obtain ⟨i, hi, _, hs, _⟩ := h.info
  simp [Go.sizeOf, typeInfo, hi, hs]
theorem SlW.of {P : Program} {t e : TypeId} {z : Value} (h : SlT P t e z) : SlW P t e z 1 := by
  obtain ⟨i, h1, h2, h3, h4⟩ := h.info
  refine ⟨h.und, ⟨i, h1, h2, h3, by omega⟩, ?_, by decide⟩
  have := h.one
  cases z <;> simp_all [Value.cells, Value.oneCell']
def Wid (w : World) (B : Nat) (e : TypeId) (n : Nat) (v : Value) (rows : List (List Value)) : Prop :=
  (∀ r ∈ rows, r.length = n ∧ ∀ u ∈ r, u.oneCell' = true) ∧ w.ownsRow B e n v rows.length rows.flatten
theorem flat_len {n : Nat} : ∀ {rows : List (List Value)}, (∀ r ∈ rows, r.length = n) → rows.flatten.length = rows.length * n
  | [], _ => by simp
  | r :: rows, h => by
    rw [List.flatten_cons, List.length_append, h r (by simp), flat_len (fun q hq => h q (by simp [hq])), List.length_cons, Nat.add_mul]
    omega
theorem flat_at {n : Nat} : ∀ {rows : List (List Value)} {i j : Nat}, (∀ r ∈ rows, r.length = n) → i < rows.length → j < n → rows.flatten[i * n + j]? = (rows.getD i [])[j]?
  | r :: rows, 0, j, h, _, hj => by
    rw [List.flatten_cons, Nat.zero_mul, Nat.zero_add, List.getElem?_append_left (by rw [h r (by simp)]; exact hj)]; rfl
  | r :: rows, i + 1, j, h, hi, hj => by
    have hr := h r (by simp)
    rw [List.flatten_cons, List.getElem?_append_right (by rw [hr, Nat.add_mul]; omega), hr, show (i + 1) * n + j - n = i * n + j by rw [Nat.add_mul]; omega]
    exact flat_at (fun q hq => h q (by simp [hq])) (by simpa using hi) hj
section
variable {w w' : World} {B n : Nat} {e : TypeId} {v : Value} {rows : List (List Value)}
theorem Wid.nil (w : World) (B : Nat) (e : TypeId) (n : Nat) : Wid w B e n (.slice none 0 0) [] := ⟨by simp, World.ownsRow_nil w B e n⟩
theorem Wid.cases (h : Wid w B e n v rows) : (v = .slice none 0 0 ∧ rows = []) ∨ ∃ g cap cs, v = .slice (some ⟨g, 0, none⟩) rows.length cap ∧ B ≤ g ∧ Blk w g e cs ∧ rows.length ≤ cap ∧ cap ≤ maxLen ∧ cs.length = cap * n ∧ cs.take (rows.length * n) = rows.flatten := by
  rcases h.2.2 with ⟨h1, h2⟩ | ⟨g, cap, cur, h1, h2, h3, h4, h5, h6, h7⟩
  · exact .inl ⟨h1, List.eq_nil_of_length_eq_zero h2⟩
  · exact .inr ⟨g, cap, cur.toList, h1, h2, by simpa [Blk] using h3, h4, h5, by simpa using h6, h7⟩
theorem Wid.mk' {g cap : Nat} {cs : List Value} (hr : ∀ r ∈ rows, r.length = n ∧ ∀ u ∈ r, u.oneCell' = true) (h2 : B ≤ g) (h3 : Blk w g e cs) (h4 : rows.length ≤ cap) (h5 : cap ≤ maxLen) (h6 : cs.length = cap * n) (h7 : cs.take (rows.length * n) = rows.flatten) : Wid w B e n (.slice (some ⟨g, 0, none⟩) rows.length cap) rows :=
  ⟨hr, flat_len (fun r h => (hr r h).1), .inr ⟨g, cap, cs.toArray, rfl, h2, h3, h4, h5, by simpa using h6, by simpa using h7⟩⟩
theorem Wid.ext (h : Wid w B e n v rows) (x : Ext w w') : Wid w' B e n v rows := by
  rcases h.cases with ⟨rfl, rfl⟩ | ⟨g, cap, cs, rfl, h2, h3, h4, h5, h6, h7⟩
  · exact Wid.nil _ _ _ _
  · exact Wid.mk' h.1 h2 (h3.ext x) h4 h5 h6 h7
theorem Wid.mono {B' : Nat} (h : Wid w B e n v rows) (hB : B' ≤ B) : Wid w B' e n v rows := by
  rcases h.cases with ⟨rfl, rfl⟩ | ⟨g, cap, cs, rfl, h2, h3, h4, h5, h6, h7⟩
  · exact Wid.nil _ _ _ _
  · exact Wid.mk' h.1 (Nat.le_trans hB h2) h3 h4 h5 h6 h7
theorem Wid.lt (h : Wid w B e n v rows) : ∀ k, v.ownBlock = some k → B ≤ k ∧ k < w.heap.size := by
  rcases h.cases with ⟨rfl, rfl⟩ | ⟨g, cap, cs, rfl, h2, h3, h4, h5, h6, h7⟩
  · intro k hk; cases hk
  · intro k hk
    simp [Value.ownBlock] at hk
    subst hk
    exact ⟨h2, h3.lt⟩
theorem Wid.grown {r : Option Nat} (h : Wid w B e n v rows) (hg : w.grownBy w' r) (hne : ∀ k, v.ownBlock = some k → r ≠ some k) : Wid w' B e n v rows := by
  rcases h.cases with ⟨rfl, rfl⟩ | ⟨g, cap, cs, rfl, h2, h3, h4, h5, h6, h7⟩
  · exact Wid.nil _ _ _ _
  · exact Wid.mk' h.1 h2 (h3.grown hg (hne g rfl)) h4 h5 h6 h7
theorem Wid.stored {g : Nat} {t : TypeId} {cs : List Value} (h : Wid w B e n v rows) (hg : w.grownBy w' (some g)) (hb : Blk w g t cs) (hne : t ≠ e) : Wid w' B e n v rows := by
  refine h.grown hg fun k hk hc => ?_
  injection hc with hc
  subst hc
  rcases h.cases with ⟨rfl, rfl⟩ | ⟨g', cap, cs', rfl, h2, h3, _⟩
  · cases hk
  · simp [Value.ownBlock] at hk
    subst hk
    exact hb.ne h3 hne rfl
theorem Wid.owned {B' : Nat} {t : TypeId} {u : Value} {us : List Value} (h : Wid w B e n v rows) (ho : Own w B' t u us) (hg : w.grownBy w' u.ownBlock) (hne : t ≠ e) : Wid w' B e n v rows := by
  rcases ho.cases with ⟨rfl, rfl⟩ | ⟨g, cap, cs, rfl, hg', hb, _⟩
  · exact h.ext (Ext.of_grown hg)
  · exact h.stored (g := g) hg hb hne
theorem Wid.mapped {κ : Type} {enc : κ → Value} {b : Nat} {xs : List κ} (h : Wid w B e n v rows) (hm : MapN enc w b xs) (hg : w.grownBy w' (some b)) : Wid w' B e n v rows := by
  rcases h.cases with ⟨rfl, rfl⟩ | ⟨g, cap, cs, rfl, h2, h3, h4, h5, h6, h7⟩
  · exact Wid.nil _ _ _ _
  · exact Wid.mk' h.1 h2 (h3.mapped hm hg) h4 h5 h6 h7
variable (ho : Wid w B e n v rows) (hg : w.grownBy w' v.ownBlock)
theorem Wid.at (h : Wid w B e n v rows) {i : Int} (h0 : 0 ≤ i) (h1 : i < rows.length) : ∃ g c, v = .slice (some ⟨g, 0, none⟩) rows.length c ∧ B ≤ g ∧ g < w.heap.size ∧ ∀ j, j < n → w.cell? ⟨g, i.toNat * n + j, none⟩ = (rows.getD i.toNat [])[j]? := by
  rcases h.cases with ⟨rfl, rfl⟩ | ⟨g, cap, cs, rfl, h2, h3, h4, h5, h6, h7⟩
  · simp at h1; omega
  · refine ⟨g, cap, rfl, h2, h3.lt, fun j hj => ?_⟩
    have hlt : i.toNat < rows.length := by omega
    rw [h3.cell, ← flat_at (fun r hr => (h.1 r hr).1) hlt hj, ← h7, List.getElem?_take, if_pos]
    have : (i.toNat + 1) * n ≤ rows.length * n := Nat.mul_le_mul_right _ hlt
    rw [Nat.add_mul] at this
    omega
end
section
variable {P : Program} {N : Nat} {ops : Array Oper} {Q : Exit → Act → World → Prop} {rest : List Oper} {l : Slots} {w : World}
variable {d : Nat} {ty : TypeId} {pos : String} {after : Array Edge} {g : Option (Nat × Bool)}
theorem Sq.appS {t e : TypeId} {z : Value} {n b c : Nat} {s x : Operand} {v : Value} {r : List Value} {rows : List (List Value)} {B : Nat}
    (hs : SlW P t e z n) (ho : Wid w B e n v rows) (hB : B ≤ w.heap.size) (hlen : rows.length < 1048576) (hb : Blk w b e r) (hr : r.length = n ∧ ∀ u ∈ r, u.oneCell' = true) (hg : On ops l g) (hN : Nat.blt d N = true) (hsv : ev l s = some v) (hxv : ev l x = some (.slice (some ⟨b, 0, none⟩) 1 c))
    (h : ∀ v' w', Wid w' B e n v' (rows ++ [r]) → w.grownBy w' v.ownBlock → (∀ k, v'.ownBlock = some k → v.ownBlock = some k ∨ w.heap.size ≤ k) → v' ≠ .slice none 0 0 → Sq P N ops Q rest ((d, v') :: l) w') :
    Sq P N ops Q (⟨some d, .call ⟨.builtin .append, #[s, x], #[t, t]⟩, ty, pos, after, g⟩ :: rest) l w := by
  obtain ⟨i, hi, hz, hsz, hby⟩ := hs.info
  have hnews : ∀ j u, r[j]? = some u → w.cell? ((⟨b, 0, none⟩ : Addr).add j) = some u := fun j u hj => by rw [addr_add, hb.cell]; simpa using hj
  have hl : r.length = 1 * n := by rw [hr.1, Nat.one_mul]
  have h63 : rows.length + 1 ≤ maxLen := by unfold maxLen; omega
  have hby' : (rows.length + 1) * i.bytes ≤ 140737488355328 := Nat.le_trans (Nat.mul_le_mul (show rows.length + 1 ≤ 1048576 by omega) hby) (by decide)
  obtain ⟨v', w', hrun, r1, r2, r3⟩ := run_append_own (P := P) w B t ty e i z n i.bytes hs.und hi hz hsz rfl hs.cells hs.pos v rows.length rows.flatten ho.2 ⟨b, 0, none⟩ 1 c r hl hnews hr.2 h63 hby' hB
  have hf := fresh_of (P := P) (ty := ty) hs.und hi hz hsz ho.2 hl hnews hr.2 h63 hby' (by decide) hrun
  have hW : Wid w' B e n v' (rows ++ [r]) := ⟨fun q hq => by
    rcases List.mem_append.1 hq with h | h
    · exact ho.1 q h
    · rw [List.mem_singleton.1 h]; exact hr, by simpa using r1⟩
  refine .val (w' := w') hg rfl hN (fun a ha => ?_) (h v' w' hW r2 hf (fun hc => by simpa using r3.1 hc))
  rw [BigFrame.execOp_builtin, BigFrame.builtin_append]
  simp only [List.map_toArray, List.map_cons, List.map_nil, ha.ev hsv, ha.ev hxv, Sem.run_bind, hrun, Result.andThen, Sem.run_pure]
def ones (vs : List Value) : List (List Value) := vs.map fun v => [v]
theorem ones_flat (vs : List Value) : (ones vs).flatten = vs := by
  unfold ones
  induction vs with
  | nil => rfl
  | cons v r ih => rw [List.map_cons, List.flatten_cons, ih]; rfl
theorem Wid.of_own {B : Nat} {e : TypeId} {v : Value} {vs : List Value} (h : Own w B e v vs) (h1 : ∀ u ∈ vs, u.oneCell' = true) : Wid w B e 1 v (ones vs) := by
  refine ⟨fun r hr => ?_, ?_⟩
  · obtain ⟨u, hu, rfl⟩ := List.mem_map.1 hr
    exact ⟨rfl, fun y hy => by rw [List.mem_singleton.1 hy]; exact h1 u hu⟩
  · rw [ones_flat]
    have : (ones vs).length = vs.length := List.length_map _
    rw [this]
    exact h
theorem Wid.to_own {B : Nat} {e : TypeId} {v : Value} {vs : List Value} (h : Wid w B e 1 v (ones vs)) : Own w B e v vs := by
  have h2 := h.2
  rw [ones_flat] at h2
  have : (ones vs).length = vs.length := List.length_map _
  rw [this] at h2
  exact h2
theorem Sq.app1F {t e : TypeId} {z : Value} {b c : Nat} {s x : Operand} {v u : Value} {vs : List Value} {B : Nat}
    (hs : SlT P t e z) (ho : Own w B e v vs) (h1 : ∀ u ∈ vs, u.oneCell' = true) (hB : B ≤ w.heap.size) (hlen : vs.length < 1048576) (hb : Blk w b e [u]) (hu : u.oneCell' = true) (hg : On ops l g) (hN : Nat.blt d N = true) (hsv : ev l s = some v) (hxv : ev l x = some (.slice (some ⟨b, 0, none⟩) 1 c))
    (h : ∀ v' w', Own w' B e v' (vs ++ [u]) → w.grownBy w' v.ownBlock → (∀ k, v'.ownBlock = some k → v.ownBlock = some k ∨ w.heap.size ≤ k) → v' ≠ .slice none 0 0 → Sq P N ops Q rest ((d, v') :: l) w') :
    Sq P N ops Q (⟨some d, .call ⟨.builtin .append, #[s, x], #[t, t]⟩, ty, pos, after, g⟩ :: rest) l w :=
  Sq.appS (SlW.of hs) (Wid.of_own ho h1) hB (by simpa [ones] using hlen) hb ⟨rfl, by simpa using hu⟩ hg hN hsv hxv fun v' w' g1 g2 g3 g4 => h v' w' (Wid.to_own (by simpa [ones] using g1)) g2 g3 g4
end
end Go.Proofs.YtnckpafknojdhaaDoor
set_option linter.unusedSimpArgs false
set_option linter.unusedVariables false
namespace Go.Proofs.YtnckpafknojdhaaDoor
structure A where
  al : Int
  next : List (List Int)
  acc : List Bool
def lettersTo (al : Int) (k : Nat) : List Int := ((List.range k).map fun (i : Nat) => (i : Int)).filter (hs al)
def letters (al : Int) : List Int := lettersTo al 6
theorem lettersTo_T {al : Int} {k : Nat} (h : hs al k = true) : lettersTo al (k + 1) = lettersTo al k ++ [(k : Int)] := by
  simp [lettersTo, List.range_succ, h]
theorem lettersTo_F {al : Int} {k : Nat} (h : hs al k = false) : lettersTo al (k + 1) = lettersTo al k := by
  simp [lettersTo, List.range_succ, h]
theorem lettersTo_length (al : Int) (k : Nat) : (lettersTo al k).length ≤ k := by
  have := List.length_filter_le (hs al) ((List.range k).map fun (i : Nat) => (i : Int))
  simpa [lettersTo] using this
theorem letters_len6 (al : Int) : (letters al).length ≤ 6 := lettersTo_length al 6
theorem toNat_succ {k : Int} (h : 0 ≤ k) : (k + 1).toNat = k.toNat + 1 := by omega
section
variable {α : Type} {l : List α} {p : α → Bool} {d : α} {k : Nat}
theorem take_snoc (d : α) (h : k < l.length) : l.take (k + 1) = l.take k ++ [l.getD k d] := by
  rw [List.take_succ_eq_append_getElem h]; simp [h]
theorem all_snoc (hp : (l.take k).all p = true) (h : k < l.length) (hk : p (l.getD k d) = true) : (l.take (k + 1)).all p = true := by
  rw [take_snoc d h, List.all_append, hp]; simpa using hk
theorem all_bad (h : k < l.length) (hk : p (l.getD k d) = false) : l.all p = false := by
  rw [List.all_eq_false]
  exact ⟨l[k], List.getElem_mem h, by simp [h] at hk; simp [hk]⟩
theorem all_done (hp : (l.take k).all p = true) (h : l.length ≤ k) : l.all p = true := by rwa [List.take_of_length_le h] at hp
end
theorem take_eq_snoc {α : Type} {xs ys : List α} {k : Nat} (d : α) (hl : xs.length = ys.length) (hp : xs.take k = ys.take k) (h : k < xs.length) (he : xs.getD k d = ys.getD k d) : xs.take (k + 1) = ys.take (k + 1) := by
  rw [take_snoc d h, take_snoc d (by omega), hp, he]
theorem beq_len {α : Type} [BEq α] [LawfulBEq α] {xs ys : List α} (h : xs.length ≠ ys.length) : (xs == ys) = false := by
  rw [beq_eq_false_iff_ne]; rintro rfl; exact h rfl
theorem beq_at {α : Type} [BEq α] [LawfulBEq α] {xs ys : List α} {k : Nat} (d : α) (h : xs.getD k d ≠ ys.getD k d) : (xs == ys) = false := by
  rw [beq_eq_false_iff_ne]; rintro rfl; exact h rfl
theorem beq_done {α : Type} [BEq α] [LawfulBEq α] {xs ys : List α} {k : Nat} (hp : xs.take k = ys.take k) (h : xs.length ≤ k) (h' : ys.length ≤ k) : (xs == ys) = true := by
  rw [List.take_of_length_le h, List.take_of_length_le h'] at hp
  rw [hp]; exact beq_self_eq_true _
theorem getD_mem {α : Type} {l : List α} {d : α} {k : Nat} (h : k < l.length) : l.getD k d ∈ l := by simp [h]
def inB (n q : Int) : Bool := decide (0 ≤ q ∧ q < n)
theorem inB_T {n q : Int} (h : 0 ≤ q ∧ q < n) : inB n q = true := decide_eq_true h
theorem inB_F {n q : Int} (h : q < 0 ∨ n ≤ q) : inB n q = false := decide_eq_false (by omega)
def rowOk (m n : Int) (row : List Int) : Bool := decide ((row.length : Int) = m) && row.all (inB n)
theorem rowOk_len {m n : Int} {row : List Int} (h : (row.length : Int) ≠ m) : rowOk m n row = false := by simp [rowOk, h]
theorem rowOk_bad {m n : Int} {row : List Int} (_ : (row.length : Int) = m) {k : Nat} (hk : k < row.length) (hb : inB n (row.getD k 0) = false) : rowOk m n row = false := by
  simp only [rowOk, all_bad hk hb, Bool.and_false]
theorem rowOk_good {m n : Int} {row : List Int} (h : (row.length : Int) = m) {k : Nat} (hp : (row.take k).all (inB n) = true) (hk : row.length ≤ k) : rowOk m n row = true := by
  simp only [rowOk, h, all_done hp hk, Bool.and_true, decide_true]
def validA (a : A) : Bool := decide (0 ≤ a.al ∧ a.al ≤ 63) && (decide (1 ≤ (a.next.length : Int) ∧ (a.next.length : Int) ≤ 12) && (decide ((a.acc.length : Int) = a.next.length) && a.next.all (rowOk (letters a.al).length a.next.length)))
theorem validA_al {a : A} (h : ¬ (0 ≤ a.al ∧ a.al ≤ 63)) : validA a = false := by simp only [validA, decide_eq_false h, Bool.false_and]
theorem validA_n {a : A} (h : ¬ (1 ≤ (a.next.length : Int) ∧ (a.next.length : Int) ≤ 12)) : validA a = false := by simp only [validA, decide_eq_false h, Bool.false_and, Bool.and_false]
theorem validA_acc {a : A} (h : ¬ ((a.acc.length : Int) = a.next.length)) : validA a = false := by simp only [validA, decide_eq_false h, Bool.false_and, Bool.and_false]
theorem validA_row {a : A} {k : Nat} (h : k < a.next.length) (hb : rowOk (letters a.al).length a.next.length (a.next.getD k []) = false) : validA a = false := by simp only [validA, all_bad h hb, Bool.and_false]
theorem validA_good {a : A} {k : Nat} (h1 : 0 ≤ a.al ∧ a.al ≤ 63) (h2 : 1 ≤ (a.next.length : Int) ∧ (a.next.length : Int) ≤ 12) (h3 : (a.acc.length : Int) = a.next.length) (hp : (a.next.take k).all (rowOk (letters a.al).length a.next.length) = true) (hk : a.next.length ≤ k) : validA a = true := by
  simp only [validA, decide_eq_true h1, decide_eq_true h2, decide_eq_true h3, all_done hp hk, Bool.and_self]
def Fit (a : A) : Prop := (-9223372036854775808 ≤ a.al ∧ a.al ≤ 9223372036854775807) ∧ a.next.length ≤ 100000000 ∧ a.acc.length ≤ 100000000 ∧ ∀ row ∈ a.next, row.length ≤ 100000000
theorem Fit.row {a : A} (h : Fit a) {k : Nat} : (a.next.getD k []).length ≤ 1000000000 := by
  rcases Nat.lt_or_ge k a.next.length with hk | hk
  · have := h.2.2.2 _ (List.getElem_mem hk)
    simp [hk]; omega
  · simp [hk]
theorem Fit.acc {a : A} (h : Fit a) : a.acc.length ≤ 1000000000 := by have := h.2.2.1; omega
def zeroA : A := ⟨0, [], []⟩
theorem validA_spec {a : A} : validA a = true ↔ (0 ≤ a.al ∧ a.al ≤ 63) ∧ (1 ≤ a.next.length ∧ a.next.length ≤ 12) ∧ a.acc.length = a.next.length ∧ ∀ row ∈ a.next, row.length = (letters a.al).length ∧ ∀ q ∈ row, 0 ≤ q ∧ q < (a.next.length : Int) := by
  simp only [validA, rowOk, inB, Bool.and_eq_true, decide_eq_true_eq, List.all_eq_true]
  constructor
  · rintro ⟨h1, h2, h3, h4⟩
    exact ⟨h1, by omega, by omega, fun row hr => ⟨by have := (h4 row hr).1; omega, (h4 row hr).2⟩⟩
  · rintro ⟨h1, h2, h3, h4⟩
    exact ⟨h1, by omega, by omega, fun row hr => ⟨by have := (h4 row hr).1; omega, (h4 row hr).2⟩⟩
def eqA (a b : A) : Bool := a.al == b.al && (a.next == b.next && a.acc == b.acc)
theorem eqA_iff {a b : A} : eqA a b = true ↔ a = b := by
  obtain ⟨al, nx, ac⟩ := a
  obtain ⟨al', nx', ac'⟩ := b
  simp [eqA]
theorem eqA_refl (a : A) : eqA a a = true := eqA_iff.2 rfl
theorem letters_at (al : Int) {k : Nat} (h : k < (letters al).length) : 0 ≤ (letters al).getD k 0 ∧ (letters al).getD k 0 < 6 := by
  have h1 := getD_mem (d := 0) h
  generalize (letters al).getD k 0 = y at *
  simp only [letters, lettersTo, List.mem_filter, List.mem_map, List.mem_range] at h1
  obtain ⟨⟨i, hi, rfl⟩, _⟩ := h1
  omega
end Go.Proofs.YtnckpafknojdhaaDoor
set_option linter.unusedSimpArgs false
set_option linter.unusedVariables false
namespace Go.Proofs.YtnckpafknojdhaaDoor
open Go.RowKit
def Src (w : World) (e : TypeId) (v : Value) (xs : List UInt8) (rb : Nat) : Prop := Bytes w e v xs ∧ ∀ b o n c, v = .slice (some ⟨b, o, none⟩) n c → xs ≠ [] → b ≠ rb
theorem Src.ext {w0 w : World} {e : TypeId} {v : Value} {xs : List UInt8} {rb : Nat} (h : Src w0 e v xs rb) (g : w0.grownBy w (some rb)) : Bytes w e v xs := by
  obtain ⟨h1, h2⟩ := h
  rcases h1 with ⟨h3, h4⟩ | ⟨b, o, c, cur, fr, rfl, hb, hc⟩
  · exact .inl ⟨h3, h4⟩
  · rcases xs with _ | ⟨x, xs⟩
    · exact .inl ⟨rfl, _, _, rfl, fun h => by cases h⟩
    · refine .inr ⟨b, o, c, cur, fr, rfl, ?_, hc⟩
      rw [g.block b (lt_of_block hb) (fun hk => by injection hk with hk; exact h2 _ _ _ _ rfl (by simp) hk)]
      exact hb
theorem Src.of {w w' : World} {e : TypeId} {v : Value} {xs : List UInt8} {rb : Nat} (h : Bytes w e v xs) (x : Ext w w') (hrb : w.heap.size ≤ rb) : Src w' e v xs rb := by
  refine ⟨h.ext x, fun b o n c hv hne => ?_⟩
  rcases h with ⟨h3, _⟩ | ⟨b', o', c', cur, fr, rfl, hb, _⟩
  · exact absurd (List.map_eq_nil_iff.1 h3) hne
  · simp only [Value.slice.injEq, Option.some.injEq, Addr.mk.injEq] at hv
    have := lt_of_block hb
    omega
theorem Own.snocB {w : World} {B : Nat} {e : TypeId} {v : Value} {ys : List Bool} {y : Bool} (h : Own w B e v (ys.map Value.bool ++ [Value.bool y])) : Own w B e v ((ys ++ [y]).map Value.bool) := by simpa using h
theorem Own.snocI {w : World} {B : Nat} {e : TypeId} {v : Value} {ys : List Int} {y : Int} (h : Own w B e v (ys.map (Value.int .i64) ++ [Value.int .i64 y])) : Own w B e v ((ys ++ [y]).map (Value.int .i64)) := by simpa using h
theorem Own.setI {w : World} {B : Nat} {e : TypeId} {v : Value} {ys : List Int} {y : Int} {k : Nat} (h : Own w B e v ((ys.map (Value.int .i64)).set k (Value.int .i64 y))) : Own w B e v ((ys.set k y).map (Value.int .i64)) := by rwa [List.map_set]
theorem all_set {α : Type} {p : α → Prop} {xs : List α} {x : α} {k : Nat} (h : ∀ q ∈ xs, p q) (hx : p x) : ∀ q ∈ xs.set k x, p q := by
  intro q hq
  rcases List.mem_or_eq_of_mem_set hq with h1 | h1
  · exact h q h1
  · rw [h1]; exact hx
theorem rowOk_spec {m n : Int} {row : List Int} : rowOk m n row = true ↔ (row.length : Int) = m ∧ ∀ q ∈ row, 0 ≤ q ∧ q < n := by
  simp only [rowOk, Bool.and_eq_true, decide_eq_true_eq, List.all_eq_true, inB]
theorem rowOk_at {m n : Int} {xss : List (List Int)} {k : Nat} (h : ∀ r ∈ xss, rowOk m n r = true) (hk : k < xss.length) : ((xss.getD k []).length : Int) = m ∧ ∀ q ∈ xss.getD k [], 0 ≤ q ∧ q < n := rowOk_spec.1 (h _ (getD_mem hk))
theorem getD_set_self {α : Type} {xs : List α} {k : Nat} {x d : α} (h : k < xs.length) : (xs.set k x).getD k d = x := by simp [h]
theorem Own.low {w : World} {B : Nat} {e : TypeId} {v : Value} {vs : List Value} (h : Own w B e v vs) : ∀ k, v.ownBlock = some k → k < w.heap.size := fun k hk => (h.lt k hk).2
theorem Own.apart {w w' : World} {B B' U : Nat} {e t : TypeId} {v u : Value} {vs us : List Value} (h : Own w B e v vs) (hl : ∀ k, v.ownBlock = some k → k < U) (ho : Own w B' t u us) (hg : w.grownBy w' u.ownBlock) (hB : U ≤ B') : Own w' B e v vs :=
  h.grown hg fun k hk hc => by
    have := hl k hk
    have := (ho.lt k hc).1
    omega
theorem At.apart {w w' : World} {B' U : Nat} {e t : TypeId} {v u' : Value} {us : List Value} {i : Int} {p : Addr} {u : Value} (h : At w e v i p u) (hl : ∀ k, v.ownBlock = some k → k < U) (ho : Own w B' t u' us) (hg : w.grownBy w' u'.ownBlock) (hB : U ≤ B') : At w' e v i p u := by
  obtain ⟨h1, ⟨b, o, c, n, rfl, rfl, h0, hn⟩, cur, fr, h3⟩ := h
  have hb' : w'.heap[b]? = w.heap[b]? := by
    refine hg.block _ (lt_of_block h3) fun hc => ?_
    have := hl b rfl
    have := (ho.lt b hc.symm).1
    omega
  exact ⟨by rw [World.cell?_of_block hb']; exact h1, ⟨b, o, c, n, rfl, rfl, h0, hn⟩, cur, fr, by show w'.heap[b]? = _; rw [hb']; exact h3⟩
theorem OwnRows.none {w : World} {B U : Nat} {e e' : TypeId} {v : Value} (h : Own w B e v []) : OwnRows w B U e e' v [] := ⟨[], h, rfl, by simp, by simp⟩
theorem At.stored {w w' : World} {e t : TypeId} {v u : Value} {i : Int} {p : Addr} {g : Nat} {cs : List Value} (h : At w e v i p u) (hg : w.grownBy w' (some g)) (hb : Blk w g t cs) (hne : t ≠ e) : At w' e v i p u := by
  obtain ⟨h1, h2, cur, fr, h3⟩ := h
  have hb' : w'.heap[p.block]? = w.heap[p.block]? := by
    refine hg.block _ (lt_of_block h3) fun hc => ?_
    injection hc with hc
    subst hc
    simp only [Blk] at hb
    rw [hb] at h3
    simp at h3
    exact hne h3.2.1
  exact ⟨by rw [World.cell?_of_block hb']; exact h1, h2, cur, fr, by rw [hb']; exact h3⟩
def Small (n : Nat) (a : A) : Prop := (-1000 ≤ a.al ∧ a.al ≤ 1000) ∧ a.next.length ≤ n ∧ a.acc.length ≤ n ∧ ∀ row ∈ a.next, row.length ≤ n
theorem Small.of {a : A} (h : validA a = true) : Small 20 a := by
  obtain ⟨h1, h2, h3, h4⟩ := validA_spec.1 h
  refine ⟨by omega, by omega, by omega, fun row hr => ?_⟩
  have := (h4 row hr).1
  have := letters_len6 a.al
  omega
theorem Small.mono {n m : Nat} {a : A} (h : Small n a) (hm : n ≤ m) : Small m a := ⟨h.1, Nat.le_trans h.2.1 hm, Nat.le_trans h.2.2.1 hm, fun row hr => Nat.le_trans (h.2.2.2 row hr) hm⟩
theorem Small.same {n m : Nat} {a : A} {al : Int} (h : Small n a) (hal : -1000 ≤ al ∧ al ≤ 1000) (hm : n ≤ m) : Small m ⟨al, a.next, a.acc⟩ := ⟨hal, (h.mono hm).2⟩
theorem Small.push {n m : Nat} {a : A} {b : Bool} (h : Small n a) (hm : n + 1 ≤ m) : Small m ⟨a.al, a.next, a.acc ++ [b]⟩ := by
  have k := h.mono (by omega : n ≤ m)
  refine ⟨k.1, k.2.1, ?_, k.2.2.2⟩
  have := h.2.2.1
  simp; omega
theorem Small.row {n m k : Nat} {a : A} {row : List Int} (h : Small n a) (hm : n ≤ m) (hr : row.length ≤ m) : Small m ⟨a.al, a.next.set k row, a.acc⟩ := by
  have q := h.mono hm
  exact ⟨q.1, by rw [List.length_set]; exact q.2.1, q.2.2.1, all_set q.2.2.2 hr⟩
theorem Small.rowAt {n k : Nat} {a : A} (h : Small n a) : (a.next.getD k []).length ≤ n := by
  rcases Nat.lt_or_ge k a.next.length with hk | hk
  · exact h.2.2.2 _ (getD_mem hk)
  · simp [hk]
theorem validA_rows {a : A} (h : validA a = true) : ∀ row ∈ a.next, rowOk (letters a.al).length a.next.length row = true := by
  simp only [validA, Bool.and_eq_true, List.all_eq_true] at h
  exact h.2.2.2
theorem valid_at {a : A} (h : validA a = true) {k j : Nat} (hk : k < a.next.length) (hj : j < (a.next.getD k []).length) : 0 ≤ (a.next.getD k []).getD j 0 ∧ (a.next.getD k []).getD j 0 < a.next.length :=
  (rowOk_at (validA_rows h) hk).2 _ (getD_mem hj)
theorem valid_row {a : A} (h : validA a = true) {k : Nat} (hk : k < a.next.length) : (a.next.getD k []).length = (letters a.al).length := by
  have := (rowOk_at (validA_rows h) hk).1
  omega
end Go.Proofs.YtnckpafknojdhaaDoor
set_option linter.unusedSimpArgs false
set_option linter.unusedVariables false
namespace Go.Proofs.YtnckpafknojdhaaDoor
def place (al x : Int) : Nat := (lettersTo al x.toNat).length
theorem place_ok : ∀ al : Fin 64, ∀ i : Fin 6, i.val < (letters (al.val : Int)).length →
    hs (al.val : Int) ((letters (al.val : Int)).getD i.val 0) = true ∧ place (al.val : Int) ((letters (al.val : Int)).getD i.val 0) = i.val := by decide
theorem at_place : ∀ al : Fin 64, ∀ x : Fin 6, hs (al.val : Int) (x.val : Int) = true →
    place (al.val : Int) (x.val : Int) < (letters (al.val : Int)).length ∧ (letters (al.val : Int)).getD (place (al.val : Int) (x.val : Int)) 0 = (x.val : Int) := by decide
theorem place_at {al : Int} (h : 0 ≤ al ∧ al ≤ 63) {k : Nat} (hk : k < (letters al).length) : hs al ((letters al).getD k 0) = true ∧ place al ((letters al).getD k 0) = k := by
  obtain ⟨m, rfl⟩ := Int.eq_ofNat_of_zero_le h.1
  have h6 := letters_len6 (m : Int)
  exact place_ok ⟨m, by omega⟩ ⟨k, by omega⟩ hk
theorem place_lt {al x : Int} (h : 0 ≤ al ∧ al ≤ 63) (hx : 0 ≤ x ∧ x < 6) (hh : hs al x = true) : place al x < (letters al).length ∧ (letters al).getD (place al x) 0 = x := by
  obtain ⟨m, rfl⟩ := Int.eq_ofNat_of_zero_le h.1
  obtain ⟨y, rfl⟩ := Int.eq_ofNat_of_zero_le hx.1
  exact at_place ⟨m, by omega⟩ ⟨y, by omega⟩ hh
def goA (a : A) (q x : Int) : Int := if hs a.al x then (a.next.getD q.toNat []).getD (place a.al x) 0 else q
theorem goA_no {a : A} {q x : Int} (h : hs a.al x = false) : goA a q x = q := by simp [goA, h]
theorem goA_yes {a : A} {q x : Int} (h : hs a.al x = true) : goA a q x = (a.next.getD q.toNat []).getD (place a.al x) 0 := by simp [goA, h]
theorem goA_in {a : A} (hv : validA a = true) {q x : Int} (hq : 0 ≤ q ∧ q < a.next.length) (hx : 0 ≤ x ∧ x < 6) : 0 ≤ goA a q x ∧ goA a q x < a.next.length := by
  unfold goA
  split
  · rename_i h
    have h1 := place_lt (validA_spec.1 hv).1 hx h
    exact valid_at hv (by omega) (by rw [valid_row hv (by omega)]; exact h1.1)
  · exact hq
def TabAt (a : A) (q i : Nat) (xs : List Int) : Prop := xs.length = a.next.length * 6 ∧ (∀ k x, k < q → x < 6 → xs.getD (k * 6 + x) 0 = goA a k x) ∧
  ∀ x, x < 6 → q < a.next.length → xs.getD (q * 6 + x) 0 = if hs a.al x = true ∧ place a.al x < i then (a.next.getD q []).getD (place a.al x) 0 else q
def TabPre (a : A) (q l : Nat) (xs : List Int) : Prop := xs.length = a.next.length * 6 ∧ (∀ k x, k < q → x < 6 → xs.getD (k * 6 + x) 0 = goA a k x) ∧
  ∀ x, x < l → q < a.next.length → xs.getD (q * 6 + x) 0 = q
theorem TabPre.zero (a : A) : TabPre a 0 0 (List.replicate (a.next.length * 6) 0) := ⟨by simp, by omega, by omega⟩
theorem TabPre.step {a : A} {q l : Nat} {xs : List Int} (h : TabPre a q l xs) (hl : l < 6) (hq : q < a.next.length) : TabPre a q (l + 1) (xs.set (q * 6 + l) q) := by
  obtain ⟨h1, h2, h3⟩ := h
  refine ⟨by simp [h1], fun k x hk hx => ?_, fun x hx hq' => ?_⟩
  · have : q * 6 + l ≠ k * 6 + x := by omega
    rw [List.getD_eq_getElem?_getD, List.getElem?_set_ne this, ← List.getD_eq_getElem?_getD]
    exact h2 k x hk hx
  · by_cases hxl : x = l
    · subst hxl
      exact getD_set_self (by omega)
    · have : q * 6 + l ≠ q * 6 + x := by omega
      rw [List.getD_eq_getElem?_getD, List.getElem?_set_ne this, ← List.getD_eq_getElem?_getD]
      exact h3 x (by omega) hq'
theorem TabPre.at {a : A} {q : Nat} {xs : List Int} (h : TabPre a q 6 xs) : TabAt a q 0 xs := ⟨h.1, h.2.1, fun x hx hq => by rw [h.2.2 x hx hq]; simp⟩
theorem TabAt.step {a : A} {q i : Nat} {xs : List Int} (hal : 0 ≤ a.al ∧ a.al ≤ 63) (h : TabAt a q i xs) (hi : i < (letters a.al).length) (hq : q < a.next.length) :
    TabAt a q (i + 1) (xs.set (q * 6 + ((letters a.al).getD i 0).toNat) ((a.next.getD q []).getD i 0)) := by
  obtain ⟨h1, h2, h3⟩ := h
  have hl := letters_at a.al hi
  obtain ⟨hp1, hp2⟩ := place_at hal hi
  refine ⟨by simp [h1], fun k x hk hx => ?_, fun x hx hq' => ?_⟩
  · have : q * 6 + ((letters a.al).getD i 0).toNat ≠ k * 6 + x := by omega
    rw [List.getD_eq_getElem?_getD, List.getElem?_set_ne this, ← List.getD_eq_getElem?_getD]
    exact h2 k x hk hx
  · by_cases hxl : (x : Int) = (letters a.al).getD i 0
    · have e1 : ((letters a.al).getD i 0).toNat = x := by omega
      rw [e1, getD_set_self (by omega), hxl, hp2, hp1, if_pos ⟨rfl, by omega⟩]
    · have : q * 6 + ((letters a.al).getD i 0).toNat ≠ q * 6 + x := by omega
      rw [List.getD_eq_getElem?_getD, List.getElem?_set_ne this, ← List.getD_eq_getElem?_getD, h3 x hx hq']
      by_cases hh : hs a.al x = true
      · have h4 := place_lt hal (x := (x : Int)) (by omega) hh
        have h5 : place a.al x ≠ i := fun hc => hxl (by rw [← hc]; exact h4.2.symm)
        by_cases h6 : place a.al x < i
        · rw [if_pos ⟨hh, h6⟩, if_pos ⟨hh, by omega⟩]
        · rw [if_neg (fun hc => h6 hc.2), if_neg (fun hc => by omega)]
      · rw [if_neg (fun hc => hh hc.1), if_neg (fun hc => hh hc.1)]
theorem TabAt.next {a : A} {q i : Nat} {xs : List Int} (hal : 0 ≤ a.al ∧ a.al ≤ 63) (h : TabAt a q i xs) (hi : (letters a.al).length ≤ i) (hq : q < a.next.length) : TabPre a (q + 1) 0 xs := by
  obtain ⟨h1, h2, h3⟩ := h
  refine ⟨h1, fun k x hk hx => ?_, by omega⟩
  by_cases hkq : k < q
  · exact h2 k x hkq hx
  · obtain rfl : k = q := by omega
    rw [h3 x hx hq]
    by_cases hh : hs a.al x = true
    · have h4 := place_lt hal (x := (x : Int)) (by omega) hh
      rw [if_pos ⟨hh, by omega⟩, goA_yes hh]; rfl
    · rw [if_neg (fun hc => hh hc.1), goA_no (by simpa using hh)]
def Tab (a : A) (xs : List Int) : Prop := xs.length = a.next.length * 6 ∧ ∀ q x : Int, 0 ≤ q ∧ q < a.next.length → 0 ≤ x ∧ x < 6 → xs[q.toNat * 6 + x.toNat]? = some (goA a q x)
theorem TabPre.done {a : A} {q l : Nat} {xs : List Int} (h : TabPre a q l xs) (hq : a.next.length ≤ q) : Tab a xs := by
  refine ⟨h.1, fun p x hp hx => ?_⟩
  have h2 := h.2.1 p.toNat x.toNat (by omega) (by omega)
  rw [Int.toNat_of_nonneg hp.1, Int.toNat_of_nonneg hx.1] at h2
  have hlt : p.toNat * 6 + x.toNat < xs.length := by have := h.1; omega
  rw [List.getElem?_eq_getElem hlt, ← h2, List.getD_eq_getElem?_getD, List.getElem?_eq_getElem hlt]
  rfl
def extRow (a : A) (b : Int) (q : Nat) : List Int := (letters b).map (goA a q)
def safeRow (a : A) (i : Nat) : List Int := if a.acc.getD i false then a.next.getD i [] else (a.next.getD i []).map fun _ => (i : Int)
def safe (a : A) : A := ⟨a.al, (List.range a.next.length).map (safeRow a), a.acc⟩
def SafeAt (a : A) (k j : Nat) (xss : List (List Int)) : Prop := xss.length = a.next.length ∧ ∀ i, i < a.next.length → (xss.getD i []).length = (a.next.getD i []).length ∧
  ∀ m, m < (a.next.getD i []).length → (xss.getD i []).getD m 0 = if a.acc.getD i false = false ∧ (i < k ∨ i = k ∧ m < j) then (i : Int) else (a.next.getD i []).getD m 0
theorem SafeAt.zero (a : A) : SafeAt a 0 0 a.next := ⟨rfl, fun i hi => ⟨rfl, fun m hm => by rw [if_neg (by omega)]⟩⟩
theorem SafeAt.step {a : A} {k j : Nat} {xss : List (List Int)} (h : SafeAt a k j xss) (hk : k < a.next.length) (hj : j < (a.next.getD k []).length) (hac : a.acc.getD k false = false) :
    SafeAt a k (j + 1) (xss.set k ((xss.getD k []).set j k)) := by
  obtain ⟨h1, h2⟩ := h
  refine ⟨by simp [h1], fun i hi => ?_⟩
  by_cases hik : i = k
  · subst hik
    rw [getD_set_self (by omega)]
    refine ⟨by rw [List.length_set]; exact (h2 i hi).1, fun m hm => ?_⟩
    by_cases hmj : m = j
    · subst hmj
      rw [getD_set_self (by rw [(h2 i hi).1]; exact hm), if_pos ⟨hac, .inr ⟨rfl, by omega⟩⟩]
    · rw [List.getD_eq_getElem?_getD, List.getElem?_set_ne (Ne.symm hmj), ← List.getD_eq_getElem?_getD, (h2 i hi).2 m hm]
      by_cases hm2 : m < j
      · rw [if_pos ⟨hac, .inr ⟨rfl, hm2⟩⟩, if_pos ⟨hac, .inr ⟨rfl, by omega⟩⟩]
      · rw [if_neg (by omega), if_neg (by omega)]
  · have e : (xss.set k ((xss.getD k []).set j k)).getD i [] = xss.getD i [] := by
      rw [List.getD_eq_getElem?_getD, List.getElem?_set_ne (Ne.symm hik), ← List.getD_eq_getElem?_getD]
    rw [e]
    refine ⟨(h2 i hi).1, fun m hm => ?_⟩
    rw [(h2 i hi).2 m hm]
    by_cases hc : a.acc.getD i false = false ∧ (i < k ∨ i = k ∧ m < j)
    · rw [if_pos hc, if_pos ⟨hc.1, by omega⟩]
    · rw [if_neg hc, if_neg (fun hd => hc ⟨hd.1, by omega⟩)]
theorem SafeAt.skip {a : A} {k j j' : Nat} {xss : List (List Int)} (h : SafeAt a k j xss) (hac : a.acc.getD k false = true) : SafeAt a k j' xss :=
  ⟨h.1, fun i hi => ⟨(h.2 i hi).1, fun m hm => by
    rw [(h.2 i hi).2 m hm]
    by_cases hik : i = k
    · subst hik
      rw [if_neg (by rw [hac]; simp), if_neg (by rw [hac]; simp)]
    · by_cases hc : a.acc.getD i false = false ∧ i < k
      · rw [if_pos ⟨hc.1, .inl hc.2⟩, if_pos ⟨hc.1, .inl hc.2⟩]
      · rw [if_neg (fun hd => hc ⟨hd.1, by omega⟩), if_neg (fun hd => hc ⟨hd.1, by omega⟩)]⟩⟩
theorem SafeAt.next {a : A} {k j : Nat} {xss : List (List Int)} (h : SafeAt a k j xss) (hj : (a.next.getD k []).length ≤ j ∨ a.acc.getD k false = true) : SafeAt a (k + 1) 0 xss :=
  ⟨h.1, fun i hi => ⟨(h.2 i hi).1, fun m hm => by
    rw [(h.2 i hi).2 m hm]
    by_cases hac : a.acc.getD i false = false
    · by_cases hik : i = k
      · subst hik
        have : (a.next.getD i []).length ≤ j := by
          rcases hj with h | h
          · exact h
          · rw [hac] at h; cases h
        rw [if_pos ⟨hac, .inr ⟨rfl, by omega⟩⟩, if_pos ⟨hac, .inl (by omega)⟩]
      · by_cases hc : i < k
        · rw [if_pos ⟨hac, .inl hc⟩, if_pos ⟨hac, .inl (by omega)⟩]
        · rw [if_neg (by omega), if_neg (by omega)]
    · rw [if_neg (fun hd => hac hd.1), if_neg (fun hd => hac hd.1)]⟩⟩
theorem SafeAt.done {a : A} {k j : Nat} {xss : List (List Int)} (h : SafeAt a k j xss) (hk : a.next.length ≤ k) : xss = (safe a).next := by
  refine List.ext_getElem (by simp [safe, h.1]) fun i h1 h2 => ?_
  have hi : i < a.next.length := by rw [← h.1]; exact h1
  obtain ⟨h3, h4⟩ := h.2 i hi
  have e0 : xss.getD i [] = xss[i] := by simp [h1]
  rw [e0] at h3 h4
  simp only [safe, List.getElem_map, List.getElem_range]
  unfold safeRow
  cases hac : a.acc.getD i false with
  | true =>
    simp only [if_true]
    refine List.ext_getElem h3 fun m m1 m2 => ?_
    have := h4 m (by omega)
    rw [hac, if_neg (by simp), List.getD_eq_getElem?_getD, List.getElem?_eq_getElem m1, List.getD_eq_getElem?_getD, List.getElem?_eq_getElem m2] at this
    exact this
  | false =>
    rw [if_neg (by simp)]
    refine List.ext_getElem (by simp [h3]) fun m m1 m2 => ?_
    have := h4 m (by omega)
    rw [hac, if_pos ⟨rfl, .inl (by omega)⟩] at this
    simpa [m1] using this
end Go.Proofs.YtnckpafknojdhaaDoor
set_option linter.unusedSimpArgs false
set_option linter.unusedVariables false
namespace Go.Proofs.YtnckpafknojdhaaDoor
theorem mem_letters {b x : Int} (h : x ∈ letters b) : 0 ≤ x ∧ x < 6 ∧ hs b x = true := by
  simp only [letters, lettersTo, List.mem_filter, List.mem_map, List.mem_range] at h
  obtain ⟨⟨i, hi, rfl⟩, h2⟩ := h
  exact ⟨by omega, by omega, h2⟩
theorem extRow_at {a : A} {b : Int} {q k : Nat} (h : k < (letters b).length) : (extRow a b q).getD k 0 = goA a q ((letters b).getD k 0) := by simp [extRow, h]
theorem extRow_same {a : A} (hv : validA a = true) {q : Nat} (hq : q < a.next.length) : extRow a a.al q = a.next.getD q [] := by
  have hal := (validA_spec.1 hv).1
  have hl := valid_row hv hq
  refine List.ext_getElem (by rw [hl]; simp [extRow]) fun i h1 h2 => ?_
  have hi : i < (letters a.al).length := by rw [← hl]; exact h2
  have e1 : (extRow a a.al q)[i] = (extRow a a.al q).getD i 0 := by simp [h1]
  obtain ⟨p1, p2⟩ := place_at hal hi
  rw [e1, extRow_at hi, goA_yes p1, p2, Int.toNat_natCast, List.getD_eq_getElem?_getD, List.getElem?_eq_getElem h2]
  rfl
end Go.Proofs.YtnckpafknojdhaaDoor
set_option linter.unusedSimpArgs false
set_option linter.unusedVariables false
namespace Go.Proofs.YtnckpafknojdhaaDoor
theorem Own.rep {w : World} {B : Nat} {e : TypeId} {v : Value} {n : Nat} (h : Own w B e v (List.replicate n (Value.int .i64 0))) : Own w B e v ((List.replicate n (0 : Int)).map (Value.int .i64)) := by rw [List.map_replicate]; exact h
def InB (v : List Int) (b : Int) : Prop := ∀ x ∈ v, 0 ≤ x ∧ x ≤ b
theorem InB.at {v : List Int} {b : Int} (h : InB v b) (hb : 0 ≤ b) (k : Nat) : 0 ≤ v.getD k 0 ∧ v.getD k 0 ≤ b := by
  rcases Nat.lt_or_ge k v.length with hk | hk
  · exact h _ (getD_mem hk)
  · simp [hk, hb]
theorem InB.mono {v : List Int} {b b' : Int} (h : InB v b) (hb : b ≤ b') : InB v b' := fun x hx => ⟨(h x hx).1, Int.le_trans (h x hx).2 hb⟩
theorem InB.add {v : List Int} {b c m : Int} (h : InB v b) (hb : 0 ≤ b) (hc : 0 ≤ c ∧ c ≤ m) (k : Nat) : InB (v.set k (v.getD k 0 + c)) (b + m) := by
  intro x hx
  have hv := h.at hb k
  rcases List.mem_or_eq_of_mem_set hx with h1 | h1
  · have := h x h1; omega
  · subst h1; omega
end Go.Proofs.YtnckpafknojdhaaDoor
set_option linter.unusedSimpArgs false
set_option linter.unusedVariables false
namespace Go.Proofs.YtnckpafknojdhaaDoor
def lts (s : ByteArray) : List Int := s.data.toList.map fun b => (b.toNat : Int) - 97
def within (s : ByteArray) (al : Int) : Bool := decide (0 ≤ al ∧ al ≤ 63) && (decide ((s.size : Int) ≤ 50000) && (lts s).all (hs al))
theorem hs_small {al x : Int} (h : 0 ≤ al ∧ al ≤ 63) (hx : hs al x = true) : 0 ≤ x ∧ x < 6 := by
  unfold hs at hx
  simp only [Bool.and_eq_true, decide_eq_true_eq] at hx
  refine ⟨hx.1, ?_⟩
  rcases Int.lt_or_le x 6 with h1 | h1
  · exact h1
  · have h2 : al.toNat < 2 ^ 6 := by omega
    have h3 : al.toNat < 2 ^ x.toNat := Nat.lt_of_lt_of_le h2 (Nat.pow_le_pow_right (by decide) (by omega))
    rw [Nat.testBit_lt_two_pow h3] at hx
    cases hx.2
theorem hs63 (x : Int) : hs 63 x = decide (0 ≤ x ∧ x < 6) := by
  by_cases h : 0 ≤ x ∧ x < 6
  · rw [decide_eq_true h]
    obtain ⟨m, rfl⟩ := Int.eq_ofNat_of_zero_le h.1
    have : ∀ m : Fin 6, hs 63 (m.val : Int) = true := by decide
    exact this ⟨m, by omega⟩
  · rw [decide_eq_false h]
    cases hh : hs 63 x with
    | false => rfl
    | true => exact absurd (hs_small (by decide) hh) h
def runTo (a : A) (q : Int) (s : ByteArray) (k : Nat) : Int := ((lts s).take k).foldl (goA a) q
theorem foldl_in {a : A} (hv : validA a = true) : ∀ (w : List Int) (q : Int), (∀ x ∈ w, 0 ≤ x ∧ x < 6) → (0 ≤ q ∧ q < a.next.length) → 0 ≤ w.foldl (goA a) q ∧ w.foldl (goA a) q < a.next.length
  | [], q, _, hq => hq
  | x :: w, q, h, hq => foldl_in hv w _ (fun y hy => h y (by simp [hy])) (goA_in hv hq (h x (by simp)))
def after (a : A) (s : ByteArray) : Int := if validA a = true ∧ within s a.al = true then runTo a 0 s s.size else -1
end Go.Proofs.YtnckpafknojdhaaDoor
set_option linter.unusedSimpArgs false
set_option linter.unusedVariables false
namespace Go.Proofs.YtnckpafknojdhaaDoor
def run (a : A) (q : Int) (w : List Int) : Int := w.foldl (goA a) q
theorem run_cat (a : A) (q : Int) (v w : List Int) : run a q (v ++ w) = run a (run a q v) w := List.foldl_append
theorem run_stay {a : A} (hv : validA a = true) {w : List Int} (hw : ∀ x ∈ w, 0 ≤ x ∧ x < 6) {q : Int} (hq : 0 ≤ q ∧ q < a.next.length) : 0 ≤ run a q w ∧ run a q w < a.next.length := foldl_in hv w q hw hq
theorem zero_in {a : A} (hv : validA a = true) : 0 ≤ (0 : Int) ∧ (0 : Int) < a.next.length := by have := (validA_spec.1 hv).2.1; omega
section
variable {P : Program} {N : Nat} {ops : Array Oper} {Q : Exit → Act → World → Prop} {S : World → Prop} {k fuel : Nat} {listed : Array Bool} {l : Slots} {w : World}
theorem Gq.beT {b : Bool} {d : Nat} (e : b = true) (h : Gq P N ops Q S k fuel listed ((d, .bool true) :: l) w) : Gq P N ops Q S k fuel listed ((d, .bool b) :: l) w := by rw [e]; exact h
theorem Gq.beF {b : Bool} {d : Nat} (e : b = false) (h : Gq P N ops Q S k fuel listed ((d, .bool false) :: l) w) : Gq P N ops Q S k fuel listed ((d, .bool b) :: l) w := by rw [e]; exact h
end
def RevAt (xs : List UInt8) (k : Nat) (ys : List UInt8) : Prop := ys.length = xs.length ∧ ∀ m, m < xs.length → ys.getD m 0 = if m < k ∨ xs.length - 1 - k < m then xs.getD (xs.length - 1 - m) 0 else xs.getD m 0
theorem RevAt.zero (xs : List UInt8) : RevAt xs 0 xs := ⟨rfl, fun m hm => by rw [if_neg (by omega)]⟩
theorem getD_setU (l : List UInt8) (k m : Nat) (x : UInt8) (hk : k < l.length) : (l.set k x).getD m 0 = if k = m then x else l.getD m 0 := by
  rw [List.getD_eq_getElem?_getD, List.getElem?_set]
  by_cases h : k = m
  · subst h; simp [hk]
  · simp [h]
theorem RevAt.step {xs ys : List UInt8} {k : Nat} (h : RevAt xs k ys) (hk : k < xs.length - 1 - k) : RevAt xs (k + 1) ((ys.set k (ys.getD (xs.length - 1 - k) 0)).set (xs.length - 1 - k) (ys.getD k 0)) := by
  obtain ⟨h1, h2⟩ := h
  refine ⟨by simp [h1], fun m hm => ?_⟩
  rw [getD_setU _ _ _ _ (by rw [List.length_set]; omega), getD_setU _ _ _ _ (by omega)]
  by_cases e1 : xs.length - 1 - k = m
  · subst e1
    rw [if_pos rfl, h2 k (by omega), if_neg (by omega), if_pos (by omega)]
    congr 1; omega
  · rw [if_neg e1]
    by_cases e2 : k = m
    · subst e2
      rw [if_pos rfl, h2 _ (by omega), if_neg (by omega), if_pos (by omega)]
    · rw [if_neg e2, h2 m hm]
      by_cases h3 : m < k ∨ xs.length - 1 - k < m
      · rw [if_pos h3, if_pos (by omega)]
      · rw [if_neg h3, if_neg (by omega)]
theorem RevAt.done {xs ys : List UInt8} {k : Nat} (h : RevAt xs k ys) (hk : xs.length - 1 ≤ k + k) : ys = xs.reverse := by
  obtain ⟨h1, h2⟩ := h
  refine List.ext_getElem (by rw [h1, List.length_reverse]) fun m m1 m2 => ?_
  have h3 := h2 m (by omega)
  rw [List.getD_eq_getElem?_getD, List.getElem?_eq_getElem m1] at h3
  rw [List.getElem_reverse]
  have h4 : xs.length - 1 - m < xs.length := by omega
  have e : xs.getD (xs.length - 1 - m) 0 = xs[xs.length - 1 - m] := by rw [List.getD_eq_getElem?_getD, List.getElem?_eq_getElem h4]; rfl
  rw [← e]
  by_cases h5 : m < k ∨ xs.length - 1 - k < m
  · rw [if_pos h5] at h3; exact h3
  · rw [if_neg h5] at h3
    have : xs.length - 1 - m = m := by omega
    rw [this]; exact h3
end Go.Proofs.YtnckpafknojdhaaDoor
set_option linter.unusedSimpArgs false
set_option linter.unusedVariables false
namespace Go.Proofs.YtnckpafknojdhaaDoor
def many (n : Nat) : Nat := if h : n = 0 then 200 else many (n - 1)
  termination_by n
theorem many_eq : many 0 = 200 := by rw [many]; simp
section bfs
variable {α : Type} [DecidableEq α]
def addNode (ns : List α) (x : α) : List α := if x ∈ ns then ns else ns ++ [x]
def addAll (ns : List α) (xs : List α) : List α := xs.foldl addNode ns
theorem addNode_T {ns : List α} {x : α} (h : x ∈ ns) : addNode ns x = ns := if_pos h
theorem addNode_F {ns : List α} {x : α} (h : x ∉ ns) : addNode ns x = ns ++ [x] := if_neg h
theorem addNode_prefix (ns : List α) (x : α) : ns <+: addNode ns x := by
  unfold addNode
  split
  · exact List.prefix_refl _
  · exact List.prefix_append _ _
theorem mem_addNode {ns : List α} {x y : α} : y ∈ addNode ns x ↔ y ∈ ns ∨ y = x := by
  unfold addNode
  split
  · exact ⟨.inl, fun h => h.elim id (fun h => h ▸ by assumption)⟩
  · simp
theorem nodup_addNode {ns : List α} (h : ns.Nodup) (x : α) : (addNode ns x).Nodup := by
  unfold addNode
  split
  · exact h
  · rename_i hx
    rw [List.nodup_append]
    exact ⟨h, by simp, fun a ha b hb hab => hx (by rw [List.mem_singleton.1 hb] at hab; exact hab ▸ ha)⟩
theorem addAll_snoc (ns xs : List α) (x : α) : addAll ns (xs ++ [x]) = addNode (addAll ns xs) x := by
  unfold addAll
  rw [List.foldl_append]
  rfl
theorem addAll_nil (ns : List α) : addAll ns [] = ns := rfl
theorem addAll_cons (ns : List α) (x : α) (xs : List α) : addAll ns (x :: xs) = addAll (addNode ns x) xs := rfl
theorem addAll_prefix : ∀ (xs ns : List α), ns <+: addAll ns xs
  | [], ns => List.prefix_refl _
  | x :: xs, ns => (addNode_prefix ns x).trans (addAll_prefix xs _)
theorem mem_addAll {y : α} : ∀ {xs ns : List α}, y ∈ addAll ns xs ↔ y ∈ ns ∨ y ∈ xs
  | [], ns => by simp [addAll_nil]
  | x :: xs, ns => by rw [addAll_cons, mem_addAll, mem_addNode, List.mem_cons, or_assoc]
theorem nodup_addAll : ∀ {xs ns : List α}, ns.Nodup → (addAll ns xs).Nodup
  | [], _, h => h
  | x :: xs, _, h => nodup_addAll (xs := xs) (nodup_addNode h x)
def bfs (f : α → Int → α) (s : α) (L : List Int) : Nat → List α
  | 0 => [s]
  | i + 1 => match (bfs f s L i)[i]? with
    | some q => addAll (bfs f s L i) (L.map (f q))
    | none => bfs f s L i
variable {f : α → Int → α} {s : α} {L : List Int}
theorem bfs_succ {i : Nat} {q : α} (h : (bfs f s L i)[i]? = some q) : bfs f s L (i + 1) = addAll (bfs f s L i) (L.map (f q)) := by rw [bfs, h]
theorem bfs_prefix1 (i : Nat) : bfs f s L i <+: bfs f s L (i + 1) := by
  rw [bfs]
  split
  · exact addAll_prefix _ _
  · exact List.prefix_refl _
theorem bfs_prefix {i j : Nat} (h : i ≤ j) : bfs f s L i <+: bfs f s L j := by
  induction j with
  | zero => rw [Nat.le_zero.1 h]; exact List.prefix_refl _
  | succ j ih =>
    rcases Nat.lt_or_ge j i with h1 | h1
    · rw [show i = j + 1 by omega]; exact List.prefix_refl _
    · exact (ih h1).trans (bfs_prefix1 j)
theorem bfs_nodup (i : Nat) : (bfs f s L i).Nodup := by
  induction i with
  | zero => simp [bfs]
  | succ i ih =>
    rw [bfs]
    split
    · exact nodup_addAll ih
    · exact ih
theorem bfs_stop {i : Nat} (h : (bfs f s L i).length ≤ i) {j : Nat} (hj : i ≤ j) : bfs f s L j = bfs f s L i := by
  induction j with
  | zero => rw [Nat.le_zero.1 hj]
  | succ j ih =>
    rcases Nat.lt_or_ge j i with h1 | h1
    · rw [show i = j + 1 by omega]
    · rw [bfs, ih h1, List.getElem?_eq_none (by omega)]
theorem bfs_all {P : α → Prop} (h0 : P s) (hs : ∀ q, P q → ∀ l ∈ L, P (f q l)) (i : Nat) : ∀ q ∈ bfs f s L i, P q := by
  induction i with
  | zero => simp [bfs, h0]
  | succ i ih =>
    rw [bfs]
    split
    · rename_i q hq
      have hq' : q ∈ bfs f s L i := List.mem_of_getElem? hq
      intro y hy
      rcases mem_addAll.1 hy with h | h
      · exact ih y h
      · obtain ⟨l, hl, rfl⟩ := List.mem_map.1 h
        exact hs q (ih q hq') l hl
    · exact ih
theorem bfs_closed {i j : Nat} {q : α} (hj : j < i) (h : (bfs f s L i)[j]? = some q) : ∀ l ∈ L, f q l ∈ bfs f s L i := by
  intro l hl
  have h1 : (bfs f s L (j + 1)) <+: bfs f s L i := bfs_prefix hj
  have h0 : (bfs f s L j) <+: bfs f s L i := bfs_prefix (by omega)
  rcases Nat.lt_or_ge j (bfs f s L j).length with h2 | h2
  · have h3 : (bfs f s L j)[j]? = some q := by
      obtain ⟨t, ht⟩ := h0
      rw [← ht, List.getElem?_append_left h2] at h
      exact h
    rw [bfs_succ h3] at h1
    exact h1.subset (mem_addAll.2 (.inr (List.mem_map.2 ⟨l, hl, rfl⟩)))
  · rw [bfs_stop h2 (by omega), List.getElem?_eq_none h2] at h
    cases h
theorem nodup_len : ∀ {xs U : List α}, xs.Nodup → (∀ q ∈ xs, q ∈ U) → xs.length ≤ U.length
  | [], _, _, _ => Nat.zero_le _
  | x :: xs, U, h, hs => by
    obtain ⟨h1, h2⟩ := List.nodup_cons.1 h
    have hx := hs x (by simp)
    have h3 := nodup_len (U := U.erase x) h2 (fun q hq => (List.mem_erase_of_ne (by rintro rfl; exact h1 hq)).2 (hs q (by simp [hq])))
    rw [List.length_erase_of_mem hx] at h3
    have := List.length_pos_of_mem hx
    simp only [List.length_cons]
    omega
theorem bfs_len {M : Nat} {U : List α} (h0 : s ∈ U) (hs : ∀ q ∈ U, ∀ l ∈ L, f q l ∈ U) (hU : U.length ≤ M) (i : Nat) : (bfs f s L i).length ≤ M :=
  Nat.le_trans (nodup_len (bfs_nodup i) (fun q hq => bfs_all (P := (· ∈ U)) h0 hs i q hq)) hU
def ord (f : α → Int → α) (s : α) (L : List Int) : List α := bfs f s L (many 0)
theorem ord_done {i : Nat} (h : (bfs f s L i).length ≤ i) (hi : i ≤ 200) : bfs f s L i = ord f s L := (bfs_stop h (by rw [many_eq]; exact hi)).symm
theorem ord_prefix {i : Nat} (hi : i ≤ 200) : bfs f s L i <+: ord f s L := bfs_prefix (by rw [many_eq]; exact hi)
theorem ord_nodup : (ord f s L).Nodup := bfs_nodup _
theorem ord_mem0 : s ∈ ord f s L := (bfs_prefix (Nat.zero_le (many 0))).subset (by simp [bfs])
theorem ord_zero : (ord f s L)[0]? = some s := by
  obtain ⟨t, ht⟩ := bfs_prefix (f := f) (s := s) (L := L) (Nat.zero_le (many 0))
  unfold ord
  rw [← ht]; rfl
theorem ord_pos : 0 < (ord f s L).length := List.length_pos_of_mem ord_mem0
theorem ord_closed (h : (ord f s L).length ≤ 200) {q : α} (hq : q ∈ ord f s L) : ∀ l ∈ L, f q l ∈ ord f s L := by
  obtain ⟨j, hj, rfl⟩ := List.mem_iff_getElem.1 hq
  exact bfs_closed (Nat.lt_of_lt_of_le hj (by rw [many_eq]; exact h)) (List.getElem?_eq_getElem hj)
theorem ord_all {P : α → Prop} (h0 : P s) (hs : ∀ q, P q → ∀ l ∈ L, P (f q l)) : ∀ q ∈ ord f s L, P q := bfs_all h0 hs _
theorem ord_zero' (h : (ord f s L).length ≤ 200) : (ord f s L).idxOf s = 0 := by
  have h0 := ord_zero (f := f) (s := s) (L := L)
  cases hl : ord f s L with
  | nil => rw [hl] at h0; cases h0
  | cons x r => rw [hl] at h0; simp at h0; subst h0; simp
theorem idx_prefix {xs ys : List α} (h : xs <+: ys) {x : α} (hx : x ∈ xs) : ys.idxOf x = xs.idxOf x := by
  obtain ⟨t, rfl⟩ := h
  rw [List.idxOf_append, if_pos hx]
theorem idx_new {xs : List α} {x : α} (hx : x ∉ xs) : (addNode xs x).idxOf x = xs.length := by
  rw [addNode_F hx, List.idxOf_append, if_neg hx]
  simp
theorem idx_getElem {xs : List α} (h : xs.Nodup) {i : Nat} {x : α} (hi : xs[i]? = some x) : xs.idxOf x = i := by
  obtain ⟨hl, rfl⟩ := List.getElem?_eq_some_iff.1 hi
  exact h.idxOf_getElem i hl
theorem getElem_idx {xs : List α} {x : α} (h : x ∈ xs) : xs[xs.idxOf x]? = some x := by
  rw [List.getElem?_eq_some_iff]
  exact ⟨List.idxOf_lt_length_iff.2 h, List.getElem_idxOf _⟩
def rowAt (f : α → Int → α) (L : List Int) (ns : List α) (q : α) : List Int := L.map fun l => (ns.idxOf (f q l) : Int)
def rowsAt (f : α → Int → α) (L : List Int) (ns : List α) (i : Nat) : List (List Int) := (ns.take i).map (rowAt f L ns)
theorem rowAt_prefix {ns ms : List α} {q : α} (h : ns <+: ms) (hm : ∀ l ∈ L, f q l ∈ ns) : rowAt f L ms q = rowAt f L ns q :=
  List.map_congr_left fun l hl => by rw [idx_prefix h (hm l hl)]
theorem rowsAt_step {i : Nat} {q : α} (h : (bfs f s L i)[i]? = some q) : rowsAt f L (bfs f s L (i + 1)) (i + 1) = rowsAt f L (bfs f s L i) i ++ [rowAt f L (bfs f s L (i + 1)) q] := by
  have hi := (List.getElem?_eq_some_iff.1 h).1
  have hp := bfs_prefix1 (f := f) (s := s) (L := L) i
  have e1 : (bfs f s L (i + 1)).take (i + 1) = (bfs f s L i).take i ++ [q] := by
    obtain ⟨t, ht⟩ := hp
    rw [← ht, List.take_append_of_le_length (by omega), List.take_succ_eq_append_getElem hi]
    congr 1
    simp only [List.cons.injEq, and_true]
    rw [List.getElem?_eq_getElem hi] at h
    exact Option.some.inj h
  unfold rowsAt
  rw [e1, List.map_append]
  congr 1
  refine List.map_congr_left fun p hp' => rowAt_prefix hp ?_
  obtain ⟨j, hj, rfl⟩ := List.mem_iff_getElem.1 hp'
  rw [List.length_take] at hj
  rw [List.getElem_take]
  exact bfs_closed (by omega) (List.getElem?_eq_getElem (by omega))
theorem rowsAt_length (ns : List α) (i : Nat) (h : i ≤ ns.length) : (rowsAt f L ns i).length = i := by simp [rowsAt]; omega
def rowTo (f : α → Int → α) (L : List Int) (ns : List α) (q : α) (k : Nat) : List Int := (L.take k).map fun l => (ns.idxOf (f q l) : Int)
theorem rowTo_step {ns : List α} {q : α} {k : Nat} (hk : k < L.length) (hm : ∀ l ∈ L.take k, f q l ∈ ns) : rowTo f L (addNode ns (f q (L.getD k 0))) q (k + 1) = rowTo f L ns q k ++ [((addNode ns (f q (L.getD k 0))).idxOf (f q (L.getD k 0)) : Int)] := by
  unfold rowTo
  rw [take_snoc 0 hk, List.map_append]
  congr 1
  exact List.map_congr_left fun l hl => by rw [idx_prefix (addNode_prefix _ _) (hm l hl)]
theorem rowTo_done {ns : List α} {q : α} {k : Nat} (h : L.length ≤ k) : rowTo f L ns q k = rowAt f L ns q := by unfold rowTo; rw [List.take_of_length_le h]; rfl
def mid (f : α → Int → α) (s : α) (L : List Int) (i : Nat) (q : α) (k : Nat) : List α := addAll (bfs f s L i) ((L.take k).map (f q))
theorem mid_succ {i : Nat} {q : α} {k : Nat} (hk : k < L.length) : mid f s L i q (k + 1) = addNode (mid f s L i q k) (f q (L.getD k 0)) := by
  unfold mid
  rw [take_snoc 0 hk, List.map_append]
  exact addAll_snoc _ _ _
theorem mid_done {i : Nat} {q : α} {k : Nat} (h : L.length ≤ k) (hq : (bfs f s L i)[i]? = some q) : mid f s L i q k = bfs f s L (i + 1) := by
  unfold mid
  rw [List.take_of_length_le h, bfs_succ hq]
theorem mid_mem {i : Nat} {q : α} {k : Nat} : ∀ l ∈ L.take k, f q l ∈ mid f s L i q k := fun l hl => mem_addAll.2 (.inr (List.mem_map.2 ⟨l, hl, rfl⟩))
theorem mid_prefix {i : Nat} {q : α} {k : Nat} (hq : (bfs f s L i)[i]? = some q) : mid f s L i q k <+: bfs f s L (i + 1) := by
  rw [bfs_succ hq]
  unfold mid
  have : L.map (f q) = (L.take k).map (f q) ++ (L.drop k).map (f q) := by rw [← List.map_append, List.take_append_drop]
  rw [this]
  unfold addAll
  rw [List.foldl_append]
  exact addAll_prefix _ _
theorem mid_prefix0 (i : Nat) (q : α) (k : Nat) : bfs f s L i <+: mid f s L i q k := addAll_prefix _ _
end bfs
section maps
variable {α β : Type} [DecidableEq α] [DecidableEq β] {f : α → Int → α} {s : α} {L : List Int} {f' : β → Int → β} {g : α → β} {P : α → Prop}
theorem addNode_map {ns : List α} {x : α} (hg : ∀ a b, P a → P b → g a = g b → a = b) (hn : ∀ a ∈ ns, P a) (hx : P x) : addNode (ns.map g) (g x) = (addNode ns x).map g := by
  by_cases h : x ∈ ns
  · rw [addNode_T h, addNode_T (List.mem_map_of_mem h)]
  · have : g x ∉ ns.map g := fun hc => by
      obtain ⟨y, hy, e⟩ := List.mem_map.1 hc
      exact h (hg y x (hn y hy) hx e ▸ hy)
    rw [addNode_F h, addNode_F this, List.map_append]; rfl
theorem addAll_map (hg : ∀ a b, P a → P b → g a = g b → a = b) : ∀ {xs ns : List α}, (∀ a ∈ ns, P a) → (∀ a ∈ xs, P a) → addAll (ns.map g) (xs.map g) = (addAll ns xs).map g
  | [], ns, _, _ => rfl
  | x :: xs, ns, hn, hx => by
    rw [List.map_cons, addAll_cons, addAll_cons, addNode_map hg hn (hx x (by simp))]
    refine addAll_map hg (fun a ha => ?_) (fun a ha => hx a (by simp [ha]))
    rcases mem_addNode.1 ha with h | h
    · exact hn a h
    · exact h ▸ hx x (by simp)
theorem bfs_map (hg : ∀ a b, P a → P b → g a = g b → a = b) (h0 : P s) (hs : ∀ q, P q → ∀ l ∈ L, P (f q l)) (hf : ∀ q, P q → ∀ l ∈ L, f' (g q) l = g (f q l)) (i : Nat) : bfs f' (g s) L i = (bfs f s L i).map g := by
  induction i with
  | zero => rfl
  | succ i ih =>
    rw [bfs, bfs, ih, List.getElem?_map]
    cases hq : (bfs f s L i)[i]? with
    | none => rfl
    | some q =>
      have hP := bfs_all h0 hs i
      have hPq := hP q (List.mem_of_getElem? hq)
      have e : L.map (f' (g q)) = (L.map (f q)).map g := by
        rw [List.map_map]
        exact List.map_congr_left fun l hl => hf q hPq l hl
      simp only [Option.map_some]
      rw [e]
      exact addAll_map hg hP (fun a ha => by obtain ⟨l, hl, rfl⟩ := List.mem_map.1 ha; exact hs q hPq l hl)
theorem ord_map (hg : ∀ a b, P a → P b → g a = g b → a = b) (h0 : P s) (hs : ∀ q, P q → ∀ l ∈ L, P (f q l)) (hf : ∀ q, P q → ∀ l ∈ L, f' (g q) l = g (f q l)) : ord f' (g s) L = (ord f s L).map g := bfs_map hg h0 hs hf _
theorem idx_map {xs : List α} {x : α} (hg : ∀ a b, P a → P b → g a = g b → a = b) (hn : ∀ a ∈ xs, P a) (hx : P x) : (xs.map g).idxOf (g x) = xs.idxOf x := by
  induction xs with
  | nil => rfl
  | cons y xs ih =>
    rw [List.map_cons, List.idxOf_cons, List.idxOf_cons, ih (fun a ha => hn a (by simp [ha]))]
    have : (g y == g x) = (y == x) := by
      rw [Bool.eq_iff_iff, beq_iff_eq, beq_iff_eq]
      exact ⟨hg y x (hn y (by simp)) hx, fun h => by rw [h]⟩
    rw [this]
end maps
def num {α : Type} [DecidableEq α] (al : Int) (f : α → Int → α) (s : α) (acc : α → Bool) : A :=
  ⟨al, (ord f s (letters al)).map (rowAt f (letters al) (ord f s (letters al))), (ord f s (letters al)).map acc⟩
section num
variable {α : Type} [DecidableEq α] {al : Int} {f : α → Int → α} {s : α} {acc : α → Bool}
theorem num_len : (num al f s acc).next.length = (ord f s (letters al)).length := by simp [num]
theorem num_accs : (num al f s acc).acc.length = (ord f s (letters al)).length := by simp [num]
theorem num_valid (hal : 0 ≤ al ∧ al ≤ 63) (h : (ord f s (letters al)).length ≤ 12) : validA (num al f s acc) = true := by
  have h0 := ord_pos (f := f) (s := s) (L := letters al)
  refine validA_spec.2 ⟨hal, by rw [num_len]; omega, by rw [num_accs, num_len], fun row hr => ?_⟩
  obtain ⟨q, hq, rfl⟩ := List.mem_map.1 hr
  refine ⟨by simp [rowAt, num], fun y hy => ?_⟩
  obtain ⟨l, hl, rfl⟩ := List.mem_map.1 hy
  rw [num_len]
  have := List.idxOf_lt_length_iff.2 (ord_closed (by omega) hq l hl)
  omega
theorem goA_num (hal : 0 ≤ al ∧ al ≤ 63) {q : α} (hq : q ∈ ord f s (letters al)) {l : Int} (hl : l ∈ letters al) : goA (num al f s acc) ((ord f s (letters al)).idxOf q : Int) l = ((ord f s (letters al)).idxOf (f q l) : Int) := by
  obtain ⟨hx0, hx6, hh⟩ := mem_letters hl
  obtain ⟨p1, p2⟩ := place_lt hal ⟨hx0, hx6⟩ hh
  have hlt := List.idxOf_lt_length_iff.2 hq
  have hh' : hs (num al f s acc).al l = true := hh
  have e0 : (num al f s acc).next = (ord f s (letters al)).map (rowAt f (letters al) (ord f s (letters al))) := rfl
  have e9 : place (num al f s acc).al l = place al l := rfl
  have e2 : ((ord f s (letters al)).map (rowAt f (letters al) (ord f s (letters al)))).getD ((ord f s (letters al)).idxOf q) [] = rowAt f (letters al) (ord f s (letters al)) q := by
    rw [List.getD_eq_getElem?_getD, List.getElem?_map, getElem_idx hq]; rfl
  have e3 : (letters al)[place al l]? = some l := by
    rw [List.getElem?_eq_getElem p1]
    rw [List.getD_eq_getElem?_getD, List.getElem?_eq_getElem p1] at p2
    exact congrArg some p2
  rw [goA_yes hh', e0, e9, Int.toNat_natCast, e2]
  unfold rowAt
  rw [List.getD_eq_getElem?_getD, List.getElem?_map, e3]
  rfl
theorem num_acc : (num al f s acc).acc = (ord f s (letters al)).map acc := rfl
theorem acc_num {q : α} (hq : q ∈ ord f s (letters al)) : (num al f s acc).acc.getD (((ord f s (letters al)).idxOf q : Int)).toNat false = acc q := by
  rw [num_acc, Int.toNat_natCast, List.getD_eq_getElem?_getD, List.getElem?_map, getElem_idx hq]
  rfl
theorem run_num (hal : 0 ≤ al ∧ al ≤ 63) (h : (ord f s (letters al)).length ≤ 200) : ∀ (w : List Int) {q : α}, q ∈ ord f s (letters al) → (∀ x ∈ w, x ∈ letters al) → run (num al f s acc) ((ord f s (letters al)).idxOf q : Int) w = ((ord f s (letters al)).idxOf (w.foldl f q) : Int) ∧ w.foldl f q ∈ ord f s (letters al)
  | [], q, hq, _ => ⟨rfl, hq⟩
  | x :: w, q, hq, hw => by
    have hx := hw x (by simp)
    have hn := ord_closed h hq x hx
    have := run_num hal h w hn (fun y hy => hw y (by simp [hy]))
    refine ⟨?_, this.2⟩
    have e : run (num al f s acc) ((ord f s (letters al)).idxOf q : Int) (x :: w) = run (num al f s acc) (goA (num al f s acc) ((ord f s (letters al)).idxOf q : Int) x) w := rfl
    rw [e, goA_num hal hq hx]
    exact this.1
theorem num_map {β : Type} [DecidableEq β] {f' : β → Int → β} {acc' : β → Bool} {g : α → β} {P : α → Prop} (hg : ∀ a b, P a → P b → g a = g b → a = b) (h0 : P s) (hs : ∀ q, P q → ∀ l ∈ letters al, P (f q l))
    (hf : ∀ q, P q → ∀ l ∈ letters al, f' (g q) l = g (f q l)) (ha : ∀ q, P q → acc' (g q) = acc q) : num al f' (g s) acc' = num al f s acc := by
  have hP := ord_all (f := f) (s := s) (L := letters al) h0 hs
  have e := ord_map (f := f) (s := s) (L := letters al) (f' := f') hg h0 hs hf
  unfold num
  rw [e]
  simp only [List.map_map, A.mk.injEq, true_and]
  refine ⟨List.map_congr_left fun q hq => ?_, List.map_congr_left fun q hq => ha q (hP q hq)⟩
  show rowAt f' (letters al) ((ord f s (letters al)).map g) (g q) = _
  refine List.map_congr_left fun l hl => ?_
  rw [hf q (hP q hq) l hl, idx_map hg hP (hs q (hP q hq) l hl)]
end num
def accA (a : A) (q : Int) : Bool := a.acc.getD q.toNat false
def trim (a : A) : A := num a.al (goA a) 0 (accA a)
theorem inU {n : Nat} {q : Int} : q ∈ (List.range n).map (fun i : Nat => (i : Int)) ↔ 0 ≤ q ∧ q < n := by
  rw [List.mem_map]
  constructor
  · rintro ⟨i, hi, rfl⟩; have := List.mem_range.1 hi; omega
  · rintro ⟨h1, h2⟩; exact ⟨q.toNat, List.mem_range.2 (by omega), by omega⟩
theorem trim_bfs_len {a : A} (hv : validA a = true) (i : Nat) : (bfs (goA a) 0 (letters a.al) i).length ≤ a.next.length :=
  bfs_len (U := (List.range a.next.length).map (fun i : Nat => (i : Int))) (inU.2 (zero_in hv)) (fun q hq l hl => inU.2 (goA_in hv (inU.1 hq) ⟨(mem_letters hl).1, (mem_letters hl).2.1⟩)) (by simp) i
theorem trim_len {a : A} (hv : validA a = true) : (ord (goA a) 0 (letters a.al)).length ≤ a.next.length := trim_bfs_len hv _
theorem trim_valid {a : A} (hv : validA a = true) : validA (trim a) = true := num_valid (validA_spec.1 hv).1 (by have := trim_len hv; have := (validA_spec.1 hv).2.1; omega)
end Go.Proofs.YtnckpafknojdhaaDoor
set_option linter.unusedSimpArgs false
set_option linter.unusedVariables false
namespace Go.Proofs.YtnckpafknojdhaaDoor
open Go.RowKit
def encI (x : Int) : Value := .int .i64 x
def OwnRowsZ (w : World) (B U : Nat) (e e' : TypeId) (v : Value) (xss : List (List Int)) (z : Value) : Prop :=
  ∃ rs, Own w B e v rs ∧ rs.length = xss.length ∧ (∀ i r, rs[i]? = some r → Own w B e' r ((xss.getD i []).map (Value.int .i64)) ∧ ∀ k, r.ownBlock = some k → k < U ∧ z.ownBlock ≠ some k) ∧
    ∀ (i j : Nat) (r r' : Value), rs[i]? = some r → rs[j]? = some r' → i ≠ j → ∀ k, r.ownBlock = some k → r'.ownBlock ≠ some k
section
variable {w w' : World} {B U : Nat} {e e' : TypeId} {v z : Value} {xss : List (List Int)}
theorem OwnRowsZ.nil (w : World) (B U : Nat) (e e' : TypeId) (z : Value) : OwnRowsZ w B U e e' (.slice none 0 0) [] z := ⟨[], Own.nil _ _ _, rfl, by simp, by simp⟩
theorem OwnRowsZ.to (h : OwnRowsZ w B U e e' v xss z) : OwnRows w B U e e' v xss := by
  obtain ⟨rs, h1, h2, h3, h4⟩ := h
  exact ⟨rs, h1, h2, fun i r hr => ⟨(h3 i r hr).1, fun k hk => ((h3 i r hr).2 k hk).1⟩, h4⟩
theorem OwnRowsZ.ext (h : OwnRowsZ w B U e e' v xss z) (x : Ext w w') : OwnRowsZ w' B U e e' v xss z := by
  obtain ⟨rs, h1, h2, h3, h4⟩ := h
  exact ⟨rs, h1.ext x, h2, fun i r hr => ⟨(h3 i r hr).1.ext x, (h3 i r hr).2⟩, h4⟩
theorem OwnRowsZ.up {U' : Nat} (h : OwnRowsZ w B U e e' v xss z) (hU : U ≤ U') : OwnRowsZ w B U' e e' v xss z := by
  obtain ⟨rs, h1, h2, h3, h4⟩ := h
  exact ⟨rs, h1, h2, fun i r hr => ⟨(h3 i r hr).1, fun k hk => ⟨Nat.lt_of_lt_of_le ((h3 i r hr).2 k hk).1 hU, ((h3 i r hr).2 k hk).2⟩⟩, h4⟩
theorem OwnRowsZ.now (h : OwnRowsZ w B U e e' v xss z) : OwnRowsZ w B w.heap.size e e' v xss z := by
  obtain ⟨rs, h1, h2, h3, h4⟩ := h
  exact ⟨rs, h1, h2, fun i r hr => ⟨(h3 i r hr).1, fun k hk => ⟨((h3 i r hr).1.lt k hk).2, ((h3 i r hr).2 k hk).2⟩⟩, h4⟩
theorem OwnRowsZ.mapped {κ : Type} {enc : κ → Value} {b : Nat} {xs : List κ} (h : OwnRowsZ w B U e e' v xss z) (hm : MapN enc w b xs) (hg : w.grownBy w' (some b)) : OwnRowsZ w' B U e e' v xss z := by
  obtain ⟨rs, h1, h2, h3, h4⟩ := h
  exact ⟨rs, h1.mapped hm hg, h2, fun i r hr => ⟨(h3 i r hr).1.mapped hm hg, (h3 i r hr).2⟩, h4⟩
theorem OwnRowsZ.apart {B' : Nat} {u : Value} {us : List Value} (h : OwnRowsZ w B U e e' v xss z) (ho : Own w B' e' u us) (hg : w.grownBy w' u.ownBlock) (hB : U ≤ B') (hne : e' ≠ e) : OwnRowsZ w' B U e e' v xss z := by
  obtain ⟨rs, h1, h2, h3, h4⟩ := h
  refine ⟨rs, h1.owned ho hg hne, h2, fun i r hr => ⟨(h3 i r hr).1.grown hg (fun k hk hc => ?_), (h3 i r hr).2⟩, h4⟩
  have := ((h3 i r hr).2 k hk).1
  have := (ho.lt k hc).1
  omega
theorem OwnRowsZ.grow {B' : Nat} {z' : Value} {us : List Value} (h : OwnRowsZ w B U e e' v xss z) (ho : Own w B' e' z us) (hg : w.grownBy w' z.ownBlock) (hf : ∀ k, z'.ownBlock = some k → z.ownBlock = some k ∨ w.heap.size ≤ k) (hne : e' ≠ e) : OwnRowsZ w' B U e e' v xss z' := by
  obtain ⟨rs, h1, h2, h3, h4⟩ := h
  refine ⟨rs, h1.owned ho hg hne, h2, fun i r hr => ⟨(h3 i r hr).1.grown hg (fun k hk hc => ((h3 i r hr).2 k hk).2 hc), fun k hk => ⟨((h3 i r hr).2 k hk).1, fun hc => ?_⟩⟩, h4⟩
  rcases hf k hc with h5 | h5
  · exact ((h3 i r hr).2 k hk).2 h5
  · have := ((h3 i r hr).1.lt k hk).2; omega
theorem OwnRowsZ.open (h : OwnRowsZ w B U e e' v xss z) (hne : e ≠ e') : ∃ rs, Own w B e v rs ∧ rs.length = xss.length ∧
    ∀ r xs w1 v' w', Ext w w1 → Own w1 U e' r (xs.map (Value.int .i64)) → Apart z r → B ≤ U → Own w' B e v' (rs ++ [r]) → w1.grownBy w' v.ownBlock → OwnRowsZ w' B w'.heap.size e e' v' (xss ++ [xs]) z := by
  obtain ⟨rs, h1, h2, h3, h4⟩ := h
  refine ⟨rs, h1, h2, fun r xs w1 v' w' x hr ha hBU hv hg => ?_⟩
  have hv1 := h1.ext x
  have hr' := hr.owned hv1 hg hne
  have hrow : ∀ i q, (rs ++ [r])[i]? = some q → (rs[i]? = some q ∧ i < rs.length) ∨ (i = rs.length ∧ q = r) := by
    intro i q hq
    rw [List.getElem?_append] at hq
    split at hq
    · exact .inl ⟨hq, by assumption⟩
    · right
      have : i - rs.length = 0 := by
        rcases Nat.eq_zero_or_pos (i - rs.length) with h | h
        · exact h
        · rw [List.getElem?_eq_none (by simp; omega)] at hq; cases hq
      rw [this] at hq
      simp at hq
      exact ⟨by omega, hq.symm⟩
  refine ⟨rs ++ [r], hv, by simp [h2], fun i q hq => ?_, fun i j q q' hq hq' hij k hk hk' => ?_⟩
  · rcases hrow i q hq with ⟨hq, hlt⟩ | ⟨rfl, rfl⟩
    · have e1 : (xss ++ [xs]).getD i [] = xss.getD i [] := by
        simp [List.getElem?_append, show i < xss.length by omega]
      rw [e1]
      have ho := ((h3 i q hq).1.ext x).owned hv1 hg hne
      exact ⟨ho, fun k hk => ⟨(ho.lt k hk).2, ((h3 i q hq).2 k hk).2⟩⟩
    · have e1 : (xss ++ [xs]).getD rs.length [] = xs := by
        simp [List.getElem?_append, h2]
      rw [e1]
      exact ⟨hr'.mono hBU, fun k hk => ⟨(hr'.lt k hk).2, fun hc => ha k hc hk⟩⟩
  · rcases hrow i q hq with ⟨hq1, _⟩ | ⟨hi1, hq1⟩ <;> rcases hrow j q' hq' with ⟨hq2, _⟩ | ⟨hj1, hq2⟩
    · exact h4 i j q q' hq1 hq2 hij k hk hk'
    · have a1 := ((h3 i q hq1).2 k hk).1
      have a2 := (hr.lt k (hq2 ▸ hk')).1
      omega
    · have a1 := ((h3 j q' hq2).2 k hk').1
      have a2 := (hr.lt k (hq1 ▸ hk)).1
      omega
    · exact hij (by omega)
end
theorem Sq.insert {P : Program} {N : Nat} {ops : Array Oper} {Q : Exit → Act → World → Prop} {rest : List Oper} {l : Slots} {w : World} {ty : TypeId} {pos : String} {after : Array Edge} {g : Option (Nat × Bool)}
    {κ : Type} [DecidableEq κ] {enc : κ → Value} {b : Nat} {xs : List κ} {t : TypeId} {m x y : Operand} {k : κ} {n : Int} (ht : KeyT P t enc) (hm : MapN enc w b xs) (hg : On ops l g) (hx : ev l m = some (.map (some b))) (hk : ev l x = some (enc k)) (hy : ev l y = some (.int .i64 n)) (hn : n = xs.length) (hin : k ∉ xs)
    (h : ∀ w', w.grownBy w' (some b) → MapN enc w' b (xs ++ [k]) → Sq P N ops Q rest l w') : Sq P N ops Q (⟨none, .insert t m x y, ty, pos, after, g⟩ :: rest) l w := by
  obtain ⟨kt, et, kd, h1, h2, h3, h4, h5⟩ := ht.types
  obtain ⟨es, c, hb, hes⟩ := hm
  have hf := findKey_num (P := P) (w := w) h2 h3 k hes
  rw [if_neg hin] at hf
  have hs := MapKept.heap_set (o' := .map (es.push { key := enc k, val := .int .i64 n, born := c }) (c + 1)) hb
  refine .unit (w' := { w with heap := w.heap.setIfInBounds b (.map (es.push { key := enc k, val := .int .i64 n, born := c }) (c + 1)) }) hg rfl (fun a ha => ?_) (h _ ⟨rfl, rfl, rfl, by simp, fun j _ hne => hs.2 j (fun e => hne (congrArg some e))⟩ ⟨_, _, hs.1, ?_⟩)
  · simp [execOp, Instr.mapUpdate, ha.ev hx, ha.ev hk, ha.ev hy, run_underlying h1, MapKept.run_getObj_map hb, MapKept.run_checkKey h2 (h5 k), hf, MapKept.run_setObj_map _ hb, Result.andThen]
  · rw [Array.toList_push, List.map_append, hes, List.zipIdx_append, List.map_append, hn]
    simp
theorem keyI {P : Program} {t kt et : TypeId} (h1 : P.underlying t = some (.map kt et)) (h2 : P.underlying kt = some (.int .i64)) (h3 : ∀ w, (zeroValue et).run P w = .ok (.int .i64 0) w) : KeyT P t encI :=
  ⟨kt, et, .int .i64, h1, h2, fun x y => by simp only [Instr.sameNow, encI, if_true]; first | done | (congr 1; first | done | (rw [Bool.eq_iff_iff]; simp)), h3, fun x => rfl⟩
def Clo (P : Program) (w0 : World) (fv : Value) (D : Int → Prop) (f : Int → Int → Int) : Prop :=
  ∃ k fn, ∃ cs : List Value, fv = .func (.func k) #[] cs.toArray ∧ Fn P k fn ∧ ∀ w q x, Ext w0 w → D q → 0 ≤ x ∧ x < 6 → Ret P k ([Value.int .i64 q, Value.int .i64 x] ++ cs).toArray w fun v w' => v = .int .i64 (f q x) ∧ Ext w w'
theorem ord_lim {f : Int → Int → Int} {s : Int} {L : List Int} {i k : Nat} {q : Int} {lim : Int} (hq : (bfs f s L i)[i]? = some q) (hi : i + 1 ≤ 200) (hl : (((mid f s L i q k).length : Nat) : Int) = lim) (hk : k < L.length) (hn : f q (L.getD k 0) ∉ mid f s L i q k) : ¬ (((ord f s L).length : Nat) : Int) ≤ lim := by
  have h1 := (mid_prefix (k := k + 1) hq).length_le
  rw [mid_succ hk, addNode_F hn, List.length_append] at h1
  have h2 := (ord_prefix (f := f) (s := s) (L := L) hi).length_le
  simp only [List.length_singleton] at h1
  omega
theorem ord_fin {f : Int → Int → Int} {s : Int} {L : List Int} {i : Nat} {lim : Int} (h : (bfs f s L i).length ≤ i) (hi : i ≤ 200) (hl : (((bfs f s L i).length : Nat) : Int) ≤ lim) : bfs f s L i = ord f s L ∧ ((((ord f s L).length : Nat) : Int) ≤ lim) := by
  have e := ord_done h hi
  exact ⟨e, by rw [← e]; exact hl⟩
theorem rowsAt_fin {f : Int → Int → Int} {s : Int} {L : List Int} {i : Nat} (h : (bfs f s L i).length ≤ i) (hi : i ≤ 200) : rowsAt f L (bfs f s L i) i = (ord f s L).map (rowAt f L (ord f s L)) := by
  rw [ord_done h hi]
  unfold rowsAt
  rw [List.take_of_length_le (by rw [← ord_done h hi]; exact h)]
theorem mid_at {f : Int → Int → Int} {s : Int} {L : List Int} {i k : Nat} {q : Int} (hq : (bfs f s L i)[i]? = some q) : (mid f s L i q k).getD i 0 = q := by
  obtain ⟨t, ht⟩ := mid_prefix0 (f := f) (s := s) (L := L) i q k
  have hi := (List.getElem?_eq_some_iff.1 hq).1
  rw [← ht, List.getD_eq_getElem?_getD, List.getElem?_append_left hi, hq]
  rfl
theorem notin_snoc {xs : List Int} {n : Int} {k : Nat} (hp : n ∉ xs.take k) (hk : k < xs.length) (hne : ¬ xs.getD k 0 = n) : n ∉ xs.take (k + 1) := by
  rw [take_snoc 0 hk]
  simp only [List.mem_append, List.mem_singleton, not_or]
  exact ⟨hp, fun h => hne h.symm⟩
theorem notin_done {xs : List Int} {n : Int} {k : Nat} (hp : n ∉ xs.take k) (hk : xs.length ≤ k) : n ∉ xs := by rwa [List.take_of_length_le hk] at hp
theorem notin_lt {xs : List Int} {n : Int} {k : Nat} (hm : n ∈ xs) (hp : n ∉ xs.take k) : k < xs.length := by
  rcases Nat.lt_or_ge k xs.length with h | h
  · exact h
  · exact absurd hm (notin_done hp h)
theorem idx_here {xs : List Int} {n : Int} {k : Nat} (hp : n ∉ xs.take k) (hk : k < xs.length) (he : xs.getD k 0 = n) : xs.idxOf n = k := by
  have e : xs = xs.take k ++ xs.drop k := (List.take_append_drop k xs).symm
  have hd : xs.drop k = n :: xs.drop (k + 1) := by
    rw [List.drop_eq_getElem_cons hk]
    congr 1
    rw [List.getD_eq_getElem?_getD, List.getElem?_eq_getElem hk] at he
    exact he
  rw [e, List.idxOf_append, if_neg hp, hd]
  simp
  omega
theorem row_go {a : A} (hv : validA a = true) {q : Nat} (hq : q < a.next.length) {k : Nat} (hk : k < (letters a.al).length) : (a.next.getD q []).getD k 0 = goA a q ((letters a.al).getD k 0) := by
  obtain ⟨h1, h2⟩ := place_at (validA_spec.1 hv).1 hk
  rw [goA_yes h1, h2, Int.toNat_natCast]
theorem rowTo_succ {f : Int → Int → Int} {L ns : List Int} {q : Int} {k : Nat} (hk : k < L.length) : rowTo f L ns q (k + 1) = rowTo f L ns q k ++ [(ns.idxOf (f q (L.getD k 0)) : Int)] := by
  unfold rowTo
  rw [take_snoc 0 hk, List.map_append]
  rfl
theorem Ints.low {w : World} {e : TypeId} {v : Value} {xs : List Int} (h : Ints w e v xs) (hx : 0 < xs.length) : ∀ k, v.ownBlock = some k → k < w.heap.size := by
  intro k hk
  rcases h with ⟨h0, _⟩ | ⟨b, o, c, cur, fr, rfl, hb, _⟩
  · rw [List.map_eq_nil_iff] at h0; subst h0; simp at hx
  · simp [Value.ownBlock] at hk
    subst hk
    exact lt_of_block hb
section three
variable {P : Program} {N : Nat} {ops : Array Oper} {Q : Exit → Act → World → Prop} {S : World → Prop} {k fuel : Nat} {listed : Array Bool} {l : Slots} {w : World}
theorem Gq.three {o o' o'' : Oper} (i j m : Nat) (hi : ops[i]? = some o) (hj : ops[j]? = some o') (hm : ops[m]? = some o'') (hr : (Region.ready .any ops listed == [i, j, m]) = true) (h : Sq P N ops (AfterG P ops Q S k fuel i listed) [o] l w) (h' : Sq P N ops (AfterG P ops Q S k fuel j listed) [o'] l w) (h'' : Sq P N ops (AfterG P ops Q S k fuel m listed) [o''] l w) : Gq P N ops Q S k (fuel + 1) listed l w := by
  intro a ha
  have hr' : Region.ready .any ops listed = [i, j, m] := by simpa using hr
  refine ⟨fun h0 => absurd (hr' ▸ h0) (by simp), fun n hn => ?_⟩
  rw [hr'] at hn
  rcases List.mem_cons.1 hn with rfl | hn
  · exact wpOp_of_list (Q' := AfterG P ops Q S k fuel _ listed) hi (fun _ _ => rfl) (fun _ _ _ => rfl) (fun _ _ => rfl) (h a ha)
  · rcases List.mem_cons.1 hn with rfl | hn
    · exact wpOp_of_list (Q' := AfterG P ops Q S k fuel _ listed) hj (fun _ _ => rfl) (fun _ _ _ => rfl) (fun _ _ => rfl) (h' a ha)
    · obtain rfl : n = m := by simpa using hn
      exact wpOp_of_list (Q' := AfterG P ops Q S k fuel _ listed) hm (fun _ _ => rfl) (fun _ _ _ => rfl) (fun _ _ => rfl) (h'' a ha)
end three
theorem Eq.ret3 {P : Program} {fn : Func} {N t u x : Nat} {l : Slots} {w : World} {v v' v'' : Value} {R : Value → World → Prop} (hr : fn.results = #[.tmp t, .tmp u, .tmp x]) (hv : look l t = some v) (hv' : look l u = some v') (hv'' : look l x = some v'') (h : R (.tuple #[v, v', v'']) w) :
    Eq N (bodyPost P fn fun e w' => ∃ v, e = .returned v ∧ R v w') .ret l w := fun a ha =>
  bodyPost_ret (v := .tuple #[v, v', v'']) (by
    have e : (results fn a.tmps).run P w = .ok (.tuple #[a.tmps.getD t undef, a.tmps.getD u undef, a.tmps.getD x undef]) w := by simp [results, hr]
    rw [e, ha.slot _ _ hv, ha.slot _ _ hv', ha.slot _ _ hv'']) ha.defers ⟨_, rfl, h⟩
def idxG {α : Type} [DecidableEq α] (ps : List α) (p : α) : Nat := ps.idxOf p
theorem idxG_lt {α : Type} [DecidableEq α] {xs : List α} {x : α} (h : x ∈ xs) : idxG xs x < xs.length := List.idxOf_lt_length_iff.2 h
section wid2
variable {w : World} {B : Nat} {e : TypeId} {v : Value} {ps : List (Int × Int)}
theorem Wid.shape {n : Nat} {rows : List (List Value)} (h : Wid w B e n v rows) : ∃ p c, v = .slice p rows.length c := by
  rcases h.cases with ⟨rfl, rfl⟩ | ⟨g, cap, cs, rfl, _⟩
  · exact ⟨none, 0, rfl⟩
  · exact ⟨_, _, rfl⟩
end wid2
section wid3
variable {P : Program} {N : Nat} {ops : Array Oper} {Q : Exit → Act → World → Prop} {rest : List Oper} {l : Slots} {w : World}
variable {d : Nat} {ty : TypeId} {pos : String} {after : Array Edge} {g : Option (Nat × Bool)}
end wid3
theorem addAll_le {α : Type} [DecidableEq α] : ∀ (xs ns : List α), (addAll ns xs).length ≤ ns.length + xs.length
  | [], ns => Nat.le_refl _
  | x :: xs, ns => by
    rw [addAll_cons]
    have h := addAll_le xs (addNode ns x)
    have h2 : (addNode ns x).length ≤ ns.length + 1 := by
      unfold addNode
      split
      · omega
      · simp
    simp only [List.length_cons]
    omega
theorem Wid.low {w : World} {B n : Nat} {e : TypeId} {v : Value} {rows : List (List Value)} (h : Wid w B e n v rows) : ∀ k, v.ownBlock = some k → k < w.heap.size := fun k hk => (h.lt k hk).2
end Go.Proofs.YtnckpafknojdhaaDoor
set_option linter.unusedSimpArgs false
set_option linter.unusedVariables false
namespace Go.Proofs.YtnckpafknojdhaaDoor
def lexLt : List Int → List Int → Prop
  | [], [] => False
  | [], _ :: _ => True
  | _ :: _, [] => False
  | x :: v, y :: w => x < y ∨ (x = y ∧ lexLt v w)
def sl (v w : List Int) : Prop := v.length < w.length ∨ (v.length = w.length ∧ lexLt v w)
def sle (v w : List Int) : Prop := v = w ∨ sl v w
theorem lexLt_irrefl : ∀ v, ¬ lexLt v v
  | [] => id
  | x :: v => fun h => by
    rcases h with h | ⟨_, h⟩
    · omega
    · exact lexLt_irrefl v h
theorem lexLt_trans : ∀ {u v w : List Int}, lexLt u v → lexLt v w → lexLt u w
  | [], [], _, h, _ => h.elim
  | [], _ :: _, [], _, h => h.elim
  | [], _ :: _, _ :: _, _, _ => trivial
  | _ :: _, [], _, h, _ => h.elim
  | _ :: _, _ :: _, [], _, h => h.elim
  | x :: u, y :: v, z :: w, h, h' => by
    rcases h with h | ⟨rfl, h⟩
    · rcases h' with h' | ⟨rfl, h'⟩
      · exact .inl (by omega)
      · exact .inl h
    · rcases h' with h' | ⟨rfl, h'⟩
      · exact .inl h'
      · exact .inr ⟨rfl, lexLt_trans h h'⟩
theorem lexLt_snoc : ∀ {v w : List Int} (x y : Int), v.length = w.length → lexLt v w → lexLt (v ++ [x]) (w ++ [y])
  | [], [], _, _, _, h => h.elim
  | [], _ :: _, _, _, h, _ => by simp at h
  | _ :: _, [], _, _, h, _ => by simp at h
  | a :: v, b :: w, x, y, h, h' => by
    rcases h' with h' | ⟨rfl, h'⟩
    · exact .inl h'
    · exact .inr ⟨rfl, lexLt_snoc x y (by simpa using h) h'⟩
theorem lexLt_last : ∀ (v : List Int) {x y : Int}, x < y → lexLt (v ++ [x]) (v ++ [y])
  | [], _, _, h => .inl h
  | a :: v, _, _, h => .inr ⟨rfl, lexLt_last v h⟩
theorem sl_irrefl (v : List Int) : ¬ sl v v := fun h => h.elim (by omega) (fun h => lexLt_irrefl v h.2)
theorem sl_trans {u v w : List Int} (h : sl u v) (h' : sl v w) : sl u w := by
  rcases h with h | ⟨h1, h2⟩ <;> rcases h' with h' | ⟨h3, h4⟩
  · exact .inl (by omega)
  · exact .inl (by omega)
  · exact .inl (by omega)
  · exact .inr ⟨by omega, lexLt_trans h2 h4⟩
theorem sl_snoc {v w : List Int} (x y : Int) (h : sl v w) : sl (v ++ [x]) (w ++ [y]) := by
  rcases h with h | ⟨h1, h2⟩
  · exact .inl (by simpa using h)
  · exact .inr ⟨by simpa using h1, lexLt_snoc x y h1 h2⟩
theorem sl_last (v : List Int) {x y : Int} (h : x < y) : sl (v ++ [x]) (v ++ [y]) := .inr ⟨by simp, lexLt_last v h⟩
theorem sl_nil (v : List Int) (x : Int) : sl [] (v ++ [x]) := .inl (by simp)
theorem sle_trans {u v w : List Int} (h : sle u v) (h' : sle v w) : sle u w := by
  rcases h with rfl | h
  · exact h'
  · rcases h' with rfl | h'
    · exact .inr h
    · exact .inr (sl_trans h h')
theorem sle_antisymm {v w : List Int} (h : sle v w) (h' : sle w v) : v = w := by
  rcases h with h | h
  · exact h
  · rcases h' with h' | h'
    · exact h'.symm
    · exact absurd (sl_trans h h') (sl_irrefl v)
theorem sle_snoc {v w : List Int} (x : Int) (h : sle v w) : sle (v ++ [x]) (w ++ [x]) := by
  rcases h with rfl | h
  · exact .inl rfl
  · exact .inr (sl_snoc x x h)
def nodeOf {α : Type} (f : α → Int → α) (s : α) (w : List Int) : α := w.foldl f s
theorem nodeOf_snoc {α : Type} (f : α → Int → α) (s : α) (w : List Int) (x : Int) : nodeOf f s (w ++ [x]) = f (nodeOf f s w) x := by
  unfold nodeOf
  rw [List.foldl_append]
  rfl
section
variable {α : Type} [DecidableEq α]
def wadd (f : α → Int → α) (s : α) (ws : List (List Int)) (v : List Int) : List (List Int) := if nodeOf f s v ∈ ws.map (nodeOf f s) then ws else ws ++ [v]
def wround (f : α → Int → α) (s : α) (w : List Int) (ws : List (List Int)) (Ls : List Int) : List (List Int) := Ls.foldl (fun ws l => wadd f s ws (w ++ [l])) ws
def bfsw (f : α → Int → α) (s : α) (L : List Int) : Nat → List (List Int)
  | 0 => [[]]
  | i + 1 => match (bfsw f s L i)[i]? with
    | some w => wround f s w (bfsw f s L i) L
    | none => bfsw f s L i
variable {f : α → Int → α} {s : α} {L : List Int}
theorem wadd_map (ws : List (List Int)) (v : List Int) : (wadd f s ws v).map (nodeOf f s) = addNode (ws.map (nodeOf f s)) (nodeOf f s v) := by
  unfold wadd addNode
  split
  · rfl
  · rw [List.map_append]; rfl
theorem wround_map (w : List Int) : ∀ (Ls : List Int) (ws : List (List Int)), (wround f s w ws Ls).map (nodeOf f s) = addAll (ws.map (nodeOf f s)) (Ls.map (f (nodeOf f s w)))
  | [], ws => rfl
  | l :: Ls, ws => by
    show (wround f s w (wadd f s ws (w ++ [l])) Ls).map (nodeOf f s) = _
    rw [wround_map w Ls, wadd_map, nodeOf_snoc]
    rfl
theorem bfsw_map (i : Nat) : (bfsw f s L i).map (nodeOf f s) = bfs f s L i := by
  induction i with
  | zero => rfl
  | succ i ih =>
    rw [bfsw, bfs, ← ih, List.getElem?_map]
    cases hq : (bfsw f s L i)[i]? with
    | none => rfl
    | some w => exact wround_map w L _
theorem bfsw_length (i : Nat) : (bfsw f s L i).length = (bfs f s L i).length := by rw [← bfsw_map, List.length_map]
theorem wadd_prefix (ws : List (List Int)) (v : List Int) : ws <+: wadd f s ws v := by
  unfold wadd
  split
  · exact List.prefix_refl _
  · exact List.prefix_append _ _
theorem wadd_mem {ws : List (List Int)} {u v : List Int} (h : v ∈ wadd f s ws u) : v ∈ ws ∨ v = u := by
  unfold wadd at h
  split at h
  · exact .inl h
  · rcases List.mem_append.1 h with h | h
    · exact .inl h
    · exact .inr (List.mem_singleton.1 h)
theorem wadd_self {ws : List (List Int)} {u : List Int} (h : nodeOf f s u ∉ ws.map (nodeOf f s)) : u ∈ wadd f s ws u := by
  unfold wadd
  rw [if_neg h]
  simp
theorem wadd_sorted {ws : List (List Int)} {u : List Int} (h : ws.Pairwise sl) (hb : ∀ v ∈ ws, sl v u) : (wadd f s ws u).Pairwise sl := by
  unfold wadd
  split
  · exact h
  · refine List.pairwise_append.2 ⟨h, by simp, fun v hv u' hu => ?_⟩
    rw [List.mem_singleton.1 hu]
    exact hb v hv
theorem wround_prefix (w : List Int) : ∀ (Ls : List Int) (ws : List (List Int)), ws <+: wround f s w ws Ls
  | [], ws => List.prefix_refl _
  | l :: Ls, ws => (wadd_prefix ws (w ++ [l])).trans (wround_prefix w Ls _)
theorem bfsw_prefix1 (i : Nat) : bfsw f s L i <+: bfsw f s L (i + 1) := by
  rw [bfsw]
  split
  · exact wround_prefix _ _ _
  · exact List.prefix_refl _
theorem wround_mem (w : List Int) : ∀ (Ls : List Int) (ws : List (List Int)) {v : List Int}, v ∈ wround f s w ws Ls → v ∈ ws ∨ ∃ l ∈ Ls, v = w ++ [l]
  | [], ws, v, h => .inl h
  | l :: Ls, ws, v, h => by
    rcases wround_mem w Ls (wadd f s ws (w ++ [l])) h with h1 | ⟨l', h1, h2⟩
    · rcases wadd_mem h1 with h1 | h1
      · exact .inl h1
      · exact .inr ⟨l, by simp, h1⟩
    · exact .inr ⟨l', by simp [h1], h2⟩
theorem wround_sorted (w : List Int) : ∀ (Ls : List Int) (ws : List (List Int)), Ls.Pairwise (· < ·) → ws.Pairwise sl → (∀ v ∈ ws, ∀ l ∈ Ls, sl v (w ++ [l])) → (wround f s w ws Ls).Pairwise sl
  | [], ws, _, h, _ => h
  | l :: Ls, ws, hL, h, hb => by
    obtain ⟨h1, h2⟩ := List.pairwise_cons.1 hL
    refine wround_sorted w Ls (wadd f s ws (w ++ [l])) h2 (wadd_sorted h fun v hv => hb v hv l (by simp)) ?_
    intro v hv l' hl'
    rcases wadd_mem hv with hv | rfl
    · exact hb v hv l' (by simp [hl'])
    · exact sl_last w (h1 l' hl')
theorem wround_cover (w : List Int) : ∀ (Ls : List Int) (ws : List (List Int)), Ls.Pairwise (· < ·) → (∀ v ∈ ws, ∀ l ∈ Ls, sl v (w ++ [l])) → ∀ l ∈ Ls, ∃ v ∈ wround f s w ws Ls, nodeOf f s v = nodeOf f s (w ++ [l]) ∧ sle v (w ++ [l])
  | [], ws, _, _, l, hl => by cases hl
  | l0 :: Ls, ws, hL, hb, l, hl => by
    obtain ⟨h1, h2⟩ := List.pairwise_cons.1 hL
    have hb' : ∀ v ∈ wadd f s ws (w ++ [l0]), ∀ l ∈ Ls, sl v (w ++ [l]) := by
      intro v hv l' hl'
      rcases wadd_mem hv with hv | rfl
      · exact hb v hv l' (by simp [hl'])
      · exact sl_last w (h1 l' hl')
    rcases List.mem_cons.1 hl with rfl | hl
    · by_cases hin : nodeOf f s (w ++ [l]) ∈ ws.map (nodeOf f s)
      · obtain ⟨v, hv, e⟩ := List.mem_map.1 hin
        exact ⟨v, (wround_prefix w (l :: Ls) ws).subset hv, e, .inr (hb v hv l (by simp))⟩
      · exact ⟨w ++ [l], (wround_prefix w Ls (wadd f s ws (w ++ [l]))).subset (wadd_self hin), rfl, .inl rfl⟩
    · exact wround_cover w Ls (wadd f s ws (w ++ [l0])) h2 hb' l hl
theorem bfsw_inv (hL : L.Pairwise (· < ·)) (i : Nat) : (bfsw f s L i).Pairwise sl ∧ (∀ w, (bfsw f s L i)[i]? = some w → ∀ v ∈ bfsw f s L i, ∀ x, sl v (w ++ [x])) ∧
    (∀ j w, j < i → (bfsw f s L i)[j]? = some w → ∀ l ∈ L, ∃ v ∈ bfsw f s L i, nodeOf f s v = nodeOf f s (w ++ [l]) ∧ sle v (w ++ [l])) ∧ ∀ v ∈ bfsw f s L i, (∀ x ∈ v, x ∈ L) ∧ (v = [] ∨ ∃ u ∈ bfsw f s L i, ∃ l ∈ L, v = u ++ [l]) := by
  induction i with
  | zero =>
    refine ⟨by simp [bfsw], fun w hw v hv x => ?_, fun j w hj => by omega, fun v hv => ?_⟩
    · simp only [bfsw, List.mem_singleton] at hv
      subst hv
      exact sl_nil w x
    · simp only [bfsw, List.mem_singleton] at hv
      subst hv
      exact ⟨by simp, .inl rfl⟩
  | succ i ih =>
    obtain ⟨h1, h2, h3, h4⟩ := ih
    have hp := bfsw_prefix1 (f := f) (s := s) (L := L) i
    cases hq : (bfsw f s L i)[i]? with
    | none =>
      have e : bfsw f s L (i + 1) = bfsw f s L i := by rw [bfsw, hq]
      have hl : (bfsw f s L i).length ≤ i := by
        rcases Nat.lt_or_ge i (bfsw f s L i).length with h | h
        · rw [List.getElem?_eq_getElem h] at hq; cases hq
        · exact h
      rw [e]
      refine ⟨h1, fun w hw => ?_, fun j w hj hw => ?_, h4⟩
      · rw [List.getElem?_eq_none (by omega)] at hw; cases hw
      · rcases Nat.lt_or_ge j i with h | h
        · exact h3 j w h hw
        · rw [List.getElem?_eq_none (by omega)] at hw; cases hw
    | some w =>
      have e : bfsw f s L (i + 1) = wround f s w (bfsw f s L i) L := by rw [bfsw, hq]
      have hb := h2 w hq
      have hi := (List.getElem?_eq_some_iff.1 hq).1
      have hs : (bfsw f s L (i + 1)).Pairwise sl := by rw [e]; exact wround_sorted w L _ hL h1 (fun v hv l _ => hb v hv l)
      have hat : ∀ j, j < (bfsw f s L i).length → (bfsw f s L (i + 1))[j]? = (bfsw f s L i)[j]? := by
        intro j hj
        obtain ⟨t, ht⟩ := hp
        rw [← ht, List.getElem?_append_left hj]
      have hwi : (bfsw f s L (i + 1))[i]? = some w := by rw [hat i hi, hq]
      have hmem : ∀ v ∈ bfsw f s L (i + 1), v ∈ bfsw f s L i ∨ ∃ l ∈ L, v = w ++ [l] := fun v hv => by rw [e] at hv; exact wround_mem w L _ hv
      refine ⟨hs, fun w' hw' v hv x => ?_, fun j u hj hu l hl => ?_, fun v hv => ?_⟩
      · have hlt : sl w w' := by
          obtain ⟨g1, g2⟩ := List.getElem?_eq_some_iff.1 hwi
          obtain ⟨g3, g4⟩ := List.getElem?_eq_some_iff.1 hw'
          rw [← g2, ← g4]
          exact List.pairwise_iff_getElem.1 hs i (i + 1) g1 g3 (by omega)
        rcases hmem v hv with h | ⟨l, hl, rfl⟩
        · exact sl_trans (hb v h x) (sl_snoc x x hlt)
        · exact sl_snoc l x hlt
      · rcases Nat.lt_or_ge j i with h | h
        · rw [hat j (by omega)] at hu
          obtain ⟨v, g1, g2, g3⟩ := h3 j u h hu l hl
          exact ⟨v, hp.subset g1, g2, g3⟩
        · obtain rfl : j = i := by omega
          rw [hwi] at hu
          obtain rfl := Option.some.inj hu
          obtain ⟨v, g1, g2, g3⟩ := wround_cover (f := f) (s := s) w L _ hL (fun v hv l _ => hb v hv l) l hl
          exact ⟨v, by rw [e]; exact g1, g2, g3⟩
      · rcases hmem v hv with h | ⟨l, hl, rfl⟩
        · refine ⟨(h4 v h).1, ?_⟩
          rcases (h4 v h).2 with h5 | ⟨u, h5, l, h6, h7⟩
          · exact .inl h5
          · exact .inr ⟨u, hp.subset h5, l, h6, h7⟩
        · have hw := List.mem_of_getElem? hq
          refine ⟨fun x hx => ?_, .inr ⟨w, hp.subset hw, l, hl, rfl⟩⟩
          rcases List.mem_append.1 hx with h | h
          · exact (h4 w hw).1 x h
          · rw [List.mem_singleton.1 h]; exact hl
def ordw (f : α → Int → α) (s : α) (L : List Int) : List (List Int) := bfsw f s L (many 0)
theorem ordw_map : (ordw f s L).map (nodeOf f s) = ord f s L := bfsw_map _
theorem ordw_length : (ordw f s L).length = (ord f s L).length := bfsw_length _
theorem ordw_sorted (hL : L.Pairwise (· < ·)) : (ordw f s L).Pairwise sl := (bfsw_inv hL _).1
theorem ordw_over (hL : L.Pairwise (· < ·)) {v : List Int} (hv : v ∈ ordw f s L) : ∀ x ∈ v, x ∈ L := ((bfsw_inv hL _).2.2.2 v hv).1
theorem ordw_parent (hL : L.Pairwise (· < ·)) {u : List Int} {l : Int} (hv : u ++ [l] ∈ ordw f s L) : u ∈ ordw f s L := by
  rcases ((bfsw_inv hL _).2.2.2 _ hv).2 with h | ⟨u', h1, l', _, h3⟩
  · simp at h
  · have := List.append_inj' h3 rfl
    rw [this.1]; exact h1
theorem ordw_nil : [] ∈ ordw f s L := by
  have : ∀ i, [] ∈ bfsw f s L i := by
    intro i
    induction i with
    | zero => simp [bfsw]
    | succ i ih => exact (bfsw_prefix1 i).subset ih
  exact this _
theorem ordw_node {v w : List Int} (hv : v ∈ ordw f s L) (hw : w ∈ ordw f s L) (e : nodeOf f s v = nodeOf f s w) : v = w := by
  have h := ord_nodup (f := f) (s := s) (L := L)
  rw [← ordw_map] at h
  obtain ⟨i, hi, rfl⟩ := List.mem_iff_getElem.1 hv
  obtain ⟨j, hj, rfl⟩ := List.mem_iff_getElem.1 hw
  rcases Nat.lt_trichotomy i j with hij | rfl | hij
  · exact absurd (by rw [List.getElem_map, List.getElem_map]; exact e) (List.pairwise_iff_getElem.1 h i j (by simpa using hi) (by simpa using hj) hij)
  · rfl
  · exact absurd (by rw [List.getElem_map, List.getElem_map]; exact e.symm) (List.pairwise_iff_getElem.1 h j i (by simpa using hj) (by simpa using hi) hij)
theorem ordw_cover (hL : L.Pairwise (· < ·)) (hlen : (ord f s L).length ≤ 200) : ∀ (n : Nat) (v : List Int), v.length = n → (∀ x ∈ v, x ∈ L) → ∃ w ∈ ordw f s L, nodeOf f s w = nodeOf f s v ∧ sle w v := by
  intro n
  induction n with
  | zero =>
    intro v hv _
    obtain rfl := List.eq_nil_of_length_eq_zero hv
    exact ⟨[], ordw_nil, rfl, .inl rfl⟩
  | succ n ih =>
    intro v hv hx
    rcases List.eq_nil_or_concat v with rfl | ⟨u, l, rfl⟩
    · simp at hv
    · rw [List.concat_eq_append] at hv hx ⊢
      obtain ⟨w, h1, h2, h3⟩ := ih u (by simpa using hv) (fun x h => hx x (by simp [h]))
      obtain ⟨j, hj, hw⟩ := List.mem_iff_getElem.1 h1
      have hj2 : j < many 0 := by
        have := ordw_length (f := f) (s := s) (L := L)
        rw [many_eq]
        omega
      obtain ⟨w', g1, g2, g3⟩ := (bfsw_inv (f := f) (s := s) hL (many 0)).2.2.1 j w hj2 (by rw [← hw]; exact List.getElem?_eq_getElem hj) l (hx l (by simp))
      refine ⟨w', g1, ?_, sle_trans g3 (sle_snoc l h3)⟩
      rw [g2, nodeOf_snoc, nodeOf_snoc, h2]
def firstOf (f : α → Int → α) (s : α) (L : List Int) (G : α → Bool) : Option (List Int) := (ordw f s L).find? fun w => G (nodeOf f s w)
theorem first_some (hL : L.Pairwise (· < ·)) (hlen : (ord f s L).length ≤ 200) {G : α → Bool} {w : List Int} (h : firstOf f s L G = some w) : w ∈ ordw f s L ∧ G (nodeOf f s w) = true ∧ ∀ v : List Int, (∀ x ∈ v, x ∈ L) → G (nodeOf f s v) = true → sle w v := by
  obtain ⟨hg, aas, bs, e, has⟩ := List.find?_eq_some_iff_append.1 h
  refine ⟨List.mem_of_find?_eq_some h, hg, fun v hv hgv => ?_⟩
  obtain ⟨w', h1, h2, h3⟩ := ordw_cover hL hlen _ v rfl hv
  refine sle_trans ?_ h3
  rw [e] at h1
  rcases List.mem_append.1 h1 with h1 | h1
  · have := has w' h1
    rw [h2, hgv] at this
    simp at this
  · rcases List.mem_cons.1 h1 with rfl | h1
    · exact .inl rfl
    · have hs := ordw_sorted (f := f) (s := s) hL
      rw [e] at hs
      exact .inr ((List.pairwise_cons.1 (List.pairwise_append.1 hs).2.1).1 w' h1)
theorem first_none (hL : L.Pairwise (· < ·)) (hlen : (ord f s L).length ≤ 200) {G : α → Bool} (h : firstOf f s L G = none) : ∀ v : List Int, (∀ x ∈ v, x ∈ L) → G (nodeOf f s v) = false := by
  intro v hv
  obtain ⟨w', h1, h2, _⟩ := ordw_cover hL hlen _ v rfl hv
  have := List.find?_eq_none.1 h w' h1
  rw [h2] at this
  simpa using this
theorem ordw_take (hL : L.Pairwise (· < ·)) : ∀ (n : Nat) {v : List Int}, v ∈ ordw f s L → v.length - n ≤ v.length → v.take (v.length - n) ∈ ordw f s L := by
  intro n
  induction n with
  | zero => intro v hv _; rw [Nat.sub_zero, List.take_length]; exact hv
  | succ n ih =>
    intro v hv _
    have h := ih hv (by omega)
    rcases Nat.lt_or_ge n v.length with hlt | hge
    · have e : v.take (v.length - n) = v.take (v.length - (n + 1)) ++ [v[v.length - (n + 1)]] := by
        have h9 : v.length - n = (v.length - (n + 1)) + 1 := by omega
        rw [h9, List.take_succ_eq_append_getElem (by omega)]
      rw [e] at h
      exact ordw_parent hL h
    · rw [show v.length - (n + 1) = v.length - n by omega]; exact h
theorem ordw_pre (hL : L.Pairwise (· < ·)) {v : List Int} (hv : v ∈ ordw f s L) (k : Nat) : v.take k ∈ ordw f s L := by
  rcases Nat.lt_or_ge k v.length with h | h
  · have := ordw_take hL (v.length - k) hv (by omega)
    rwa [show v.length - (v.length - k) = k by omega] at this
  · rw [List.take_of_length_le h]; exact hv
theorem ordw_short (hL : L.Pairwise (· < ·)) {v : List Int} (hv : v ∈ ordw f s L) : v.length + 1 ≤ (ord f s L).length := by
  rw [← ordw_length]
  have h := nodup_len (xs := (List.range (v.length + 1)).map fun k => v.take k) (U := ordw f s L) (by
    refine List.pairwise_map.2 (List.Pairwise.imp_of_mem ?_ List.pairwise_lt_range)
    intro a b ha hb hab e
    have h1 := congrArg List.length e
    rw [List.length_take, List.length_take] at h1
    have := List.mem_range.1 hb
    omega) (fun q hq => by
    obtain ⟨k, _, rfl⟩ := List.mem_map.1 hq
    exact ordw_pre hL hv k)
  simpa using h
end
theorem letters_sorted (b : Int) : (letters b).Pairwise (· < ·) := by
  unfold letters lettersTo
  refine List.Pairwise.filter _ ?_
  refine List.pairwise_map.2 (List.Pairwise.imp ?_ List.pairwise_lt_range)
  intro x y h
  omega
end Go.Proofs.YtnckpafknojdhaaDoor
set_option linter.unusedSimpArgs false
set_option linter.unusedVariables false
namespace Go.Proofs.YtnckpafknojdhaaDoor
open Go.RowKit
def stepV (r : Int × Int × Value) : List Value := [.int .i64 r.1, .int .i64 r.2.1, r.2.2]
def rows3 (rs : List (Int × Int × Value)) : List (List Value) := rs.map stepV
section
variable {w w' : World} {B : Nat} {e : TypeId} {v : Value} {rs : List (Int × Int × Value)}
end
def Link (ws : List (List Int)) (p l : Int) (v : List Int) : Prop := (v = [] ∧ p = -1) ∨ ∃ u, v = u ++ [l] ∧ 0 ≤ p ∧ ws[p.toNat]? = some u
structure Trail (w : World) (I : TypeId) (f : Int → Int → Int) (s : Int) (ws : List (List Int)) (rs : List (Int × Int × Value)) : Prop where
  len : rs.length = ws.length
  row : ∀ (j : Nat) (v : List Int), ws[j]? = some v → ∃ p l fv, rs[j]? = some (p, l, fv) ∧ Link ws p l v ∧ Ints w I fv [nodeOf f s v]
  lets : ∀ v ∈ ws, ∀ x ∈ v, 0 ≤ x ∧ x < 6
section
variable {w w' : World} {I : TypeId} {f : Int → Int → Int} {s : Int} {ws : List (List Int)} {rs : List (Int × Int × Value)}
theorem Trail.map (h : Trail w I f s ws rs) (k : ∀ v xs, Ints w I v xs → Ints w' I v xs) : Trail w' I f s ws rs :=
  ⟨h.len, fun j v hv => by
    obtain ⟨p, l, fv, h1, h2, h3⟩ := h.row j v hv
    exact ⟨p, l, fv, h1, h2, k _ _ h3⟩, h.lets⟩
theorem Trail.ext (h : Trail w I f s ws rs) (x : Ext w w') : Trail w' I f s ws rs := h.map fun _ _ h => h.ext x
theorem Trail.owned {B : Nat} {t : TypeId} {u : Value} {us : List Value} (h : Trail w I f s ws rs) (ho : Own w B t u us) (hg : w.grownBy w' u.ownBlock) (hne : t ≠ I) : Trail w' I f s ws rs := h.map fun _ _ h => Row.owned h ho hg hne
theorem Trail.stored {g : Nat} {t : TypeId} {cs : List Value} (h : Trail w I f s ws rs) (hg : w.grownBy w' (some g)) (hb : Blk w g t cs) (hne : t ≠ I) : Trail w' I f s ws rs := h.map fun _ _ h => Row.stored h hg hb hne
theorem Trail.nil (w : World) (I : TypeId) (f : Int → Int → Int) (s : Int) : Trail w I f s [] [] := ⟨rfl, by simp, by simp⟩
end
def seenOf (n : Nat) (ns : List Int) : List Bool := (List.range n).map fun (i : Nat) => decide ((i : Int) ∈ ns)
def NClo (P : Program) (w0 : World) (I : TypeId) (fv : Value) (D : Int → Prop) (f : Int → Int → Int) : Prop :=
  ∃ k fn, ∃ cs : List Value, fv = .func (.func k) #[] cs.toArray ∧ Fn P k fn ∧ ∀ w q x, Ext w0 w → D q → 0 ≤ x ∧ x < 6 → Ret P k ([Value.int .i64 q, Value.int .i64 x, Value.slice none 0 0] ++ cs).toArray w fun v w' => Own w' w.heap.size I v [Value.int .i64 (f q x)] ∧ Ext w w'
def GClo (P : Program) (w0 : World) (gv : Value) (D : Int → Prop) (G : Int → Bool) : Prop :=
  ∃ k fn, ∃ cs : List Value, gv = .func (.func k) #[] cs.toArray ∧ Fn P k fn ∧ ∀ w q, Ext w0 w → D q → Ret P k ([Value.int .i64 q] ++ cs).toArray w fun v w' => v = .bool (G q) ∧ Ext w w'
theorem NClo.up {P : Program} {w0 w1 : World} {I : TypeId} {fv : Value} {D : Int → Prop} {f : Int → Int → Int} (h : NClo P w0 I fv D f) (x : Ext w0 w1) : NClo P w1 I fv D f := by
  obtain ⟨k, fn, cs, h1, h2, h3⟩ := h
  exact ⟨k, fn, cs, h1, h2, fun w q y hw hq hy => h3 w q y (x.trans hw) hq hy⟩
theorem GClo.up {P : Program} {w0 w1 : World} {gv : Value} {D : Int → Prop} {G : Int → Bool} (h : GClo P w0 gv D G) (x : Ext w0 w1) : GClo P w1 gv D G := by
  obtain ⟨k, fn, cs, h1, h2, h3⟩ := h
  exact ⟨k, fn, cs, h1, h2, fun w q hw hq => h3 w q (x.trans hw) hq⟩
def BClo (P : Program) (w0 : World) (gv : Value) (g : Bool → Bool → Bool) : Prop :=
  ∃ k fn, ∃ cs : List Value, gv = .func (.func k) #[] cs.toArray ∧ Fn P k fn ∧ ∀ w x y, Ext w0 w → Ret P k ([Value.bool x, Value.bool y] ++ cs).toArray w fun v w' => v = .bool (g x y) ∧ Ext w w'
theorem BClo.up {P : Program} {w0 w1 : World} {gv : Value} {g : Bool → Bool → Bool} (h : BClo P w0 gv g) (x : Ext w0 w1) : BClo P w1 gv g := by
  obtain ⟨k, fn, cs, h1, h2, h3⟩ := h
  exact ⟨k, fn, cs, h1, h2, fun w a b hw => h3 w a b (x.trans hw)⟩
theorem BClo.one {P : Program} {w0 : World} {gv : Value} {g : Bool → Bool → Bool} (h : BClo P w0 gv g) : gv.oneCell' = true := by
  obtain ⟨k, fn, cs, h1, _⟩ := h
  rw [h1]; rfl
def SMem (wb w : World) (I Bo LB S LS GT : TypeId) (B bs bt bg : Nat) (gv : Value) (n : Nat) (f : Int → Int → Int) (s : Int) (ws : List (List Int)) : Prop :=
  ∃ sv tv rs, Blk w bs LB [sv] ∧ Own w B Bo sv ((seenOf n (ws.map (nodeOf f s))).map Value.bool) ∧ Blk w bt LS [tv] ∧ Wid w B S 3 tv (rows3 rs) ∧ Trail w I f s ws rs ∧ Blk w bg GT [gv] ∧ Ext wb w ∧ wb.heap.size ≤ B ∧ wb.heap.size ≤ bs ∧ wb.heap.size ≤ bt ∧ B ≤ w.heap.size
section
variable {wb w w' : World} {I Bo LB S LS GT : TypeId} {B bs bt bg n : Nat} {gv : Value} {f : Int → Int → Int} {s : Int} {ws : List (List Int)}
theorem SMem.ext (h : SMem wb w I Bo LB S LS GT B bs bt bg gv n f s ws) (x : Ext w w') : SMem wb w' I Bo LB S LS GT B bs bt bg gv n f s ws := by
  obtain ⟨sv, tv, rs, h1, h2, h3, h4, h5, h6, h7, h8, h9, h10, h11⟩ := h
  exact ⟨sv, tv, rs, h1.ext x, h2.ext x, h3.ext x, h4.ext x, h5.ext x, h6.ext x, h7.trans x, h8, h9, h10, Nat.le_trans h11 (Below.size x)⟩
theorem SMem.base (h : SMem wb w I Bo LB S LS GT B bs bt bg gv n f s ws) : Ext wb w := by
  obtain ⟨sv, tv, rs, h1, h2, h3, h4, h5, h6, h7, h8⟩ := h
  exact h7
end
theorem Wid.one {w : World} {B n : Nat} {e : TypeId} {v : Value} {rows : List (List Value)} (h : Wid w B e n v rows) : v.oneCell' = true := by
  rcases h.cases with ⟨rfl, _⟩ | ⟨g, cap, cs, rfl, _⟩ <;> rfl
section
variable {f : Int → Int → Int} {s : Int} {L : List Int} {G : Int → Bool}
theorem bfsw_range {n : Nat} {D : Int → Prop} (h0 : D s) (hD : ∀ q, D q → ∀ x ∈ L, D (f q x)) (hn : ∀ q, D q → 0 ≤ q ∧ q < n) (i : Nat) : (bfsw f s L i).length ≤ n := by
  rw [bfsw_length]
  have h1 := nodup_len (U := (List.range n).map fun (i : Nat) => (i : Int)) (bfs_nodup (f := f) (s := s) (L := L) i) (fun q hq => inU.2 (hn q (bfs_all h0 hD i q hq)))
  simpa using h1
end
section maps
variable {α β : Type} [DecidableEq α] [DecidableEq β] {f : α → Int → α} {s : α} {L : List Int} {f' : β → Int → β} {g : α → β} {P : α → Prop}
end maps
def firstA (a : A) (s : Int) (G : Int → Bool) : Option (List Int) := firstOf (goA a) s (letters a.al) G
def fAt (a : A) (q : Int) : Option (List Int) := if validA a = true then firstA a 0 (fun x => decide (x = q)) else none
end Go.Proofs.YtnckpafknojdhaaDoor
set_option linter.unusedSimpArgs false
set_option linter.unusedVariables false
namespace Go.Proofs.YtnckpafknojdhaaDoor
open Go.RowKit
section
variable {w w' : World} {B n : Nat} {e : TypeId} {v : Value} {rows : List (List Value)}
theorem Wid.rowAt (h : Wid w B e n v rows) {i : Int} (h0 : 0 ≤ i) {r : List Value} (hr : rows[i.toNat]? = some r) : ∃ g c, v = .slice (some ⟨g, 0, none⟩) rows.length c ∧ i.toNat < rows.length := by
  have hi := (List.getElem?_eq_some_iff.1 hr).1
  obtain ⟨g, c, hv, _⟩ := h.at h0 (by omega)
  exact ⟨g, c, hv, hi⟩
end
def NetA (w : World) (AU SI I Bo : TypeId) (av : Value) (aas : List A) : Prop :=
  ∃ B rows, Wid w B AU 3 av rows ∧ rows.length = aas.length ∧ ∀ (j : Nat) (a : A), aas[j]? = some a → ∃ nx ac, rows[j]? = some [.int .i64 a.al, nx, ac] ∧ Rows w SI I nx a.next ∧ Bools w Bo ac a.acc
theorem NetA.ext {w w' : World} {AU SI I Bo : TypeId} {av : Value} {aas : List A} (h : NetA w AU SI I Bo av aas) (x : Ext w w') : NetA w' AU SI I Bo av aas := by
  obtain ⟨B, rows, h1, h2, h3⟩ := h
  refine ⟨B, rows, h1.ext x, h2, fun j a ha => ?_⟩
  obtain ⟨nx, ac, g1, g2, g3⟩ := h3 j a ha
  exact ⟨nx, ac, g1, g2.ext x, g3.ext x⟩
theorem NetA.one {w : World} {AU SI I Bo : TypeId} {av : Value} {aas : List A} (h : NetA w AU SI I Bo av aas) : av.oneCell' = true := by
  obtain ⟨B, rows, h1, _⟩ := h
  exact h1.one
def Cell1 (w : World) (p : Addr) (u : Value) : Prop := w.cell? p = some u
theorem Cell1.ext {w w' : World} {p : Addr} {u : Value} (h : Cell1 w p u) (x : Ext w w') : Cell1 w' p u := by
  have hb := World.block_lt_of_cell? w p h
  unfold Cell1 at *
  rw [← h]
  unfold World.cell?
  rw [x.block p.block hb]
theorem at_getD {α : Type} {l : List α} {k : Nat} {d : α} (h : k < l.length) : l[k]? = some (l.getD k d) := by
  rw [List.getD_eq_getElem?_getD, List.getElem?_eq_getElem h]; rfl
def Read3 (w : World) (e3 e2 e1 : TypeId) (v : Value) (xsss : List (List (List Int))) : Prop := ∃ rs, Row w e3 v rs ∧ rs.length = xsss.length ∧ ∀ (i : Nat) (r : Value), rs[i]? = some r → Rows w e2 e1 r (xsss.getD i [])
def RowU (w : World) (U : Nat) (e : TypeId) (v : Value) (vs : List Value) : Prop := Row w e v vs ∧ ∀ k, v.ownBlock = some k → k < U
def RowsU (w : World) (U : Nat) (e e' : TypeId) (v : Value) (xss : List (List Int)) : Prop := ∃ rs, RowU w U e v rs ∧ rs.length = xss.length ∧ ∀ (i : Nat) (r : Value), rs[i]? = some r → RowU w U e' r ((xss.getD i []).map (Value.int .i64))
def Own3 (w : World) (B U : Nat) (e3 e2 e1 : TypeId) (v : Value) (xsss : List (List (List Int))) : Prop := ∃ rs, Own w B e3 v rs ∧ rs.length = xsss.length ∧ ∀ (i : Nat) (r : Value), rs[i]? = some r → RowsU w U e2 e1 r (xsss.getD i [])
section
variable {w w' : World} {B U : Nat} {e e' e1 e2 e3 : TypeId} {v : Value} {vs : List Value} {xss : List (List Int)} {xsss : List (List (List Int))}
theorem RowU.ext (h : RowU w U e v vs) (x : Ext w w') : RowU w' U e v vs := ⟨h.1.ext x, h.2⟩
theorem RowU.apart {g : Nat} (h : RowU w U e v vs) (hg : w.grownBy w' (some g)) (hU : U ≤ g) : RowU w' U e v vs := by
  refine ⟨?_, h.2⟩
  rcases h.1 with h1 | ⟨b, o, c, cur, fr, hv, hb, hx⟩
  · exact .inl h1
  · refine .inr ⟨b, o, c, cur, fr, hv, ?_, hx⟩
    have hlt := h.2 b (by rw [hv]; rfl)
    rw [hg.block b (lt_of_block hb) (fun h => by injection h with h; omega)]
    exact hb
theorem RowU.other {B' : Nat} {t : TypeId} {u : Value} {us : List Value} (h : RowU w U e v vs) (ho : Own w B' t u us) (hg : w.grownBy w' u.ownBlock) (hne : t ≠ e) : RowU w' U e v vs := ⟨h.1.owned ho hg hne, h.2⟩
theorem RowsU.ext (h : RowsU w U e e' v xss) (x : Ext w w') : RowsU w' U e e' v xss := by
  obtain ⟨rs, h1, h2, h3⟩ := h
  exact ⟨rs, h1.ext x, h2, fun i r hr => (h3 i r hr).ext x⟩
theorem RowsU.apart {g : Nat} (h : RowsU w U e e' v xss) (hg : w.grownBy w' (some g)) (hU : U ≤ g) : RowsU w' U e e' v xss := by
  obtain ⟨rs, h1, h2, h3⟩ := h
  exact ⟨rs, h1.apart hg hU, h2, fun i r hr => (h3 i r hr).apart hg hU⟩
theorem RowsU.other {B' : Nat} {t : TypeId} {u : Value} {us : List Value} (h : RowsU w U e e' v xss) (ho : Own w B' t u us) (hg : w.grownBy w' u.ownBlock) (hne : t ≠ e) (hne' : t ≠ e') : RowsU w' U e e' v xss := by
  obtain ⟨rs, h1, h2, h3⟩ := h
  exact ⟨rs, h1.other ho hg hne, h2, fun i r hr => (h3 i r hr).other ho hg hne'⟩
theorem RowsU.up {U' : Nat} (h : RowsU w U e e' v xss) (hU : U ≤ U') : RowsU w U' e e' v xss := by
  obtain ⟨rs, h1, h2, h3⟩ := h
  exact ⟨rs, ⟨h1.1, fun k hk => Nat.lt_of_lt_of_le (h1.2 k hk) hU⟩, h2, fun i r hr => ⟨(h3 i r hr).1, fun k hk => Nat.lt_of_lt_of_le ((h3 i r hr).2 k hk) hU⟩⟩
theorem RowsU.rows (h : RowsU w U e e' v xss) : Rows w e e' v xss := by
  obtain ⟨rs, h1, h2, h3⟩ := h
  exact ⟨rs, h1.1, h2, fun i r hr => (h3 i r hr).1⟩
theorem RowsU.of (h : OwnRows w B w.heap.size e e' v xss) : RowsU w w.heap.size e e' v xss := by
  obtain ⟨rs, h1, h2, h3, h4⟩ := h
  exact ⟨rs, ⟨h1.row, fun k hk => (h1.lt k hk).2⟩, h2, fun i r hr => ⟨(h3 i r hr).1.row, (h3 i r hr).2⟩⟩
theorem Own3.nil (w : World) (B U : Nat) (e3 e2 e1 : TypeId) {v : Value} (h : Own w B e3 v []) : Own3 w B U e3 e2 e1 v [] := ⟨[], h, rfl, by simp⟩
theorem Own3.now (h : Own3 w B U e3 e2 e1 v xsss) (hU : U ≤ w.heap.size := by omega) : Own3 w B w.heap.size e3 e2 e1 v xsss := by
  obtain ⟨rs, h1, h2, h3⟩ := h
  exact ⟨rs, h1, h2, fun i r hr => (h3 i r hr).up hU⟩
theorem Own3.ext (h : Own3 w B U e3 e2 e1 v xsss) (x : Ext w w') : Own3 w' B U e3 e2 e1 v xsss := by
  obtain ⟨rs, h1, h2, h3⟩ := h
  exact ⟨rs, h1.ext x, h2, fun i r hr => (h3 i r hr).ext x⟩
theorem Own3.apart {B' : Nat} {t : TypeId} {u : Value} {us : List Value} (h : Own3 w B U e3 e2 e1 v xsss) (ho : Own w B' t u us) (hg : w.grownBy w' u.ownBlock) (hB : U ≤ B') (hne : t ≠ e3) : Own3 w' B U e3 e2 e1 v xsss := by
  obtain ⟨rs, h1, h2, h3⟩ := h
  refine ⟨rs, h1.owned ho hg hne, h2, fun i r hr => ?_⟩
  rcases ho.cases with ⟨rfl, rfl⟩ | ⟨g, cap, cs, rfl, hg', hb, _⟩
  · exact (h3 i r hr).ext (Ext.of_grown hg)
  · exact (h3 i r hr).apart (g := g) hg (Nat.le_trans hB hg')
theorem Own3.open (h : Own3 w B U e3 e2 e1 v xsss) (hne : e3 ≠ e2) (hne' : e3 ≠ e1) : ∃ rs, Own w B e3 v rs ∧ rs.length = xsss.length ∧
    ∀ r xss w1 v' w', Ext w w1 → RowsU w1 w1.heap.size e2 e1 r xss → U ≤ w1.heap.size → Own w' B e3 v' (rs ++ [r]) → w1.grownBy w' v.ownBlock → Own3 w' B w'.heap.size e3 e2 e1 v' (xsss ++ [xss]) := by
  obtain ⟨rs, h1, h2, h3⟩ := h
  refine ⟨rs, h1, h2, fun r xss w1 v' w' x hr hU hv hg => ?_⟩
  have hv1 := h1.ext x
  have hsz := World.grownBy.size hg
  refine ⟨rs ++ [r], hv, by simp [h2], fun i q hq => ?_⟩
  rcases Nat.lt_or_ge i rs.length with hi | hi
  · rw [List.getElem?_append_left hi] at hq
    have e4 : (xsss ++ [xss]).getD i [] = xsss.getD i [] := by
      rw [List.getD_eq_getElem?_getD, List.getElem?_append_left (by omega), ← List.getD_eq_getElem?_getD]
    rw [e4]
    exact (((h3 i q hq).ext x).other hv1 hg hne hne').up (by omega)
  · have hi2 := (List.getElem?_eq_some_iff.1 hq).1
    rw [List.length_append, List.length_singleton] at hi2
    obtain rfl : i = rs.length := by omega
    rw [List.getElem?_append_right (Nat.le_refl _), Nat.sub_self] at hq
    have hq' : r = q := by simpa using hq
    subst hq'
    have e4 : (xsss ++ [xss]).getD rs.length [] = xss := by
      rw [h2, List.getD_eq_getElem?_getD, List.getElem?_append_right (Nat.le_refl _), Nat.sub_self]; rfl
    rw [e4]
    exact (hr.other hv1 hg hne hne').up hsz
theorem Read3.ext (h : Read3 w e3 e2 e1 v xsss) (x : Ext w w') : Read3 w' e3 e2 e1 v xsss := by
  obtain ⟨rs, h1, h2, h3⟩ := h
  exact ⟨rs, h1.ext x, h2, fun i r hr => (h3 i r hr).ext x⟩
theorem Read3.at (h : Read3 w e3 e2 e1 v xsss) {i : Int} (hi : 0 ≤ i) (hlt : i.toNat < xsss.length) : ∃ p r, At w e3 v i p r ∧ Rows w e2 e1 r (xsss.getD i.toNat []) := by
  obtain ⟨rs, h1, h2, h3⟩ := h
  have hl : i.toNat < rs.length := by omega
  obtain ⟨p, hp⟩ := h1.at hi hl
  exact ⟨p, rs[i.toNat], hp, h3 _ _ (List.getElem?_eq_getElem hl)⟩
end
section
variable {f : Int → Int → Int} {L : List Int} {G : Int → Bool} {n : Nat}
end
section
variable {w : World} {B : Nat} {AU SI I Bo : TypeId} {v nx ac nx' ac' : Value} {a b : A}
end
end Go.Proofs.YtnckpafknojdhaaDoor
set_option linter.unusedSimpArgs false
set_option linter.unusedVariables false
namespace Go.Proofs.YtnckpafknojdhaaDoor
def IsFirst (L : List Int) (G : List Int → Bool) : Option (List Int) → Prop
  | some w => (∀ x ∈ w, x ∈ L) ∧ G w = true ∧ ∀ v : List Int, (∀ x ∈ v, x ∈ L) → G v = true → sle w v
  | none => ∀ v : List Int, (∀ x ∈ v, x ∈ L) → G v = false
theorem IsFirst.isSome {L : List Int} {G : List Int → Bool} {o : Option (List Int)} (h : IsFirst L G o) : o.isSome = true ↔ ∃ v : List Int, (∀ x ∈ v, x ∈ L) ∧ G v = true := by
  cases o with
  | none => exact ⟨fun h' => (by cases h'), fun ⟨v, hv, hg⟩ => by rw [h v hv] at hg; cases hg⟩
  | some w => exact ⟨fun _ => ⟨w, h.1, h.2.1⟩, fun _ => rfl⟩
theorem IsFirst.isNone {L : List Int} {G : List Int → Bool} {o : Option (List Int)} (h : IsFirst L G o) : o.isSome = false ↔ ∀ v : List Int, (∀ x ∈ v, x ∈ L) → G v = false := by
  cases o with
  | none => exact ⟨fun _ => h, fun _ => rfl⟩
  | some w => exact ⟨fun h' => (by cases h'), fun h' => by have := h' w h.1; rw [h.2.1] at this; cases this⟩
theorem over_six {al : Int} {w : List Int} (h : ∀ x ∈ w, x ∈ letters al) : ∀ x ∈ w, 0 ≤ x ∧ x < 6 := fun x hx => ⟨(mem_letters (h x hx)).1, (mem_letters (h x hx)).2.1⟩
section
variable {a b : A}
theorem ord1_le (hv : validA a = true) {s : Int} (hs : 0 ≤ s ∧ s < a.next.length) : (ord (goA a) s (letters a.al)).length ≤ a.next.length := by
  have h := bfsw_range (f := goA a) (s := s) (L := letters a.al) (n := a.next.length) (D := fun q => 0 ≤ q ∧ q < (a.next.length : Int)) hs (fun q hq x hx => goA_in hv hq ⟨(mem_letters hx).1, (mem_letters hx).2.1⟩) (fun q hq => hq) (many 0)
  rw [bfsw_length] at h
  exact h
theorem isFirst_A (hv : validA a = true) {s : Int} (hs : 0 ≤ s ∧ s < a.next.length) (G : Int → Bool) : IsFirst (letters a.al) (fun w => G (run a s w)) (firstA a s G) := by
  have hl : (ord (goA a) s (letters a.al)).length ≤ 200 := by have := ord1_le hv hs; have := (validA_spec.1 hv).2.1; omega
  unfold firstA
  cases h : firstOf (goA a) s (letters a.al) G with
  | none => exact first_none (letters_sorted _) hl h
  | some w =>
    have := first_some (letters_sorted _) hl h
    exact ⟨ordw_over (letters_sorted _) this.1, this.2.1, this.2.2⟩
theorem firstA_short (hv : validA a = true) {s : Int} (hs : 0 ≤ s ∧ s < a.next.length) {G : Int → Bool} {w : List Int} (h : firstA a s G = some w) : w.length + 1 ≤ a.next.length := by
  have hl : (ord (goA a) s (letters a.al)).length ≤ 200 := by have := ord1_le hv hs; have := (validA_spec.1 hv).2.1; omega
  have h1 := first_some (letters_sorted _) hl h
  exact Nat.le_trans (ordw_short (letters_sorted _) h1.1) (ord1_le hv hs)
theorem run_in2 (hv : validA a = true) {w : List Int} (hw : ∀ x ∈ w, 0 ≤ x ∧ x < 6) : 0 ≤ run a 0 w ∧ run a 0 w < a.next.length := run_stay hv hw (zero_in hv)
end
end Go.Proofs.YtnckpafknojdhaaDoor
set_option linter.unusedSimpArgs false
set_option linter.unusedVariables false
namespace Go.Proofs.YtnckpafknojdhaaDoor
def before (v w : ByteArray) : Bool := within v 63 && (within w 63 && (decide (v.size < w.size) || (decide (v.size = w.size) && Go.Op.bytesLess v.data.toList w.data.toList)))
section
variable {a b : A}
theorem at_first (hv : validA a = true) (q : Int) : IsFirst (letters a.al) (fun w => decide (run a 0 w = q)) (fAt a q) := by
  rw [fAt, if_pos hv]
  exact isFirst_A hv (zero_in hv) (fun x => decide (x = q))
theorem at_word {q : Int} {w : List Int} (hv : validA a = true) (h : fAt a q = some w) : (∀ x ∈ w, x ∈ letters a.al) ∧ run a 0 w = q ∧ w.length + 1 ≤ a.next.length := by
  have h1 := at_first hv q
  rw [h] at h1
  have h2 := h
  rw [fAt, if_pos hv] at h2
  exact ⟨h1.1, of_decide_eq_true h1.2.1, firstA_short hv (zero_in hv) h2⟩
end
section
open Classical
variable {α : Type} {f : α → Int → α} {L : List Int} {G : α → Bool} {U : List α}
def Alike (f : α → Int → α) (L : List Int) (G : α → Bool) (k : Nat) (x y : α) : Prop := ∀ w : List Int, w.length < k → (∀ l ∈ w, l ∈ L) → G (nodeOf f x w) = G (nodeOf f y w)
theorem Alike.refl (k : Nat) (x : α) : Alike f L G k x x := fun _ _ _ => rfl
theorem Alike.symm {k : Nat} {x y : α} (h : Alike f L G k x y) : Alike f L G k y x := fun w h1 h2 => (h w h1 h2).symm
theorem Alike.trans {k : Nat} {x y z : α} (h : Alike f L G k x y) (h' : Alike f L G k y z) : Alike f L G k x z := fun w h1 h2 => (h w h1 h2).trans (h' w h1 h2)
end
section
variable {a b : A}
end
end Go.Proofs.YtnckpafknojdhaaDoor
set_option linter.unusedSimpArgs false
set_option linter.unusedVariables false
namespace Go.Proofs.YtnckpafknojdhaaDoor
def accW (a : A) (w : List Int) : Bool := accA a (run a 0 w)
section
variable {a b : A}
theorem row_map (hv : validA a = true) {q : Int} (hq : 0 ≤ q ∧ q < a.next.length) : a.next.getD q.toNat [] = (letters a.al).map (goA a q) := by
  rw [← extRow_same hv (q := q.toNat) (by omega)]
  unfold extRow
  rw [Int.toNat_of_nonneg hq.1]
theorem accW_num {α : Type} [DecidableEq α] {al : Int} {f : α → Int → α} {s : α} {acc : α → Bool} (hal : 0 ≤ al ∧ al ≤ 63) (h : (ord f s (letters al)).length ≤ 200) {w : List Int} (hw : ∀ x ∈ w, x ∈ letters al) : accW (num al f s acc) w = acc (nodeOf f s w) := by
  have h1 := run_num (acc := acc) hal h w (q := s) ord_mem0 hw
  rw [ord_zero' h] at h1
  unfold accW accA
  rw [show ((0 : Nat) : Int) = 0 from rfl] at h1
  rw [h1.1]
  exact acc_num h1.2
theorem ord200 (hv : validA a = true) : (ord (goA a) 0 (letters a.al)).length ≤ 200 := by have := trim_len hv; have := (validA_spec.1 hv).2.1; omega
theorem accW_trim (hv : validA a = true) {v : List Int} (hx : ∀ x ∈ v, x ∈ letters a.al) : accW (trim a) v = accW a v := accW_num (validA_spec.1 hv).1 (ord200 hv) hx
end
end Go.Proofs.YtnckpafknojdhaaDoor
set_option linter.unusedSimpArgs false
set_option linter.unusedVariables false
namespace Go.Proofs.YtnckpafknojdhaaDoor
section
variable {κ μ : Type} [DecidableEq κ] [DecidableEq μ] {xs : List κ}
def dd (xs : List κ) : List κ := addAll [] xs
def canon (xs : List κ) : List Int := xs.map fun x => (idxG (dd xs) x : Int)
theorem mem_dd {x : κ} : x ∈ dd xs ↔ x ∈ xs := by unfold dd; rw [mem_addAll]; simp
theorem dd_nodup : (dd xs).Nodup := nodup_addAll List.nodup_nil
theorem dd_snoc (xs : List κ) (x : κ) : dd (xs ++ [x]) = addNode (dd xs) x := addAll_snoc _ _ _
theorem dd_le (xs : List κ) : (dd xs).length ≤ xs.length := by have := addAll_le xs ([] : List κ); simpa [dd] using this
theorem dd_map {g : κ → μ} (hg : ∀ x ∈ xs, ∀ y ∈ xs, g x = g y → x = y) : dd (xs.map g) = (dd xs).map g := by
  have := addAll_map (P := (· ∈ xs)) (g := g) (fun a b ha hb => hg a ha b hb) (xs := xs) (ns := []) (by simp) (fun a h => h)
  exact this
theorem canon_map {g : κ → μ} (hg : ∀ x ∈ xs, ∀ y ∈ xs, g x = g y → x = y) : canon (xs.map g) = canon xs := by
  unfold canon
  rw [dd_map hg, List.map_map]
  refine List.map_congr_left fun x hx => ?_
  show (((dd xs).map g).idxOf (g x) : Int) = ((dd xs).idxOf x : Int)
  rw [idx_map (P := (· ∈ xs)) (fun a b ha hb => hg a ha b hb) (fun a ha => mem_dd.1 ha) hx]
theorem canon_length (xs : List κ) : (canon xs).length = xs.length := List.length_map _
theorem idx_inj {ns : List κ} {x y : κ} (hx : x ∈ ns) (hy : y ∈ ns) (e : ns.idxOf x = ns.idxOf y) : x = y := by
  have h1 := getElem_idx hx
  rw [e, getElem_idx hy] at h1
  exact (Option.some.inj h1).symm
theorem idxI_inj : ∀ x ∈ xs, ∀ y ∈ xs, (idxG (dd xs) x : Int) = (idxG (dd xs) y : Int) → x = y := fun x hx y hy e => idx_inj (mem_dd.2 hx) (mem_dd.2 hy) (by unfold idxG at e; omega)
theorem canon_canon : canon (canon xs) = canon xs := canon_map idxI_inj
theorem dd_canon_length : (dd (canon xs)).length = (dd xs).length := by unfold canon; rw [dd_map idxI_inj, List.length_map]
theorem idx_all {ns : List κ} (h : ns.Nodup) : ns.map (fun x => (ns.idxOf x : Int)) = (List.range ns.length).map fun (i : Nat) => (i : Int) := by
  apply List.ext_getElem?
  intro i
  rw [List.getElem?_map, List.getElem?_map]
  rcases Nat.lt_or_ge i ns.length with hi | hi
  · have h1 := List.getElem?_eq_getElem hi
    rw [h1, List.getElem?_range hi]
    simp only [Option.map_some]
    rw [idx_getElem h h1]
  · rw [List.getElem?_eq_none hi, List.getElem?_eq_none (by simpa using hi)]
    rfl
theorem dd_canon : dd (canon xs) = (List.range (dd xs).length).map fun (i : Nat) => (i : Int) := by
  unfold canon
  rw [dd_map idxI_inj]
  exact idx_all dd_nodup
theorem all_new : ∀ {xs ns : List κ}, (addAll ns xs).length = ns.length + xs.length → xs.Nodup ∧ ∀ x ∈ xs, x ∉ ns
  | [], _, _ => ⟨List.nodup_nil, by simp⟩
  | x :: xs, ns, h => by
    rw [addAll_cons, List.length_cons] at h
    by_cases hx : x ∈ ns
    · rw [addNode_T hx] at h
      have := addAll_le xs ns
      omega
    · rw [addNode_F hx] at h
      have h2 := all_new (xs := xs) (ns := ns ++ [x]) (by rw [h, List.length_append]; simp; omega)
      refine ⟨List.nodup_cons.2 ⟨fun hc => h2.2 x hc (by simp), h2.1⟩, fun y hy => ?_⟩
      rcases List.mem_cons.1 hy with rfl | hy
      · exact hx
      · exact fun hc => h2.2 y hy (by simp [hc])
theorem dd_map_le (g : κ → μ) : (dd (xs.map g)).length ≤ (dd xs).length := by
  have h : ∀ y ∈ dd (xs.map g), y ∈ (dd xs).map g := fun y hy => by
    obtain ⟨x, hx, rfl⟩ := List.mem_map.1 (mem_dd.1 hy)
    exact List.mem_map.2 ⟨x, mem_dd.2 hx, rfl⟩
  have := nodup_len dd_nodup h
  rwa [List.length_map] at this
omit [DecidableEq κ] [DecidableEq μ] in
theorem inj_of_nodup {g : κ → μ} : ∀ {l : List κ}, (l.map g).Nodup → ∀ x ∈ l, ∀ y ∈ l, g x = g y → x = y
  | [], _, x, hx, _, _, _ => by cases hx
  | z :: l, h, x, hx, y, hy, e => by
    rw [List.map_cons, List.nodup_cons] at h
    rcases List.mem_cons.1 hx with h1 | h1 <;> rcases List.mem_cons.1 hy with h2 | h2
    · rw [h1, h2]
    · exact absurd (List.mem_map.2 ⟨y, h2, by rw [← e, h1]⟩) h.1
    · exact absurd (List.mem_map.2 ⟨x, h1, by rw [e, h2]⟩) h.1
    · exact inj_of_nodup h.2 x h1 y h2 e
theorem dd_map_inj {g : κ → μ} (h : (dd (xs.map g)).length = (dd xs).length) : ∀ x ∈ xs, ∀ y ∈ xs, g x = g y → x = y := by
  have h1 : ∀ y ∈ dd (xs.map g), y ∈ addAll [] ((dd xs).map g) := fun y hy => by
    obtain ⟨x, hx, rfl⟩ := List.mem_map.1 (mem_dd.1 hy)
    exact mem_addAll.2 (.inr (List.mem_map.2 ⟨x, mem_dd.2 hx, rfl⟩))
  have h2 := nodup_len dd_nodup h1
  have h3 := addAll_le ((dd xs).map g) ([] : List μ)
  have h4 := (all_new (xs := (dd xs).map g) (ns := []) (by rw [List.length_map, List.length_nil] at *; omega)).1
  intro x hx y hy e
  exact inj_of_nodup h4 x (mem_dd.2 hx) y (mem_dd.2 hy) e
theorem dd_prefix (xs : List κ) (k : Nat) : dd (xs.take k) <+: dd xs := by
  conv => rhs; rw [← List.take_append_drop k xs]
  unfold dd addAll
  rw [List.foldl_append]
  exact addAll_prefix _ _
theorem dd_step {k : Nat} (hk : k < xs.length) : dd (xs.take (k + 1)) = addNode (dd (xs.take k)) xs[k] := by
  rw [List.take_succ_eq_append_getElem hk, dd_snoc]
theorem idx_old {k : Nat} {x : κ} (hx : x ∈ dd (xs.take k)) : idxG (dd xs) x = idxG (dd (xs.take k)) x := idx_prefix (dd_prefix xs k) hx
theorem idx_fresh {k : Nat} (hk : k < xs.length) (hx : xs[k] ∉ dd (xs.take k)) : idxG (dd xs) xs[k] = (dd (xs.take k)).length := by
  have h1 : xs[k] ∈ dd (xs.take (k + 1)) := by rw [dd_step hk]; exact mem_addNode.2 (.inr rfl)
  rw [idx_old h1, dd_step hk]
  exact idx_new hx
end
section
variable {a : A}
def keyQ (a : A) (cs : List Int) (q : Nat) : List Int := cs.getD q 0 :: (a.next.getD q []).map fun t => cs.getD t.toNat 0
def keys (a : A) (cs : List Int) : List (List Int) := (List.range a.next.length).map (keyQ a cs)
def refine' (a : A) (cs : List Int) : List Int := canon (keys a cs)
def cls0 (a : A) : List Int := a.acc.map fun b => if b then 1 else 0
def clsN (a : A) : Nat → List Int
  | 0 => cls0 a
  | r + 1 => refine' a (clsN a r)
def mN (a : A) : Nat → Nat
  | 0 => 0
  | r + 1 => (dd (keys a (clsN a r))).length
def classes (a : A) : List Int := clsN a (a.next.length + 1)
theorem keys_length (cs : List Int) : (keys a cs).length = a.next.length := by simp [keys]
theorem keys_at {cs : List Int} {q : Nat} (h : q < a.next.length) : (keys a cs)[q]? = some (keyQ a cs q) := by
  rw [keys, List.getElem?_map, List.getElem?_range h]; rfl
theorem clsN_length (hv : validA a = true) : ∀ r, (clsN a r).length = a.next.length
  | 0 => by rw [clsN, cls0, List.length_map]; exact (validA_spec.1 hv).2.2.1
  | r + 1 => by rw [clsN, refine', canon_length, keys_length]
theorem clsN_at {r q : Nat} (h : q < a.next.length) : (clsN a (r + 1)).getD q 0 = (idxG (dd (keys a (clsN a r))) (keyQ a (clsN a r) q) : Int) := by
  rw [clsN, refine', canon, List.getD_eq_getElem?_getD, List.getElem?_map, keys_at h]; rfl
theorem keyQ_mem {cs : List Int} {q : Nat} (h : q < a.next.length) : keyQ a cs q ∈ keys a cs := List.mem_map.2 ⟨q, List.mem_range.2 h, rfl⟩
theorem clsN_kernel {r i j : Nat} (hi : i < a.next.length) (hj : j < a.next.length) : (clsN a (r + 1)).getD i 0 = (clsN a (r + 1)).getD j 0 ↔ keyQ a (clsN a r) i = keyQ a (clsN a r) j := by
  rw [clsN_at hi, clsN_at hj]
  exact ⟨fun h => idxI_inj _ (keyQ_mem hi) _ (keyQ_mem hj) h, fun h => by rw [h]⟩
theorem heads (hv : validA a = true) (r : Nat) : (keys a (clsN a r)).map (fun k => k.headD 0) = clsN a r := by
  have hl := clsN_length hv r
  apply List.ext_getElem?
  intro i
  rw [List.getElem?_map]
  rcases Nat.lt_or_ge i a.next.length with h | h
  · rw [keys_at h]
    show some ((clsN a r).getD i 0) = _
    rw [List.getD_eq_getElem?_getD, List.getElem?_eq_getElem (by omega)]; rfl
  · rw [List.getElem?_eq_none (by rw [keys_length]; exact h), List.getElem?_eq_none (by omega)]; rfl
theorem mN_cls (r : Nat) : (dd (clsN a (r + 1))).length = mN a (r + 1) := dd_canon_length
theorem mN_mono (hv : validA a = true) : ∀ r, mN a r ≤ mN a (r + 1)
  | 0 => Nat.zero_le _
  | r + 1 => by
    have := dd_map_le (xs := keys a (clsN a (r + 1))) (fun k : List Int => k.headD 0)
    rw [heads hv, mN_cls] at this
    exact this
theorem mN_le (r : Nat) : mN a r ≤ a.next.length := by
  cases r with
  | zero => exact Nat.zero_le _
  | succ r => have := dd_le (keys a (clsN a r)); rw [keys_length] at this; exact this
theorem mN_one (hv : validA a = true) : 1 ≤ mN a 1 := List.length_pos_of_mem (mem_dd.2 (keyQ_mem (q := 0) (by have := (validA_spec.1 hv).2.1; omega)))
theorem stop_one (hv : validA a = true) {r : Nat} (h : mN a (r + 2) = mN a (r + 1)) : clsN a (r + 2) = clsN a (r + 1) := by
  have e : (dd ((keys a (clsN a (r + 1))).map fun k : List Int => k.headD 0)).length = (dd (keys a (clsN a (r + 1)))).length := by rw [heads hv, mN_cls]; exact h.symm
  have e2 := canon_map (dd_map_inj e)
  rw [heads hv] at e2
  show canon (keys a (clsN a (r + 1))) = _
  rw [← e2]
  exact canon_canon
theorem stop_all {s : Nat} (h : clsN a (s + 1) = clsN a s) : ∀ d, clsN a (s + d) = clsN a s
  | 0 => rfl
  | d + 1 => by
    show refine' a (clsN a (s + d)) = _
    rw [stop_all h d]
    exact h
theorem stops (hv : validA a = true) : ∃ s, 1 ≤ s ∧ s ≤ a.next.length ∧ clsN a (s + 1) = clsN a s := by
  refine Classical.byContradiction fun hc => ?_
  have h : ∀ r, r ≤ a.next.length → r + 1 ≤ mN a (r + 1) := fun r => by
    induction r with
    | zero => intro _; exact mN_one hv
    | succ r ih =>
      intro hr
      have h1 := ih (by omega)
      have h2 := mN_mono hv (r + 1)
      rcases Nat.lt_or_ge (mN a (r + 1)) (mN a (r + 2)) with h3 | h3
      · show r + 1 + 1 ≤ mN a (r + 2); omega
      · exact absurd ⟨r + 1, by omega, hr, stop_one hv (by show mN a (r + 2) = _; have : mN a (r + 1 + 1) = mN a (r + 2) := rfl; omega)⟩ hc
  have h1 := h a.next.length (Nat.le_refl _)
  have h2 := mN_le (a := a) (a.next.length + 1)
  omega
theorem classes_stop (hv : validA a = true) {s : Nat} (h : clsN a (s + 1) = clsN a s) : clsN a s = classes a := by
  obtain ⟨t, _, ht, hs⟩ := stops hv
  have h1 := stop_all h (a.next.length + 1)
  have h2 := stop_all hs (s + a.next.length + 1 - t)
  have h3 := stop_all hs (a.next.length + 1 - t)
  rw [show t + (s + a.next.length + 1 - t) = s + (a.next.length + 1) by omega] at h2
  rw [show t + (a.next.length + 1 - t) = a.next.length + 1 by omega] at h3
  unfold classes
  rw [h3, ← h2, h1]
theorem classes_found (hv : validA a = true) {r : Nat} (h : mN a (r + 1) = mN a r) : clsN a (r + 1) = classes a := by
  cases r with
  | zero => have h1 := mN_one hv; have h0 : mN a 1 = 0 := h; omega
  | succ r =>
    have h1 := stop_one hv h
    rw [h1]
    exact classes_stop hv h1
theorem classes_fix (hv : validA a = true) : refine' a (classes a) = classes a := by
  obtain ⟨t, _, ht, hs⟩ := stops hv
  have h2 := stop_all hs (a.next.length + 1 + 1 - t)
  have h3 := stop_all hs (a.next.length + 1 - t)
  rw [show t + (a.next.length + 1 + 1 - t) = a.next.length + 1 + 1 by omega] at h2
  rw [show t + (a.next.length + 1 - t) = a.next.length + 1 by omega] at h3
  show clsN a (a.next.length + 1 + 1) = clsN a (a.next.length + 1)
  rw [h2, h3]
theorem classes_length (hv : validA a = true) : (classes a).length = a.next.length := clsN_length hv _
theorem keyQ_eq (hv : validA a = true) {cs : List Int} {i j : Int} (hi : 0 ≤ i ∧ i < a.next.length) (hj : 0 ≤ j ∧ j < a.next.length) : keyQ a cs i.toNat = keyQ a cs j.toNat ↔ cs.getD i.toNat 0 = cs.getD j.toNat 0 ∧ ∀ l ∈ letters a.al, cs.getD (goA a i l).toNat 0 = cs.getD (goA a j l).toNat 0 := by
  unfold keyQ
  rw [row_map hv hi, row_map hv hj, List.map_map, List.map_map, List.cons.injEq, List.map_inj_left]
  rfl
theorem cls_alike (hv : validA a = true) : ∀ (r : Nat) (i j : Int), (0 ≤ i ∧ i < a.next.length) → (0 ≤ j ∧ j < a.next.length) → ((clsN a r).getD i.toNat 0 = (clsN a r).getD j.toNat 0 ↔ ∀ w : List Int, (∀ x ∈ w, x ∈ letters a.al) → w.length ≤ r → accA a (run a i w) = accA a (run a j w))
  | 0, i, j, hi, hj => by
    have hl := (validA_spec.1 hv).2.2.1
    have e : ∀ q : Int, (0 ≤ q ∧ q < a.next.length) → (clsN a 0).getD q.toNat 0 = if accA a q then 1 else 0 := fun q hq => by
      rw [clsN, cls0, List.getD_eq_getElem?_getD, List.getElem?_map, List.getElem?_eq_getElem (by omega)]
      unfold accA
      rw [List.getD_eq_getElem?_getD, List.getElem?_eq_getElem (by omega)]
      rfl
    rw [e i hi, e j hj]
    constructor
    · intro h w _ hw
      obtain rfl := List.eq_nil_of_length_eq_zero (Nat.le_zero.1 hw)
      show accA a i = accA a j
      revert h
      cases accA a i <;> cases accA a j <;> simp
    · intro h
      have h0 : accA a i = accA a j := h [] (by simp) (Nat.le_refl _)
      rw [h0]
  | r + 1, i, j, hi, hj => by
    rw [clsN_kernel (by omega) (by omega), keyQ_eq hv hi hj, cls_alike hv r i j hi hj]
    constructor
    · rintro ⟨h1, h2⟩ w hx hw
      cases w with
      | nil => exact h1 [] (by simp) (Nat.zero_le _)
      | cons l w =>
        have hl := hx l (List.mem_cons_self ..)
        have h6 : 0 ≤ l ∧ l < 6 := ⟨(mem_letters hl).1, (mem_letters hl).2.1⟩
        exact (cls_alike hv r _ _ (goA_in hv hi h6) (goA_in hv hj h6)).1 (h2 l hl) w (fun x h => hx x (List.mem_cons_of_mem _ h)) (by simpa using hw)
    · intro h
      refine ⟨fun w hx hw => h w hx (by omega), fun l hl => ?_⟩
      have h6 : 0 ≤ l ∧ l < 6 := ⟨(mem_letters hl).1, (mem_letters hl).2.1⟩
      refine (cls_alike hv r _ _ (goA_in hv hi h6) (goA_in hv hj h6)).2 fun w hx hw => h (l :: w) (fun x hx' => (List.mem_cons.1 hx').elim (fun e => e ▸ hl) (hx x)) (by simpa using hw)
theorem classes_later (hv : validA a = true) (d : Nat) : clsN a (a.next.length + 1 + d) = classes a := stop_all (classes_fix hv) d
theorem classes_iff (hv : validA a = true) {i j : Int} (hi : 0 ≤ i ∧ i < a.next.length) (hj : 0 ≤ j ∧ j < a.next.length) : (classes a).getD i.toNat 0 = (classes a).getD j.toNat 0 ↔ ∀ w : List Int, (∀ x ∈ w, x ∈ letters a.al) → accA a (run a i w) = accA a (run a j w) := by
  constructor
  · intro h w hx
    rw [← classes_later hv w.length] at h
    exact (cls_alike hv _ i j hi hj).1 h w hx (by omega)
  · intro h
    exact (cls_alike hv _ i j hi hj).2 fun w hx _ => h w hx
theorem classes_next (hv : validA a = true) {i j l : Int} (hi : 0 ≤ i ∧ i < a.next.length) (hj : 0 ≤ j ∧ j < a.next.length) (hl : l ∈ letters a.al) (h : (classes a).getD i.toNat 0 = (classes a).getD j.toNat 0) : (classes a).getD (goA a i l).toNat 0 = (classes a).getD (goA a j l).toNat 0 := by
  have h6 : 0 ≤ l ∧ l < 6 := ⟨(mem_letters hl).1, (mem_letters hl).2.1⟩
  rw [classes_iff hv (goA_in hv hi h6) (goA_in hv hj h6)]
  intro w hx
  exact (classes_iff hv hi hj).1 h (l :: w) fun x hx' => (List.mem_cons.1 hx').elim (fun e => e ▸ hl) (hx x)
theorem classes_acc (hv : validA a = true) {i j : Int} (hi : 0 ≤ i ∧ i < a.next.length) (hj : 0 ≤ j ∧ j < a.next.length) (h : (classes a).getD i.toNat 0 = (classes a).getD j.toNat 0) : accA a i = accA a j := (classes_iff hv hi hj).1 h [] (by simp)
def newTo (a : A) (k : Nat) : Nat := (dd ((keys a (classes a)).take k)).length
theorem classes_at (hv : validA a = true) {q : Nat} (h : q < a.next.length) : (classes a).getD q 0 = (idxG (dd (keys a (classes a))) (keyQ a (classes a) q) : Int) := by
  conv => lhs; rw [← classes_fix hv]
  rw [refine', canon, List.getD_eq_getElem?_getD, List.getElem?_map, keys_at h]; rfl
theorem classes_order (hv : validA a = true) {k : Nat} (h : k < a.next.length) : 0 ≤ (classes a).getD k 0 ∧ (classes a).getD k 0 ≤ newTo a k ∧ newTo a (k + 1) = if (classes a).getD k 0 = newTo a k then newTo a k + 1 else newTo a k := by
  have hk : k < (keys a (classes a)).length := by rw [keys_length]; exact h
  have e : (keys a (classes a))[k] = keyQ a (classes a) k := by have := keys_at (cs := classes a) h; rw [List.getElem?_eq_getElem hk] at this; exact Option.some.inj this
  have hs := dd_step hk
  have h1 := classes_at hv h
  unfold newTo
  rw [hs, h1]
  rw [e]
  by_cases hm : keyQ a (classes a) k ∈ dd ((keys a (classes a)).take k)
  · have h2 := idx_old hm
    have h3 := idxG_lt hm
    rw [addNode_T hm, h2, if_neg (by omega)]
    exact ⟨by omega, by omega, rfl⟩
  · have h2 := idx_fresh hk (by rw [e]; exact hm)
    rw [e] at h2
    rw [addNode_F hm, h2, if_pos rfl, List.length_append]
    exact ⟨by omega, by omega, rfl⟩
theorem newTo_zero (a : A) : newTo a 0 = 0 := rfl
theorem newTo_le (a : A) (k : Nat) : newTo a k ≤ k := by
  have := dd_le ((keys a (classes a)).take k)
  rw [List.length_take] at this
  unfold newTo
  omega
theorem dd_cls (hv : validA a = true) : (dd (classes a)).length = (dd (keys a (classes a))).length := by
  have h : (dd (refine' a (classes a))).length = (dd (keys a (classes a))).length := dd_canon_length
  rwa [classes_fix hv] at h
theorem classes_range (hv : validA a = true) {q : Int} (h : 0 ≤ q ∧ q < a.next.length) : 0 ≤ (classes a).getD q.toNat 0 ∧ (classes a).getD q.toNat 0 < ((dd (classes a)).length : Int) := by
  have e : (dd (classes a)).length = (dd (keys a (classes a))).length := dd_cls hv
  rw [classes_at hv (by omega), e]
  have := idxG_lt (mem_dd.2 (keyQ_mem (a := a) (cs := classes a) (q := q.toNat) (by omega)))
  omega
theorem dd_classes (hv : validA a = true) : dd (classes a) = (List.range (dd (classes a)).length).map fun (i : Nat) => (i : Int) := by
  have e : (dd (classes a)).length = (dd (keys a (classes a))).length := dd_cls hv
  rw [e]
  have h : dd (refine' a (classes a)) = _ := dd_canon
  rwa [classes_fix hv] at h
end
end Go.Proofs.YtnckpafknojdhaaDoor
