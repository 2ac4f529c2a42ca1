/-
  The texts of this proof, joined (wip/merge.py): the calculus of slots, plain mathematics, walks.
-/
import Derived.WalkKit
import Derived.OrdersHeld
import Derived.Laws.AppendOwnNone
import Derived.Lib.SliceRun
import Derived.Laws.IdiomStrings
import Derived.Laws.DeepStrings4
import Derived.Laws.BytesArg
import Derived.MapKept
import Derived.Test.YtdkdpmmfebdeaaaDoorRows
import Derived.Eval
import Derived.Lib.SmallJoins
import Derived.ChangeArms
set_option linter.unusedSimpArgs false
set_option linter.unusedVariables false
namespace Go.Proofs.YtdkdpmmfebdeaaaDoor
open Go.RowKit
abbrev Slots := List (Nat × Value)
def look : Slots → Nat → Option Value
  | [], _ => none
  | (k, v) :: r, t => cond (Nat.beq k t) (some v) (look r t)
structure St (N : Nat) (l : Slots) (a : Act) : Prop where
  size : a.tmps.size = N
  defers : a.defers = []
  slot : ∀ t v, look l t = some v → a.tmps.getD t undef = v
def ev (l : Slots) : Operand → Option Value
  | .tmp t => look l t
  | .const v => some v
  | .global g => some (.pointer (some ⟨g, 0, none⟩))
  | .func f => some (.func (.func f) #[] #[])
theorem St.ev {N : Nat} {l : Slots} {a : Act} {x : Operand} {v : Value} (h : St N l a) (hx : ev l x = some v) : a.eval x = v := by
  cases x with
  | tmp t => exact h.slot t v hx
  | const u => simpa [Act.eval, Go.Proofs.YtdkdpmmfebdeaaaDoor.ev] using hx
  | global g => simpa [Act.eval, Go.Proofs.YtdkdpmmfebdeaaaDoor.ev] using hx
  | func f => simpa [Act.eval, Go.Proofs.YtdkdpmmfebdeaaaDoor.ev] using hx
theorem St.put {N : Nat} {l : Slots} {a : Act} {d : Nat} {v : Value} (h : St N l a) (hd : Nat.blt d N = true) : St N ((d, v) :: l) (a.put (some d) v) := by
  have hd' : d < N := Nat.lt_of_lt_of_le (Nat.lt_succ_self d) (Nat.le_of_ble_eq_true hd)
  refine ⟨by simp [Act.put, h.size], h.defers, fun t u hu => ?_⟩
  simp only [look] at hu
  cases hb : Nat.beq d t with
  | true =>
    obtain rfl := Nat.eq_of_beq_eq_true hb
    rw [hb] at hu
    simp at hu
    subst hu
    have : d < a.tmps.size := by rw [h.size]; exact hd'
    simp [Act.put, this]
  | false =>
    have hne : d ≠ t := Nat.ne_of_beq_eq_false hb
    rw [hb] at hu
    have := h.slot t u hu
    simp only [Act.put]
    rw [← this]
    simp [Array.getD_eq_getD_getElem?, hne]
theorem St.bool {N : Nat} {l : Slots} {a : Act} {t : Nat} {b : Bool} (h : St N l a) (hv : look l t = some (.bool b)) : a.tmps[t]? = some (.bool b) := by
  have := h.slot _ _ hv
  rw [Array.getD_eq_getD_getElem?] at this
  cases hx : a.tmps[t]? with
  | none => rw [hx] at this; simp [undef] at this
  | some v => rw [hx] at this; simpa using this
def Sub (l l' : Slots) : Prop := ∀ t v, look l' t = some v → look l t = some v
theorem Sub.nil {l : Slots} : Sub l [] := fun t v hv => by simp [Go.Proofs.YtdkdpmmfebdeaaaDoor.look] at hv
theorem Sub.cons {l : Slots} {k : Nat} {v : Value} {r : Slots} (h : look l k = some v) (s : Sub l r) : Sub l ((k, v) :: r) := by
  intro t u hu
  simp only [Go.Proofs.YtdkdpmmfebdeaaaDoor.look] at hu
  cases hb : Nat.beq k t with
  | true =>
    obtain rfl := Nat.eq_of_beq_eq_true hb
    rw [hb] at hu
    simp at hu
    subst hu
    exact h
  | false => rw [hb] at hu; exact s t u hu
theorem St.sub {N : Nat} {l l' : Slots} {a : Act} (h : St N l a) (s : Sub l l') : St N l' a := ⟨h.size, h.defers, fun t v hv => h.slot t v (s t v hv)⟩
def Sq (P : Program) (N : Nat) (ops : Array Oper) (Q : Exit → Act → World → Prop) (rest : List Oper) (l : Slots) (w : World) : Prop :=
  ∀ a, St N l a → wpList P ops Q rest a w
def Cq (P : Program) (N : Nat) (c : Code) (Q : Exit → Act → World → Prop) (l : Slots) (w : World) : Prop :=
  ∀ a, St N l a → c.wp P Q a w
def Eq (N : Nat) (Q : Exit → Act → World → Prop) (e : Exit) (l : Slots) (w : World) : Prop :=
  ∀ a, St N l a → Q e a w
section code
variable {P : Program} {N : Nat} {Q : Exit → Act → World → Prop} {l : Slots} {w : World}
theorem Cq.seq {x y : Code} (h : Cq P N x (Exit.then (y.wp P Q) Q) l w) : Cq P N (.seq x y) Q l w := fun a ha => wp_seq (h a ha)
theorem Cq.skip (h : Eq N Q .normal l w) : Cq P N .skip Q l w := fun a ha => wp_skip (h a ha)
theorem Cq.ret (h : Eq N Q .ret l w) : Cq P N .ret Q l w := fun a ha => wp_ret (h a ha)
theorem Cq.exit {id : Nat} (h : Eq N Q (.exit id) l w) : Cq P N (.exit id) Q l w := fun a ha => wp_exit (h a ha)
theorem Cq.block {id : Nat} {c : Code} (h : Cq P N c (Exit.inBlock id Q) l w) : Cq P N (.block id c) Q l w := fun a ha => wp_block (h a ha)
theorem Cq.thn {c : Operand} {x y : Code} (hc : ev l c = some (.bool true)) (h : Cq P N x Q l w) : Cq P N (.cond c x y) Q l w := fun a ha => wp_cond_true (ha.ev hc) (h a ha)
theorem Cq.els {c : Operand} {x y : Code} (hc : ev l c = some (.bool false)) (h : Cq P N y Q l w) : Cq P N (.cond c x y) Q l w := fun a ha => wp_cond_false (ha.ev hc) (h a ha)
theorem Cq.region {id : Nat} {ops : List Oper} (h : Sq P N ops.toArray Q ops l w) : Cq P N (.region id ops.toArray false) Q l w := fun a ha => wp_region_lit (h a ha)
theorem Cq.sub {c : Code} {l' : Slots} (s : Sub l l') (h : Cq P N c Q l' w) : Cq P N c Q l w := fun a ha => h a (ha.sub s)
theorem Eq.sub {e : Exit} {l' : Slots} (s : Sub l l') (h : Eq N Q e l' w) : Eq N Q e l w := fun a ha => h a (ha.sub s)
theorem Cq.mono {c : Code} {Q' : Exit → Act → World → Prop} (h : Cq P N c Q' l w) (hq : ∀ e a w, Q' e a w → Q e a w) : Cq P N c Q l w := fun a ha => wp_mono (h a ha) hq
theorem Eq.next {y : Code} (h : Cq P N y Q l w) : Eq N (Exit.then (y.wp P Q) Q) .normal l w := fun a ha => h a ha
theorem Eq.past {K : Act → World → Prop} {id : Nat} (h : Eq N Q (.exit id) l w) : Eq N (Exit.then K Q) (.exit id) l w := fun a ha => h a ha
theorem Eq.pastRet {K : Act → World → Prop} (h : Eq N Q .ret l w) : Eq N (Exit.then K Q) .ret l w := fun a ha => h a ha
theorem Eq.hit {id : Nat} (h : Eq N Q .normal l w) : Eq N (Exit.inBlock id Q) (.exit id) l w := fun a ha => by simpa [Exit.inBlock] using h a ha
theorem Eq.end {id : Nat} (h : Eq N Q .normal l w) : Eq N (Exit.inBlock id Q) .normal l w := fun a ha => h a ha
theorem Eq.outRet {id : Nat} (h : Eq N Q .ret l w) : Eq N (Exit.inBlock id Q) .ret l w := fun a ha => h a ha
def Round (N : Nat) (I : Nat → World → Slots → Prop) (n : Nat) (a : Act) (w : World) : Prop := ∃ m l, I m w l ∧ St N l a ∧ m < n
theorem Cq.loop {c : Code} (I : Nat → World → Slots → Prop) (n0 : Nat) (l0 : Slots) (h0 : I n0 w l0) (s0 : Sub l l0)
    (h : ∀ n w l, I n w l → Cq P N c (Exit.then (Round N I n) Q) l w) : Cq P N (.loop c) Q l w := by
  intro a ha
  let J : Act → World → Nat → Prop := fun a w n => ∃ l, I n w l ∧ St N l a
  classical
  have least : ∀ (p : Nat → Prop), (∃ n, p n) → ∃ n, p n ∧ ∀ k, p k → n ≤ k := by
    intro p ⟨n, hn⟩
    induction n using Nat.strongRecOn with
    | _ n ih =>
      by_cases hx : ∃ k, k < n ∧ p k
      · obtain ⟨k, hk, hpk⟩ := hx
        exact ih k hk hpk
      · exact ⟨n, hn, fun k hk => Nat.le_of_not_lt fun hlt => hx ⟨k, hlt, hk⟩⟩
  let μ : Act → World → Nat := fun a w => if h : ∃ n, J a w n then Classical.choose (least _ h) else 0
  have hμ : ∀ a w, (∃ n, J a w n) → J a w (μ a w) ∧ ∀ n, J a w n → μ a w ≤ n := by
    intro a w hx
    have hs := Classical.choose_spec (least _ hx)
    have e : μ a w = Classical.choose (least _ hx) := dif_pos hx
    rw [e]
    exact hs
  refine wp_loop (fun a w => ∃ n, J a w n) μ ⟨n0, l0, h0, ha.sub s0⟩ fun a w hx => ?_
  obtain ⟨l, hI, hl⟩ := (hμ a w hx).1
  refine wp_mono (h _ w l hI a hl) fun e a' w' hq => ?_
  cases e <;> try exact hq
  obtain ⟨m, l', hj, hl', hlt⟩ := hq
  refine ⟨⟨m, l', hj, hl'⟩, ?_⟩
  have := (hμ a' w' ⟨m, l', hj, hl'⟩).2 _ ⟨l', hj, hl'⟩
  omega
theorem Eq.round {I : Nat → World → Slots → Prop} {n : Nat} (m : Nat) (l' : Slots) (hI : I m w l') (hm : m < n) (s : Sub l l') :
    Eq N (Exit.then (Round N I n) Q) .normal l w := fun _ ha => ⟨m, l', hI, ha.sub s, hm⟩
def Left (N : Nat) (R : Slots → World → Prop) : Exit → Act → World → Prop
  | .normal, a, w => ∃ l, R l w ∧ St N l a
  | _, _, _ => False
theorem Eq.left {R : Slots → World → Prop} (l' : Slots) (h : R l' w) (s : Sub l l') : Eq N (Left N R) .normal l w := fun _ ha => ⟨l', h, ha.sub s⟩
end code
section ops
variable {P : Program} {N : Nat} {ops : Array Oper} {Q : Exit → Act → World → Prop} {rest : List Oper} {l : Slots} {w : World}
theorem Sq.nil (h : Eq N Q .normal l w) : Sq P N ops Q [] l w := fun a ha => wpList_nil (h a ha)
def On (ops : Array Oper) (l : Slots) : Option (Nat × Bool) → Prop
  | none => True
  | some (j, b) => ∃ o d, ops[j]? = some o ∧ o.dst = some d ∧ look l d = some (.bool b)
theorem On.plain : On ops l none := trivial
theorem On.met {j : Nat} {b : Bool} {o : Oper} {d : Nat} (ho : ops[j]? = some o) (hd : o.dst = some d) (hv : look l d = some (.bool b)) : On ops l (some (j, b)) := ⟨o, d, ho, hd, hv⟩
theorem On.wanted {a : Act} {o : Oper} (h : On ops l o.guard) (ha : St N l a) : Region.wanted o (yielded ops a.tmps) = true := by
  revert h
  cases hg : o.guard with
  | none => intro _; simp [Region.wanted, hg]
  | some g =>
    obtain ⟨j, b⟩ := g
    rintro ⟨o', d, ho, hd, hv⟩
    simp [Region.wanted, hg, yielded, ho, hd, ha.bool hv]
theorem Sq.off {o : Oper} {j d d' : Nat} {b : Bool} {o' : Oper} (hg : o.guard = some (j, b)) (ho : ops[j]? = some o') (hd : o'.dst = some d) (hv : look l d = some (.bool (!b)))
    (hd' : o.dst = some d') (hN : Nat.blt d' N = true) (h : Sq P N ops Q rest ((d', undef) :: l) w) : Sq P N ops Q (o :: rest) l w := by
  intro a ha
  refine wpList_skip (by simp [Region.wanted, hg, yielded, ho, hd, ha.bool hv]) ?_
  rw [hd']
  exact h _ (ha.put hN)
theorem Sq.val {o : Oper} {d : Nat} {v : Value} {w' : World} (hg : On ops l o.guard) (hd : o.dst = some d) (hN : Nat.blt d N = true)
    (hrun : ∀ a, St N l a → (execOp a.eval o).run P w = .ok (.value v) w') (h : Sq P N ops Q rest ((d, v) :: l) w') : Sq P N ops Q (o :: rest) l w := by
  intro a ha
  refine wpList_step fun K hK => ?_
  rw [if_pos (hg.wanted ha)]
  unfold Oper.wp
  rw [hrun a ha, Oper.upon_value, hd]
  exact hK _ _ (h _ (ha.put hN))
def Still (P : Program) (N : Nat) (l : Slots) (o : Oper) (v : Value) (w : World) : Prop := ∀ a, St N l a → (execOp a.eval o).run P w = .ok (.value v) w
theorem Sq.unit {o : Oper} {w' : World} (hg : On ops l o.guard) (hd : o.dst = none)
    (hrun : ∀ a, St N l a → (execOp a.eval o).run P w = .ok .skip w') (h : Sq P N ops Q rest l w') : Sq P N ops Q (o :: rest) l w := by
  intro a ha
  refine wpList_step fun K hK => ?_
  rw [if_pos (hg.wanted ha)]
  unfold Oper.wp
  rw [hrun a ha, Oper.upon_skip, hd]
  exact hK _ _ (h _ ha)
section
variable {d : Nat} {ty : TypeId} {pos : String} {after : Array Edge} {g : Option (Nat × Bool)}
theorem Still.move {x : Operand} {v : Value} (hx : ev l x = some v) : Still P N l ⟨some d, .move x, ty, pos, after, g⟩ (v) w := fun a ha => by simp [execOp, ha.ev hx]
theorem Sq.move {x : Operand} {v : Value} (hg : On ops l g) (hN : Nat.blt d N = true) (hx : ev l x = some v) (h : Sq P N ops Q rest ((d, v) :: l) w) : Sq P N ops Q (⟨some d, .move x, ty, pos, after, g⟩ :: rest) l w := .val hg rfl hN (Still.move hx) h
theorem Still.assign {x : Operand} {v : Value} (hx : ev l x = some v) : Still P N l ⟨some d, .assign x, ty, pos, after, g⟩ (v) w := fun a ha => by simp [execOp, ha.ev hx]
theorem Sq.assign {x : Operand} {v : Value} (hg : On ops l g) (hN : Nat.blt d N = true) (hx : ev l x = some v) (h : Sq P N ops Q rest ((d, v) :: l) w) : Sq P N ops Q (⟨some d, .assign x, ty, pos, after, g⟩ :: rest) l w := .val hg rfl hN (Still.assign hx) h
theorem Still.pickT {c x y : Operand} {v : Value} (hc : ev l c = some (.bool true)) (hx : ev l x = some v) : Still P N l ⟨some d, .pick c x y, ty, pos, after, g⟩ (v) w := fun a ha => by simp [execOp, asBool, ha.ev hc, ha.ev hx]
theorem Sq.pickT {c x y : Operand} {v : Value} (hg : On ops l g) (hN : Nat.blt d N = true) (hc : ev l c = some (.bool true)) (hx : ev l x = some v) (h : Sq P N ops Q rest ((d, v) :: l) w) : Sq P N ops Q (⟨some d, .pick c x y, ty, pos, after, g⟩ :: rest) l w := .val hg rfl hN (Still.pickT hc hx) h
theorem Still.pickF {c x y : Operand} {v : Value} (hc : ev l c = some (.bool false)) (hx : ev l y = some v) : Still P N l ⟨some d, .pick c x y, ty, pos, after, g⟩ (v) w := fun a ha => by simp [execOp, asBool, ha.ev hc, ha.ev hx]
theorem Sq.pickF {c x y : Operand} {v : Value} (hg : On ops l g) (hN : Nat.blt d N = true) (hc : ev l c = some (.bool false)) (hx : ev l y = some v) (h : Sq P N ops Q rest ((d, v) :: l) w) : Sq P N ops Q (⟨some d, .pick c x y, ty, pos, after, g⟩ :: rest) l w := .val hg rfl hN (Still.pickF hc hx) h
theorem Still.pick {c x y : Operand} {b : Bool} {u v : Value} (hc : ev l c = some (.bool b)) (hx : ev l x = some u) (hy : ev l y = some v) : Still P N l ⟨some d, .pick c x y, ty, pos, after, g⟩ (if b then u else v) w := fun a ha => by simp [execOp, asBool, ha.ev hc, ha.ev hx, ha.ev hy]
theorem Sq.pick {c x y : Operand} {b : Bool} {u v : Value} (hg : On ops l g) (hN : Nat.blt d N = true) (hc : ev l c = some (.bool b)) (hx : ev l x = some u) (hy : ev l y = some v) (h : Sq P N ops Q rest ((d, if b then u else v) :: l) w) : Sq P N ops Q (⟨some d, .pick c x y, ty, pos, after, g⟩ :: rest) l w := .val hg rfl hN (Still.pick hc hx hy) h
theorem Still.add {xt yt : TypeId} {x y : Operand} {m n : Int} (hx : ev l x = some (.int .i64 m)) (hy : ev l y = some (.int .i64 n)) (hb : -9223372036854775808 ≤ m + n ∧ m + n ≤ 9223372036854775807) : Still P N l ⟨some d, .binOp .add xt x y yt, ty, pos, after, g⟩ (.int .i64 (m + n)) w := fun a ha => by simp [execOp, eqGuard, binOp, Op.intArith, ha.ev hx, ha.ev hy, IntWalk.i64_in _ hb]
theorem Sq.add {xt yt : TypeId} {x y : Operand} {m n : Int} (hg : On ops l g) (hN : Nat.blt d N = true) (hx : ev l x = some (.int .i64 m)) (hy : ev l y = some (.int .i64 n)) (hb : -9223372036854775808 ≤ m + n ∧ m + n ≤ 9223372036854775807) (h : Sq P N ops Q rest ((d, .int .i64 (m + n)) :: l) w) : Sq P N ops Q (⟨some d, .binOp .add xt x y yt, ty, pos, after, g⟩ :: rest) l w := .val hg rfl hN (Still.add hx hy hb) h
theorem Still.sub {xt yt : TypeId} {x y : Operand} {m n : Int} (hx : ev l x = some (.int .i64 m)) (hy : ev l y = some (.int .i64 n)) (hb : -9223372036854775808 ≤ m - n ∧ m - n ≤ 9223372036854775807) : Still P N l ⟨some d, .binOp .sub xt x y yt, ty, pos, after, g⟩ (.int .i64 (m - n)) w := fun a ha => by simp [execOp, eqGuard, binOp, Op.intArith, ha.ev hx, ha.ev hy, IntWalk.i64_in _ hb]
theorem Sq.sub {xt yt : TypeId} {x y : Operand} {m n : Int} (hg : On ops l g) (hN : Nat.blt d N = true) (hx : ev l x = some (.int .i64 m)) (hy : ev l y = some (.int .i64 n)) (hb : -9223372036854775808 ≤ m - n ∧ m - n ≤ 9223372036854775807) (h : Sq P N ops Q rest ((d, .int .i64 (m - n)) :: l) w) : Sq P N ops Q (⟨some d, .binOp .sub xt x y yt, ty, pos, after, g⟩ :: rest) l w := .val hg rfl hN (Still.sub hx hy hb) h
theorem Still.mul {xt yt : TypeId} {x y : Operand} {m n : Int} (hx : ev l x = some (.int .i64 m)) (hy : ev l y = some (.int .i64 n)) (hb : -9223372036854775808 ≤ m * n ∧ m * n ≤ 9223372036854775807) : Still P N l ⟨some d, .binOp .mul xt x y yt, ty, pos, after, g⟩ (.int .i64 (m * n)) w := fun a ha => by simp [execOp, eqGuard, binOp, Op.intArith, ha.ev hx, ha.ev hy, IntWalk.i64_in _ hb]
theorem Sq.mul {xt yt : TypeId} {x y : Operand} {m n : Int} (hg : On ops l g) (hN : Nat.blt d N = true) (hx : ev l x = some (.int .i64 m)) (hy : ev l y = some (.int .i64 n)) (hb : -9223372036854775808 ≤ m * n ∧ m * n ≤ 9223372036854775807) (h : Sq P N ops Q rest ((d, .int .i64 (m * n)) :: l) w) : Sq P N ops Q (⟨some d, .binOp .mul xt x y yt, ty, pos, after, g⟩ :: rest) l w := .val hg rfl hN (Still.mul hx hy hb) h
theorem Still.quo {xt yt : TypeId} {x y : Operand} {m n : Int} (hx : ev l x = some (.int .i64 m)) (hy : ev l y = some (.int .i64 n)) (hb : 0 ≤ m ∧ m ≤ 9223372036854775807 ∧ 1 ≤ n) : Still P N l ⟨some d, .binOp .quo xt x y yt, ty, pos, after, g⟩ (.int .i64 (m / n)) w := fun a ha => by
    have hn : ¬ n = 0 := by omega
    simp [execOp, eqGuard, binOp, Op.intDiv, ha.ev hx, ha.ev hy, IntWalk.i64_quo _ _ hb, hn]
theorem Sq.quo {xt yt : TypeId} {x y : Operand} {m n : Int} (hg : On ops l g) (hN : Nat.blt d N = true) (hx : ev l x = some (.int .i64 m)) (hy : ev l y = some (.int .i64 n)) (hb : 0 ≤ m ∧ m ≤ 9223372036854775807 ∧ 1 ≤ n) (h : Sq P N ops Q rest ((d, .int .i64 (m / n)) :: l) w) : Sq P N ops Q (⟨some d, .binOp .quo xt x y yt, ty, pos, after, g⟩ :: rest) l w := .val hg rfl hN (Still.quo hx hy hb) h
theorem Still.rem {xt yt : TypeId} {x y : Operand} {m n : Int} (hx : ev l x = some (.int .i64 m)) (hy : ev l y = some (.int .i64 n)) (hb : 0 ≤ m ∧ 1 ≤ n) : Still P N l ⟨some d, .binOp .rem xt x y yt, ty, pos, after, g⟩ (.int .i64 (m % n)) w := fun a ha => by
    have hn : ¬ n = 0 := by omega
    simp [execOp, eqGuard, binOp, Op.intDiv, ha.ev hx, ha.ev hy, hn, Int.tmod_eq_emod_of_nonneg hb.1]
theorem Sq.rem {xt yt : TypeId} {x y : Operand} {m n : Int} (hg : On ops l g) (hN : Nat.blt d N = true) (hx : ev l x = some (.int .i64 m)) (hy : ev l y = some (.int .i64 n)) (hb : 0 ≤ m ∧ 1 ≤ n) (h : Sq P N ops Q rest ((d, .int .i64 (m % n)) :: l) w) : Sq P N ops Q (⟨some d, .binOp .rem xt x y yt, ty, pos, after, g⟩ :: rest) l w := .val hg rfl hN (Still.rem hx hy hb) h
theorem Still.cmp {op : BinOp} {xt yt : TypeId} {x y : Operand} {k : IntKind} {m n : Int} {b : Bool} (hop : (Op.intCmp op m n) = pure (.bool b)) (hnot : (op matches .shl | .shr | .add | .sub | .mul | .quo | .rem | .and | .or | .xor | .andNot) = false) (hx : ev l x = some (.int k m)) (hy : ev l y = some (.int k n)) : Still P N l ⟨some d, .binOp op xt x y yt, ty, pos, after, g⟩ (.bool b) w := fun a ha => by
    have e : binOp op xt (.int k m) (.int k n) = Op.intCmp op m n := by cases op <;> simp_all [binOp]
    have e2 : eqGuard op xt x y (.int k m) (.int k n) = pure () := by unfold eqGuard; split <;> rfl
    simp [execOp, ha.ev hx, ha.ev hy, e, e2, hop]
theorem Sq.cmp {op : BinOp} {xt yt : TypeId} {x y : Operand} {k : IntKind} {m n : Int} {b : Bool} (hop : (Op.intCmp op m n) = pure (.bool b)) (hnot : (op matches .shl | .shr | .add | .sub | .mul | .quo | .rem | .and | .or | .xor | .andNot) = false) (hg : On ops l g) (hN : Nat.blt d N = true) (hx : ev l x = some (.int k m)) (hy : ev l y = some (.int k n)) (h : Sq P N ops Q rest ((d, .bool b) :: l) w) : Sq P N ops Q (⟨some d, .binOp op xt x y yt, ty, pos, after, g⟩ :: rest) l w := .val hg rfl hN (Still.cmp hop hnot hx hy) h
theorem Still.lss {xt yt : TypeId} {x y : Operand} {k : IntKind} {m n : Int} (hx : ev l x = some (.int k m)) (hy : ev l y = some (.int k n)) : Still P N l ⟨some d, .binOp .lss xt x y yt, ty, pos, after, g⟩ (.bool (decide (m < n))) w := Still.cmp rfl rfl hx hy
theorem Sq.lss {xt yt : TypeId} {x y : Operand} {k : IntKind} {m n : Int} (hg : On ops l g) (hN : Nat.blt d N = true) (hx : ev l x = some (.int k m)) (hy : ev l y = some (.int k n)) (h : Sq P N ops Q rest ((d, .bool (decide (m < n))) :: l) w) : Sq P N ops Q (⟨some d, .binOp .lss xt x y yt, ty, pos, after, g⟩ :: rest) l w := .val hg rfl hN (Still.lss hx hy) h
theorem Still.leq {xt yt : TypeId} {x y : Operand} {k : IntKind} {m n : Int} (hx : ev l x = some (.int k m)) (hy : ev l y = some (.int k n)) : Still P N l ⟨some d, .binOp .leq xt x y yt, ty, pos, after, g⟩ (.bool (decide (m ≤ n))) w := Still.cmp rfl rfl hx hy
theorem Sq.leq {xt yt : TypeId} {x y : Operand} {k : IntKind} {m n : Int} (hg : On ops l g) (hN : Nat.blt d N = true) (hx : ev l x = some (.int k m)) (hy : ev l y = some (.int k n)) (h : Sq P N ops Q rest ((d, .bool (decide (m ≤ n))) :: l) w) : Sq P N ops Q (⟨some d, .binOp .leq xt x y yt, ty, pos, after, g⟩ :: rest) l w := .val hg rfl hN (Still.leq hx hy) h
theorem Still.gtr {xt yt : TypeId} {x y : Operand} {k : IntKind} {m n : Int} (hx : ev l x = some (.int k m)) (hy : ev l y = some (.int k n)) : Still P N l ⟨some d, .binOp .gtr xt x y yt, ty, pos, after, g⟩ (.bool (decide (n < m))) w := Still.cmp rfl rfl hx hy
theorem Sq.gtr {xt yt : TypeId} {x y : Operand} {k : IntKind} {m n : Int} (hg : On ops l g) (hN : Nat.blt d N = true) (hx : ev l x = some (.int k m)) (hy : ev l y = some (.int k n)) (h : Sq P N ops Q rest ((d, .bool (decide (n < m))) :: l) w) : Sq P N ops Q (⟨some d, .binOp .gtr xt x y yt, ty, pos, after, g⟩ :: rest) l w := .val hg rfl hN (Still.gtr hx hy) h
theorem Still.geq {xt yt : TypeId} {x y : Operand} {k : IntKind} {m n : Int} (hx : ev l x = some (.int k m)) (hy : ev l y = some (.int k n)) : Still P N l ⟨some d, .binOp .geq xt x y yt, ty, pos, after, g⟩ (.bool (decide (n ≤ m))) w := Still.cmp rfl rfl hx hy
theorem Sq.geq {xt yt : TypeId} {x y : Operand} {k : IntKind} {m n : Int} (hg : On ops l g) (hN : Nat.blt d N = true) (hx : ev l x = some (.int k m)) (hy : ev l y = some (.int k n)) (h : Sq P N ops Q rest ((d, .bool (decide (n ≤ m))) :: l) w) : Sq P N ops Q (⟨some d, .binOp .geq xt x y yt, ty, pos, after, g⟩ :: rest) l w := .val hg rfl hN (Still.geq hx hy) h
theorem Still.eql {xt yt : TypeId} {x y : Operand} {k : IntKind} {m n : Int} (hx : ev l x = some (.int k m)) (hy : ev l y = some (.int k n)) : Still P N l ⟨some d, .binOp .eql xt x y yt, ty, pos, after, g⟩ (.bool (decide (m = n))) w := Still.cmp (by show pure (Value.bool (m == n)) = _; rw [show (m == n) = decide (m = n) from rfl]) rfl hx hy
theorem Sq.eql {xt yt : TypeId} {x y : Operand} {k : IntKind} {m n : Int} (hg : On ops l g) (hN : Nat.blt d N = true) (hx : ev l x = some (.int k m)) (hy : ev l y = some (.int k n)) (h : Sq P N ops Q rest ((d, .bool (decide (m = n))) :: l) w) : Sq P N ops Q (⟨some d, .binOp .eql xt x y yt, ty, pos, after, g⟩ :: rest) l w := .val hg rfl hN (Still.eql hx hy) h
theorem Still.neq {xt yt : TypeId} {x y : Operand} {k : IntKind} {m n : Int} (hx : ev l x = some (.int k m)) (hy : ev l y = some (.int k n)) : Still P N l ⟨some d, .binOp .neq xt x y yt, ty, pos, after, g⟩ (.bool (decide (m ≠ n))) w := Still.cmp (by show pure (Value.bool (m != n)) = _; rw [show (m != n) = decide (m ≠ n) from by by_cases h : m = n <;> simp [h]]) rfl hx hy
theorem Sq.neq {xt yt : TypeId} {x y : Operand} {k : IntKind} {m n : Int} (hg : On ops l g) (hN : Nat.blt d N = true) (hx : ev l x = some (.int k m)) (hy : ev l y = some (.int k n)) (h : Sq P N ops Q rest ((d, .bool (decide (m ≠ n))) :: l) w) : Sq P N ops Q (⟨some d, .binOp .neq xt x y yt, ty, pos, after, g⟩ :: rest) l w := .val hg rfl hN (Still.neq hx hy) h
theorem Sq.isT {p : Prop} [Decidable p] (hp : p) (h : Sq P N ops Q rest ((d, .bool true) :: l) w) : Sq P N ops Q rest ((d, .bool (decide p)) :: l) w := by rw [decide_eq_true hp]; exact h
theorem Sq.isF {p : Prop} [Decidable p] (hp : ¬ p) (h : Sq P N ops Q rest ((d, .bool false) :: l) w) : Sq P N ops Q rest ((d, .bool (decide p)) :: l) w := by rw [decide_eq_false hp]; exact h
theorem Sq.part {p : Prop} [Decidable p] (ht : p → Sq P N ops Q rest ((d, .bool true) :: l) w) (hf : ¬ p → Sq P N ops Q rest ((d, .bool false) :: l) w) : Sq P N ops Q rest ((d, .bool (decide p)) :: l) w := by
  by_cases hp : p
  · rw [decide_eq_true hp]; exact ht hp
  · rw [decide_eq_false hp]; exact hf hp
theorem Sq.partB {b : Bool} (ht : b = true → Sq P N ops Q rest ((d, .bool true) :: l) w) (hf : b = false → Sq P N ops Q rest ((d, .bool false) :: l) w) : Sq P N ops Q rest ((d, .bool b) :: l) w := by
  cases b
  · exact hf rfl
  · exact ht rfl
theorem Sq.beT {b : Bool} (e : b = true) (h : Sq P N ops Q rest ((d, .bool true) :: l) w) : Sq P N ops Q rest ((d, .bool b) :: l) w := by rw [e]; exact h
theorem Still.not {xt : TypeId} {x : Operand} {b : Bool} (hx : ev l x = some (.bool b)) : Still P N l ⟨some d, .unOp .not xt x, ty, pos, after, g⟩ (.bool (!b)) w := fun a ha => by simp [execOp, Op.unary, ha.ev hx]
theorem Sq.not {xt : TypeId} {x : Operand} {b : Bool} (hg : On ops l g) (hN : Nat.blt d N = true) (hx : ev l x = some (.bool b)) (h : Sq P N ops Q rest ((d, .bool (!b)) :: l) w) : Sq P N ops Q (⟨some d, .unOp .not xt x, ty, pos, after, g⟩ :: rest) l w := .val hg rfl hN (Still.not hx) h
theorem Still.notT {xt : TypeId} {x : Operand} (hx : ev l x = some (.bool true)) : Still P N l ⟨some d, .unOp .not xt x, ty, pos, after, g⟩ (.bool false) w := Still.not hx
theorem Sq.notT {xt : TypeId} {x : Operand} (hg : On ops l g) (hN : Nat.blt d N = true) (hx : ev l x = some (.bool true)) (h : Sq P N ops Q rest ((d, .bool false) :: l) w) : Sq P N ops Q (⟨some d, .unOp .not xt x, ty, pos, after, g⟩ :: rest) l w := .val hg rfl hN (Still.notT hx) h
theorem Still.notF {xt : TypeId} {x : Operand} (hx : ev l x = some (.bool false)) : Still P N l ⟨some d, .unOp .not xt x, ty, pos, after, g⟩ (.bool true) w := Still.not hx
theorem Sq.notF {xt : TypeId} {x : Operand} (hg : On ops l g) (hN : Nat.blt d N = true) (hx : ev l x = some (.bool false)) (h : Sq P N ops Q rest ((d, .bool true) :: l) w) : Sq P N ops Q (⟨some d, .unOp .not xt x, ty, pos, after, g⟩ :: rest) l w := .val hg rfl hN (Still.notF hx) h
def Ret (P : Program) (f : FuncId) (args : Array Value) (w : World) (R : Value → World → Prop) : Prop :=
  Calls P f args w fun e w' => ∃ v, e = .returned v ∧ R v w'
theorem Ret.mono {f : FuncId} {args : Array Value} {R R' : Value → World → Prop} (h : Ret P f args w R) (hr : ∀ v w', R v w' → R' v w') : Ret P f args w R' :=
  Calls.mono h fun _ _ ⟨v, he, hv⟩ => ⟨v, he, hr _ _ hv⟩
structure Fn (P : Program) (f : FuncId) (fn : Func) : Prop where
  get : P.funcs[f]? = some fn
  body : fn.body.isNone = false
  name : (fn.name == "runtime.NumGoroutine") = false
theorem run_callFunc {f : FuncId} {fn : Func} (hf : Fn P f fn) (args : Array Value) : (callFunc f args).run P w = .ok (.enter f args) w := by
  have h1 := hf.name
  have h2 := hf.body
  have h3 : fn.body ≠ none := by intro h; rw [h] at h2; cases h2
  have h4 : ¬ fn.name = "runtime.NumGoroutine" := by simpa using h1
  simp [callFunc, hf.get, h3, h4]
def evs (l : Slots) : List Operand → Option (List Value)
  | [] => some []
  | x :: r => match ev l x, evs l r with
    | some v, some vs => some (v :: vs)
    | _, _ => none
theorem St.evs {a : Act} (ha : St N l a) : ∀ {xs : List Operand} {vs : List Value}, evs l xs = some vs → xs.map a.eval = vs := by
  intro xs
  induction xs with
  | nil => intro vs h; simp [Go.Proofs.YtdkdpmmfebdeaaaDoor.evs] at h; simp [h]
  | cons x r ih =>
    intro vs h
    simp only [Go.Proofs.YtdkdpmmfebdeaaaDoor.evs] at h
    cases h1 : Go.Proofs.YtdkdpmmfebdeaaaDoor.ev l x with
    | none => rw [h1] at h; simp at h
    | some v =>
      cases h2 : Go.Proofs.YtdkdpmmfebdeaaaDoor.evs l r with
      | none => rw [h1, h2] at h; simp at h
      | some vs' =>
        rw [h1, h2] at h
        simp at h
        subst h
        simp [ha.ev h1, ih h2]
theorem Sq.call {f : FuncId} {fn : Func} {xs : List Operand} {ats : Array TypeId} {vs : List Value} {R : Value → World → Prop} (hf : Fn P f fn) (hg : On ops l g) (hN : Nat.blt d N = true)
    (hx : evs l xs = some vs) (hc : Ret P f vs.toArray w R) (h : ∀ v w', R v w' → Sq P N ops Q rest ((d, v) :: l) w') :
    Sq P N ops Q (⟨some d, .call ⟨.value (.func f), xs.toArray, ats⟩, ty, pos, after, g⟩ :: rest) l w := by
  intro a ha
  refine wpList_step fun K hK => ?_
  rw [if_pos (hg.wanted ha)]
  unfold Oper.wp
  rw [execOp_call_go, run_callFunc hf, Oper.upon_enter]
  have hargs : (#[] ++ xs.toArray.map a.eval ++ #[]) = vs.toArray := by
    rw [List.map_toArray, ha.evs hx]; simp
  rw [hargs]
  refine Calls.mono hc fun e w' he => ?_
  obtain ⟨v, rfl, hv⟩ := he
  exact hK _ _ (h v w' hv _ (ha.put hN))
theorem Still.extract {x : Operand} {i : Nat} {vs : Array Value} {v : Value} (hx : ev l x = some (.tuple vs)) (hv : vs[i]? = some v) : Still P N l ⟨some d, .extract x i, ty, pos, after, g⟩ (v) w := fun a ha => by simp [execOp, Instr.extract, ha.ev hx, hv]
theorem Sq.extract {x : Operand} {i : Nat} {vs : Array Value} {v : Value} (hg : On ops l g) (hN : Nat.blt d N = true) (hx : ev l x = some (.tuple vs)) (hv : vs[i]? = some v) (h : Sq P N ops Q rest ((d, v) :: l) w) : Sq P N ops Q (⟨some d, .extract x i, ty, pos, after, g⟩ :: rest) l w := .val hg rfl hN (Still.extract hx hv) h
end
end ops
theorem Ret.of {P : Program} {f : FuncId} {fn : Func} {c : Code} {N : Nat} {args : List Value} {w : World} {R : Value → World → Prop} (hf : P.funcs[f]? = some fn) (hb : fn.body = some c) (hN : fn.ntmps = N) (hle : Nat.ble args.length N = true)
    (h : ∀ l, l = args.zipIdx.map (fun p => (p.2, p.1)) → Cq P N c (bodyPost P fn fun e w' => ∃ v, e = .returned v ∧ R v w') l w) : Ret P f args.toArray w R := by
  refine calls_of_wp hf hb (h _ rfl _ ⟨?_, rfl, ?_⟩)
  · have := Nat.le_of_ble_eq_true hle
    simp [hN]
    omega
  · intro t v hv
    have key : ∀ (xs : List Value) (k : Nat), look ((xs.zipIdx k).map (fun p => (p.2, p.1))) t = some v → k ≤ t ∧ xs[t - k]? = some v := by
      intro xs
      induction xs with
      | nil => intro k h; simp [look] at h
      | cons x r ih =>
        intro k h
        simp only [List.zipIdx_cons, List.map_cons, look] at h
        cases hb : Nat.beq k t with
        | true =>
          obtain rfl := Nat.eq_of_beq_eq_true hb
          rw [hb] at h
          simp at h
          simp [h]
        | false =>
          rw [hb] at h
          obtain ⟨h1, h2⟩ := ih (k + 1) h
          have : t - k = (t - (k + 1)) + 1 := by omega
          exact ⟨by omega, by rw [this]; simpa using h2⟩
    obtain ⟨_, h2⟩ := key args 0 hv
    have h3 : args[t]? = some v := by simpa using h2
    have h4 : t < args.length := by
      rcases Nat.lt_or_ge t args.length with h | h
      · exact h
      · simp [List.getElem?_eq_none h] at h3
    have h5 : args[t] = v := by rw [List.getElem?_eq_getElem h4] at h3; exact Option.some.inj h3
    simp [Array.getD_eq_getD_getElem?, Array.getElem?_append, h4, h5]
theorem Eq.ret1 {P : Program} {fn : Func} {N t : Nat} {l : Slots} {w : World} {v : Value} {R : Value → World → Prop} (hr : fn.results = #[.tmp t]) (hv : look l t = some v) (h : R v w) :
    Eq N (bodyPost P fn fun e w' => ∃ v, e = .returned v ∧ R v w') .ret l w := fun _ ha =>
  bodyPost_ret (results_tmp hr _ _ _) ha.defers ⟨v, by rw [ha.slot _ _ hv], h⟩
theorem Eq.ret2 {P : Program} {fn : Func} {N t u : Nat} {l : Slots} {w : World} {v v' : Value} {R : Value → World → Prop} (hr : fn.results = #[.tmp t, .tmp u]) (hv : look l t = some v) (hv' : look l u = some v') (h : R (.tuple #[v, v']) w) :
    Eq N (bodyPost P fn fun e w' => ∃ v, e = .returned v ∧ R v w') .ret l w := fun _ ha =>
  bodyPost_ret (results_tmp2 hr _ _ _) ha.defers ⟨_, by rw [ha.slot _ _ hv, ha.slot _ _ hv'], h⟩
end Go.Proofs.YtdkdpmmfebdeaaaDoor
set_option linter.unusedSimpArgs false
set_option linter.unusedVariables false
namespace Go.Proofs.YtdkdpmmfebdeaaaDoor
open Go.RowKit
def Ext (w w' : World) : Prop := Below w.heap.size w w'
theorem Ext.refl (w : World) : Ext w w := Below.refl _ _
theorem Ext.trans {a b c : World} (h : Ext a b) (k : Ext b c) : Ext a c := Below.trans h (Below.mono k h.size)
theorem Ext.alloc (w : World) (o : Obj) : Ext w (w.alloc o) := (Below.refl _ _).alloc (Nat.le_refl _) o
theorem Ext.heap {w w' : World} (h : Ext w w') {b : Nat} {o : Obj} (hb : w.heap[b]? = some o) : w'.heap[b]? = some o := by
  rw [h.block b (lt_of_block hb)]; exact hb
theorem Ext.grown {a b w' : World} {r : Option Nat} (h : Ext a b) (hg : b.grownBy w' r) (hr : ∀ k, r = some k → a.heap.size ≤ k) : Ext a w' := Below.grown h hg h.size hr
theorem Ext.of_grown {w w' : World} (h : w.grownBy w' none) : Ext w w' := (Below.refl _ _).grown h (Nat.le_refl _) (fun k hk => by cases hk)
theorem Ext.to_grown {w w' : World} (h : Ext w w') (r : Option Nat) : w.grownBy w' r := ⟨h.os, h.tape, h.output, h.size, fun k hk _ => h.block k hk⟩
theorem grown_trans {a b c : World} {r : Option Nat} (h : a.grownBy b r) (k : b.grownBy c r) : a.grownBy c r :=
  ⟨k.os.trans h.os, k.tape.trans h.tape, k.output.trans h.output, Nat.le_trans h.size k.size, fun i hi hn => (k.block i (Nat.lt_of_lt_of_le hi h.size) hn).trans (h.block i hi hn)⟩
theorem grown_setCell (w : World) (g o : Nat) (v : Value) : w.grownBy (w.setCell ⟨g, o, none⟩ v) (some g) :=
  ⟨rfl, rfl, rfl, by simp [World.setCell], fun k _ hne => Below.heap_setCell _ _ _ _ (fun e => hne (by rw [e]))⟩
def Blk (w : World) (b : Nat) (t : TypeId) (cs : List Value) : Prop := w.heap[b]? = some (.cells cs.toArray t (0, 0))
theorem Blk.ext {w w' : World} {b : Nat} {t : TypeId} {cs : List Value} (h : Blk w b t cs) (e : Ext w w') : Blk w' b t cs := e.heap h
theorem Blk.lt {w : World} {b : Nat} {t : TypeId} {cs : List Value} (h : Blk w b t cs) : b < w.heap.size := lt_of_block h
theorem Blk.cell {w : World} {b : Nat} {t : TypeId} {cs : List Value} (h : Blk w b t cs) (j : Nat) : w.cell? ⟨b, j, none⟩ = cs[j]? := by
  simp only [Blk] at h
  simp [World.cell?, h]
theorem Blk.free {w : World} {b : Nat} {t : TypeId} {cs : List Value} (h : Blk w b t cs) (j : Nat) : w.frozen? ⟨b, j, none⟩ = false := by
  simp only [Blk] at h
  simp [World.frozen?, h]
theorem Blk.set {w : World} {b : Nat} {t : TypeId} {cs : List Value} (h : Blk w b t cs) (j : Nat) (u : Value) : Blk (w.setCell ⟨b, j, none⟩ u) b t (cs.set j u) := by
  simp only [Blk] at *
  simp [World.setCell, Array.getElem?_modify, h]
theorem Blk.new (w : World) (t : TypeId) (cs : List Value) : Blk (w.alloc (.cells cs.toArray t)) w.heap.size t cs := heap_alloc_new w _
theorem Blk.grown {w w' : World} {b : Nat} {t : TypeId} {cs : List Value} (h : Blk w b t cs) {r : Option Nat} (hg : w.grownBy w' r) (hne : r ≠ some b) : Blk w' b t cs := by
  simp only [Blk] at *
  rw [hg.block b (lt_of_block h) (fun e => hne e.symm)]; exact h
theorem Blk.ne {w : World} {b b' : Nat} {t t' : TypeId} {cs cs' : List Value} (h : Blk w b t cs) (h' : Blk w b' t' cs') (hne : t ≠ t') : b ≠ b' := by
  rintro rfl
  simp only [Blk] at *
  rw [h] at h'
  simp at h'
  exact hne h'.2
def Row (w : World) (e : TypeId) (v : Value) (vs : List Value) : Prop :=
  (vs = [] ∧ ∃ p c, v = .slice p 0 c ∧ (p = none → c = 0)) ∨
  ∃ b o c cur fr, v = .slice (some ⟨b, o, none⟩) vs.length c ∧ w.heap[b]? = some (.cells cur e fr) ∧ ∀ i x, vs[i]? = some x → cur[o + i]? = some x
theorem Row.ext {w w' : World} {e : TypeId} {v : Value} {vs : List Value} (h : Row w e v vs) (x : Ext w w') : Row w' e v vs := by
  rcases h with h | ⟨b, o, c, cur, fr, hv, hb, hx⟩
  · exact .inl h
  · exact .inr ⟨b, o, c, cur, fr, hv, x.heap hb, hx⟩
theorem Row.grown {w w' : World} {e : TypeId} {v : Value} {vs : List Value} (h : Row w e v vs) {g : Nat} {t : TypeId} {cs : List Value} (hg : w.grownBy w' (some g)) (hb' : Blk w g t cs) (hne : t ≠ e) : Row w' e v vs := by
  rcases h with h | ⟨b, o, c, cur, fr, hv, hb, hx⟩
  · exact .inl h
  · refine .inr ⟨b, o, c, cur, fr, hv, ?_, hx⟩
    rw [hg.block b (lt_of_block hb) (fun h => ?_)]
    · exact hb
    · injection h with h
      subst h
      simp only [Blk] at hb'
      rw [hb] at hb'
      simp at hb'
      exact hne hb'.2.1.symm
theorem Row.shape {w : World} {e : TypeId} {v : Value} {vs : List Value} (h : Row w e v vs) : ∃ p c, v = .slice p vs.length c := by
  rcases h with ⟨rfl, p, c, rfl, _⟩ | ⟨b, o, c, cur, fr, hv, _⟩
  · exact ⟨p, c, rfl⟩
  · exact ⟨_, c, hv⟩
theorem Row.nil (w : World) (e : TypeId) : Row w e (.slice none 0 0) [] := .inl ⟨rfl, none, 0, rfl, fun _ => rfl⟩
theorem addr_add (b o i : Nat) : (⟨b, o, none⟩ : Addr).add i = ⟨b, o + i, none⟩ := by
  simp only [Addr.add]
  split
  · subst_vars; rfl
  · rfl
def Own (w : World) (B : Nat) (e : TypeId) (v : Value) (vs : List Value) : Prop := w.ownsRow B e 1 v vs.length vs
theorem Own.nil (w : World) (B : Nat) (e : TypeId) : Own w B e (.slice none 0 0) [] := World.ownsRow_nil w B e 1
theorem Own.cases {w : World} {B : Nat} {e : TypeId} {v : Value} {vs : List Value} (h : Own w B e v vs) :
    (v = .slice none 0 0 ∧ vs = []) ∨ ∃ g cap cs, v = .slice (some ⟨g, 0, none⟩) vs.length cap ∧ B ≤ g ∧ Blk w g e cs ∧ vs.length ≤ cap ∧ cap ≤ maxLen ∧ cs.length = cap ∧ cs.take vs.length = vs := by
  rcases h.2 with ⟨h1, h2⟩ | ⟨g, cap, cur, hv, hg, hb, h3, h4, h5, h6⟩
  · exact .inl ⟨h1, List.eq_nil_of_length_eq_zero h2⟩
  · exact .inr ⟨g, cap, cur.toList, hv, hg, by simpa [Blk] using hb, h3, h4, by simpa using h5, by simpa using h6⟩
theorem Own.mk {w : World} {B : Nat} {e : TypeId} {vs : List Value} {g cap : Nat} {cs : List Value} (hg : B ≤ g) (hb : Blk w g e cs) (h3 : vs.length ≤ cap) (h4 : cap ≤ maxLen) (h5 : cs.length = cap) (h6 : cs.take vs.length = vs) :
    Own w B e (.slice (some ⟨g, 0, none⟩) vs.length cap) vs :=
  ⟨by simp, .inr ⟨g, cap, cs.toArray, rfl, hg, by simpa [Blk] using hb, h3, h4, by simpa using h5, by simpa using h6⟩⟩
theorem Own.row {w : World} {B : Nat} {e : TypeId} {v : Value} {vs : List Value} (h : Own w B e v vs) : Row w e v vs := by
  rcases h.cases with ⟨rfl, rfl⟩ | ⟨g, cap, cs, rfl, _, hb, _, _, _, h6⟩
  · exact Row.nil _ _
  · refine .inr ⟨g, 0, cap, cs.toArray, (0, 0), rfl, hb, fun i x hx => ?_⟩
    rw [← h6, List.getElem?_take] at hx
    split at hx
    · simpa using hx
    · cases hx
theorem Own.ext {w w' : World} {B : Nat} {e : TypeId} {v : Value} {vs : List Value} (h : Own w B e v vs) (x : Ext w w') : Own w' B e v vs := by
  rcases h.cases with ⟨rfl, rfl⟩ | ⟨g, cap, cs, rfl, hg, hb, h3, h4, h5, h6⟩
  · exact Own.nil _ _ _
  · exact Own.mk hg (hb.ext x) h3 h4 h5 h6
theorem Own.grown {w w' : World} {B : Nat} {e : TypeId} {v : Value} {vs : List Value} (h : Own w B e v vs) {r : Option Nat} (hg : w.grownBy w' r) (hne : ∀ k, v.ownBlock = some k → r ≠ some k) : Own w' B e v vs := by
  rcases h.cases with ⟨rfl, rfl⟩ | ⟨g, cap, cs, rfl, hg', hb, h3, h4, h5, h6⟩
  · exact Own.nil _ _ _
  · exact Own.mk hg' (hb.grown hg (hne g rfl)) h3 h4 h5 h6
theorem Own.lt {w : World} {B : Nat} {e : TypeId} {v : Value} {vs : List Value} (h : Own w B e v vs) : ∀ k, v.ownBlock = some k → B ≤ k ∧ k < w.heap.size := by
  rcases h.cases with ⟨rfl, rfl⟩ | ⟨g, cap, cs, rfl, hg', hb, h3, h4, h5, h6⟩
  · intro k hk; cases hk
  · intro k hk
    simp [Value.ownBlock] at hk
    subst hk
    exact ⟨hg', hb.lt⟩
theorem Own.mono {w : World} {B B' : Nat} {e : TypeId} {v : Value} {vs : List Value} (h : Own w B e v vs) (hB : B' ≤ B) : Own w B' e v vs := by
  rcases h.cases with ⟨rfl, rfl⟩ | ⟨g, cap, cs, rfl, hg', hb, h3, h4, h5, h6⟩
  · exact Own.nil _ _ _
  · exact Own.mk (Nat.le_trans hB hg') hb h3 h4 h5 h6
theorem Row.owned {w w' : World} {B : Nat} {e t : TypeId} {v u : Value} {vs us : List Value} (h : Row w e v vs) (ho : Own w B t u us) (hg : w.grownBy w' u.ownBlock) (hne : t ≠ e) : Row w' e v vs := by
  rcases ho.cases with ⟨rfl, rfl⟩ | ⟨g, cap, cs, rfl, hg', hb, _⟩
  · exact h.ext (Ext.of_grown hg)
  · exact h.grown (g := g) hg hb hne
theorem Blk.owned {w w' : World} {B b : Nat} {e t : TypeId} {u : Value} {cs us : List Value} (h : Blk w b e cs) (ho : Own w B t u us) (hg : w.grownBy w' u.ownBlock) (hne : t ≠ e) : Blk w' b e cs := by
  rcases ho.cases with ⟨rfl, rfl⟩ | ⟨g, cap, cs', rfl, hg', hb, _⟩
  · exact h.ext (Ext.of_grown hg)
  · exact h.grown hg (fun e' => hb.ne h hne (by simpa [Value.ownBlock] using e'))
theorem Ext.owned {a w w' : World} {B : Nat} {t : TypeId} {u : Value} {us : List Value} (h : Ext a w) (ho : Own w B t u us) (hg : w.grownBy w' u.ownBlock) (hB : a.heap.size ≤ B) : Ext a w' :=
  h.grown hg fun k hk => Nat.le_trans hB (ho.lt k hk).1
structure One (P : Program) (t : TypeId) : Prop where
  agg : ∀ w, (isAgg t).run P w = .ok false w
  size : ∀ w, (sizeOf t).run P w = .ok 1 w
structure Agg (P : Program) (t : TypeId) (n : Nat) : Prop where
  agg : ∀ w, (isAgg t).run P w = .ok true w
  size : ∀ w, (sizeOf t).run P w = .ok n w
def Fld (P : Program) (s : TypeId) (f j : Nat) : Prop := ∀ b o w, (Instr.fieldAt s (.pointer (some ⟨b, o, none⟩)) f).run P w = .ok (.pointer (some ⟨b, o + j, none⟩)) w
structure SlT (P : Program) (t e : TypeId) (z : Value) : Prop where
  und : P.underlying t = some (.slice e)
  info : ∃ i, P.info? e = some i ∧ i.zero = some z ∧ i.size = 1 ∧ i.bytes ≤ 64
  one : z.oneCell' = true
theorem SlT.elem {P : Program} {t e : TypeId} {z : Value} (h : SlT P t e z) : P.elem t = e := by simp [Program.elem, h.und]
theorem SlT.sizeOf {P : Program} {t e : TypeId} {z : Value} (h : SlT P t e z) (w : World) : (sizeOf e).run P w = .ok 1 w := by
  obtain ⟨i, hi, _, hs, _⟩ := h.info
  simp [Go.sizeOf, typeInfo, hi, hs]
section ops
variable {P : Program} {N : Nat} {ops : Array Oper} {Q : Exit → Act → World → Prop} {rest : List Oper} {l : Slots} {w : World}
theorem St.fresh {a : Act} {d : Nat} {v : Value} (h : St N l a) (hd : look l d = none) : St N l (a.put (some d) v) := by
  refine ⟨by simp [Act.put, h.size], h.defers, fun t u hu => ?_⟩
  have hne : d ≠ t := by rintro rfl; rw [hd] at hu; cases hu
  rw [← h.slot t u hu]
  simp [Act.put, Array.getD_eq_getD_getElem?, hne]
theorem Sq.mute {o : Oper} {d : Nat} {v : Value} {w' : World} (hg : On ops l o.guard) (hd : o.dst = some d) (hl : look l d = none)
    (hrun : ∀ a, St N l a → (execOp a.eval o).run P w = .ok (.value v) w') (h : ∀ a, St N l a → a.tmps.getD d undef = v ∨ ¬ d < N → wpList P ops Q rest a w') : Sq P N ops Q (o :: rest) l w := by
  intro a ha
  refine wpList_step fun K hK => ?_
  rw [if_pos (hg.wanted ha)]
  unfold Oper.wp
  rw [hrun a ha, Oper.upon_value, hd]
  refine hK _ _ (h _ (ha.fresh hl) ?_)
  by_cases hd' : d < N
  · left
    have : d < a.tmps.size := by rw [ha.size]; exact hd'
    simp [Act.put, this]
  · exact .inr hd'
section
variable {d : Nat} {ty : TypeId} {pos : String} {after : Array Edge} {g : Option (Nat × Bool)}
theorem Sq.box {t : TypeId} {x : Operand} {cs : List Value} (hg : On ops l g) (hN : Nat.blt d N = true) (hx : ev l x = some (.agg cs.toArray))
    (h : ∀ b w', Ext w w' → Blk w' b t cs → w.heap.size ≤ b → Sq P N ops Q rest ((d, .pointer (some ⟨b, 0, none⟩)) :: l) w') :
    Sq P N ops Q (⟨some d, .box t x, ty, pos, after, g⟩ :: rest) l w :=
  .val (w' := w.alloc (.cells cs.toArray t)) hg rfl hN (fun a ha => by simp [execOp, Instr.box, newVar, newRow, ha.ev hx, Value.cells])
    (h _ _ (Ext.alloc _ _) (Blk.new _ _ _) (Nat.le_refl _))
theorem Still.fieldAddr {s f j b o : Nat} {x : Operand} (hf : Fld P s f j) (hx : ev l x = some (.pointer (some ⟨b, o, none⟩))) : Still P N l ⟨some d, .fieldAddr s x f, ty, pos, after, g⟩ (.pointer (some ⟨b, o + j, none⟩)) w := fun a ha => by simp [execOp, ha.ev hx, hf b o w]
theorem Sq.fieldAddr {s f j b o : Nat} {x : Operand} (hf : Fld P s f j) (hg : On ops l g) (hN : Nat.blt d N = true) (hx : ev l x = some (.pointer (some ⟨b, o, none⟩))) (h : Sq P N ops Q rest ((d, .pointer (some ⟨b, o + j, none⟩)) :: l) w) : Sq P N ops Q (⟨some d, .fieldAddr s x f, ty, pos, after, g⟩ :: rest) l w := .val hg rfl hN (Still.fieldAddr hf hx) h
theorem run_load1 {t : TypeId} (h1 : One P t) {b o : Nat} {v : Value} (hc : w.cell? ⟨b, o, none⟩ = some v) : (Instr.loadAt t (.pointer (some ⟨b, o, none⟩))).run P w = .ok v w := by
  simp [Instr.loadAt, Instr.sureAddr, loadVar, h1.agg, hc]
theorem Still.load {t : TypeId} {b o : Nat} {x : Operand} {v : Value} (h1 : One P t) (hx : ev l x = some (.pointer (some ⟨b, o, none⟩))) (hc : w.cell? ⟨b, o, none⟩ = some v) : Still P N l ⟨some d, .load t x, ty, pos, after, g⟩ (v) w := fun a ha => by simp [execOp, ha.ev hx, run_load1 h1 hc]
theorem Sq.load {t : TypeId} {b o : Nat} {x : Operand} {v : Value} (h1 : One P t) (hg : On ops l g) (hN : Nat.blt d N = true) (hx : ev l x = some (.pointer (some ⟨b, o, none⟩))) (hc : w.cell? ⟨b, o, none⟩ = some v) (h : Sq P N ops Q rest ((d, v) :: l) w) : Sq P N ops Q (⟨some d, .load t x, ty, pos, after, g⟩ :: rest) l w := .val hg rfl hN (Still.load h1 hx hc) h
theorem Sq.loadB {t u : TypeId} {b o : Nat} {x : Operand} {v : Value} {cs : List Value} (h1 : One P t) (hg : On ops l g) (hN : Nat.blt d N = true) (hx : ev l x = some (.pointer (some ⟨b, o, none⟩)))
    (hb : Blk w b u cs) (hc : cs[o]? = some v) (h : Sq P N ops Q rest ((d, v) :: l) w) : Sq P N ops Q (⟨some d, .load t x, ty, pos, after, g⟩ :: rest) l w :=
  .load h1 hg hN hx (by rw [hb.cell, hc]) h
theorem Still.loadAgg {t u : TypeId} {b n : Nat} {x : Operand} {cs : List Value} (h1 : Agg P t n) (hx : ev l x = some (.pointer (some ⟨b, 0, none⟩))) (hb : Blk w b u cs) (hn : cs.length = n) : Still P N l ⟨some d, .load t x, ty, pos, after, g⟩ (.agg cs.toArray) w := fun a ha => by
    have hl : (loadCells ⟨b, 0, none⟩ n).run P w = .ok cs.toArray w := by
      rw [← hn]
      refine run_loadCells_list _ _ _ fun j v hv => ?_
      rw [addr_add, hb.cell]
      simpa using hv
    simp [execOp, ha.ev hx, Instr.loadAt, Instr.sureAddr, loadVar, h1.agg, h1.size, hl]
theorem Sq.loadAgg {t u : TypeId} {b n : Nat} {x : Operand} {cs : List Value} (h1 : Agg P t n) (hg : On ops l g) (hN : Nat.blt d N = true) (hx : ev l x = some (.pointer (some ⟨b, 0, none⟩))) (hb : Blk w b u cs) (hn : cs.length = n) (h : Sq P N ops Q rest ((d, .agg cs.toArray) :: l) w) : Sq P N ops Q (⟨some d, .load t x, ty, pos, after, g⟩ :: rest) l w := .val hg rfl hN (Still.loadAgg h1 hx hb hn) h
theorem Sq.store {t u : TypeId} {b o : Nat} {x y : Operand} {v : Value} {cs : List Value} (h1 : One P t) (hg : On ops l g) (hx : ev l x = some (.pointer (some ⟨b, o, none⟩))) (hy : ev l y = some v) (hv : v.oneCell' = true)
    (hb : Blk w b u cs) (ho : o < cs.length)
    (h : ∀ w', w.grownBy w' (some b) → Blk w' b u (cs.set o v) → Sq P N ops Q rest l w') : Sq P N ops Q (⟨none, .store t x y, ty, pos, after, g⟩ :: rest) l w :=
  .unit (w' := w.setCell ⟨b, o, none⟩ v) hg rfl (fun a ha => by
    have hc : v.cells = #[v] := by cases v <;> simp_all [Value.cells, Value.oneCell']
    have h2 := hb.cell o
    rw [List.getElem?_eq_getElem ho] at h2
    simp [execOp, ha.ev hx, ha.ev hy, Instr.storeAt, Instr.sureAddr, storeVar, hc, h1.size, storeCells, addr_add, run_store _ _ _ _ _ hv, h2, hb.free])
    (h _ (grown_setCell _ _ _ _) (hb.set _ _))
theorem storeCells_all (b t : Nat) : ∀ (vs : List Value) (i : Nat) (w : World) (cs : List Value), Blk w b t cs → i + vs.length ≤ cs.length → (∀ v ∈ vs, v.oneCell' = true) →
    ∃ w', (storeCells ⟨b, 0, none⟩ vs i).run P w = .ok () w' ∧ w.grownBy w' (some b) ∧ Blk w' b t (cs.take i ++ vs ++ cs.drop (i + vs.length)) := by
  intro vs
  induction vs with
  | nil => intro i w cs hb hi _; exact ⟨w, by simp [storeCells], World.grownBy.refl _ _, by simpa using hb⟩
  | cons v r ih =>
    intro i w cs hb hi h1
    simp only [List.length_cons] at hi
    have hlt : i < cs.length := by omega
    have h2 := hb.cell i
    rw [List.getElem?_eq_getElem hlt] at h2
    obtain ⟨w', hr, hg, hb'⟩ := ih (i + 1) (w.setCell ⟨b, i, none⟩ v) (cs.set i v) (hb.set i v) (by simp; omega) (fun u hu => h1 u (List.mem_cons_of_mem _ hu))
    refine ⟨w', ?_, grown_trans (grown_setCell _ _ _ _) hg, ?_⟩
    · simp [storeCells, addr_add, run_store _ _ _ _ _ (h1 v (List.mem_cons_self ..)), h2, hb.free, hr]
    · have e : (cs.set i v).take (i + 1) ++ r ++ (cs.set i v).drop (i + 1 + r.length) = cs.take i ++ v :: r ++ cs.drop (i + (r.length + 1)) := by
        have h3 : (cs.set i v).take (i + 1) = cs.take i ++ [v] := by
          rw [List.take_succ_eq_append_getElem (by simpa using hlt)]
          simp [List.take_set_of_le (Nat.le_refl i)]
        have h4 : (cs.set i v).drop (i + 1 + r.length) = cs.drop (i + (r.length + 1)) := by
          rw [List.drop_set_of_lt (by omega)]
          congr 1
          omega
        rw [h3, h4]
        simp
      rw [e] at hb'
      exact hb'
theorem Sq.storeAgg {t u : TypeId} {b n : Nat} {x y : Operand} {vs cs : List Value} (h1 : Agg P t n) (hg : On ops l g) (hx : ev l x = some (.pointer (some ⟨b, 0, none⟩))) (hy : ev l y = some (.agg vs.toArray)) (hv : ∀ v ∈ vs, v.oneCell' = true)
    (hb : Blk w b u cs) (hn : vs.length = n) (hm : cs.length = n)
    (h : ∀ w', w.grownBy w' (some b) → Blk w' b u vs → Sq P N ops Q rest l w') : Sq P N ops Q (⟨none, .store t x y, ty, pos, after, g⟩ :: rest) l w := by
  obtain ⟨w', hr, hgr, hb'⟩ := storeCells_all (P := P) b u vs 0 w cs hb (by omega) hv
  refine .unit (w' := w') hg rfl (fun a ha => ?_) (h w' hgr ?_)
  · simp [execOp, ha.ev hx, ha.ev hy, Instr.storeAt, Instr.sureAddr, storeVar, h1.size, Value.cells, hn, hr]
  · have : cs.drop vs.length = [] := List.drop_eq_nil_of_le (by omega)
    simpa [this] using hb'
theorem Sq.alloc {t : TypeId} {zs : List Value} (hz : ∀ w, (zeroValue t).run P w = .ok (.agg zs.toArray) w) (hg : On ops l g) (hN : Nat.blt d N = true)
    (h : ∀ b w', Ext w w' → Blk w' b t zs → w.heap.size ≤ b → Sq P N ops Q rest ((d, .pointer (some ⟨b, 0, none⟩)) :: l) w') :
    Sq P N ops Q (⟨some d, .alloc t, ty, pos, after, g⟩ :: rest) l w :=
  .val (w' := w.alloc (.cells zs.toArray t)) hg rfl hN (fun a ha => by simp [execOp, Instr.alloc, newVar, newRow, hz, Value.cells])
    (h _ _ (Ext.alloc _ _) (Blk.new _ _ _) (Nat.le_refl _))
theorem Still.len {t : TypeId} {x : Operand} {p : Option Addr} {n c : Nat} (ht : P.underlying t = some (.slice (P.elem t))) (hx : ev l x = some (.slice p n c)) : Still P N l ⟨some d, .call ⟨.builtin .len, #[x], #[t]⟩, ty, pos, after, g⟩ (.int .i64 n) w := fun a ha => by
    rw [BigFrame.execOp_builtin, BigFrame.builtin_len]
    simp only [List.map_toArray, List.map_cons, List.map_nil, ha.ev hx, Sem.run_bind, run_len_slice w t ty p n c ht, Result.andThen, Sem.run_pure]; rfl
theorem Sq.len {t : TypeId} {x : Operand} {p : Option Addr} {n c : Nat} (hg : On ops l g) (hN : Nat.blt d N = true) (ht : P.underlying t = some (.slice (P.elem t))) (hx : ev l x = some (.slice p n c)) (h : Sq P N ops Q rest ((d, .int .i64 n) :: l) w) : Sq P N ops Q (⟨some d, .call ⟨.builtin .len, #[x], #[t]⟩, ty, pos, after, g⟩ :: rest) l w := .val hg rfl hN (Still.len ht hx) h
theorem Sq.lenRow {t e : TypeId} {x : Operand} {v : Value} {vs : List Value} (hr : Row w e v vs) (hg : On ops l g) (hN : Nat.blt d N = true) (ht : P.underlying t = some (.slice (P.elem t))) (hx : ev l x = some v)
    (h : Sq P N ops Q rest ((d, .int .i64 vs.length) :: l) w) : Sq P N ops Q (⟨some d, .call ⟨.builtin .len, #[x], #[t]⟩, ty, pos, after, g⟩ :: rest) l w := by
  obtain ⟨p, c, rfl⟩ := hr.shape
  exact .len hg hN ht hx h
theorem Sq.idx {t e0 e lt : TypeId} {z : Value} {x ix : Operand} {v u : Value} {vs : List Value} {k : IntKind} {i : Int} {d2 : Nat} {ty2 : TypeId} {pos2 : String} {after2 : Array Edge} {g2 : Option (Nat × Bool)}
    (hs : SlT P t e0 z) (h1 : One P lt) (hr : Row w e v vs) (hg : On ops l g) (hN : Nat.blt d N = true) (hN2 : Nat.blt d2 N = true) (hd : look l d = none) (hg2 : On ops l g2) (hx : ev l x = some v) (hix : ev l ix = some (.int k i)) (hi : 0 ≤ i)
    (hu : vs[i.toNat]? = some u) (h : Sq P N ops Q rest ((d2, u) :: l) w) :
    Sq P N ops Q (⟨some d, .indexAddr t x ix, ty, pos, after, g⟩ :: ⟨some d2, .load lt (.tmp d), ty2, pos2, after2, g2⟩ :: rest) l w := by
  have hlt : i.toNat < vs.length := by
    rcases Nat.lt_or_ge i.toNat vs.length with h | h
    · exact h
    · rw [List.getElem?_eq_none h] at hu; cases hu
  rcases hr with ⟨rfl, _⟩ | ⟨b, o, c, cur, fr, rfl, hb, hc⟩
  · cases hu
  · have hcell : w.cell? ⟨b, o + i.toNat, none⟩ = some u := by simp [World.cell?, hb, hc _ _ hu]
    have hd' : d < N := Nat.lt_of_lt_of_le (Nat.lt_succ_self d) (Nat.le_of_ble_eq_true hN)
    refine .mute (w' := w) (v := .pointer (some ⟨b, o + i.toNat, none⟩)) hg rfl hd (fun a ha => ?_) fun a ha hva => ?_
    · have := run_indexAt_slice (P := P) (w := w) t ⟨b, o, none⟩ vs.length c k i (by rw [hs.elem]; exact hs.und)
      have hi' : 0 ≤ i ∧ i < (vs.length : Int) := ⟨hi, by omega⟩
      rw [hs.elem, hs.sizeOf] at this
      simp [execOp, ha.ev hx, ha.ev hix, this, hi', addr_add]
    · have hva' := hva.resolve_right (by omega)
      have hst : St N l a := ha
      refine wpList_step fun K hK => ?_
      rw [if_pos (hg2.wanted hst)]
      unfold Oper.wp
      have hev : a.eval (.tmp d) = .pointer (some ⟨b, o + i.toNat, none⟩) := hva'
      have : (execOp a.eval ⟨some d2, .load lt (.tmp d), ty2, pos2, after2, g2⟩).run P w = .ok (.value u) w := by
        simp [execOp, hev, run_load1 h1 hcell]
      rw [this, Oper.upon_value]
      exact hK _ _ (h _ (hst.put hN2))
end
end ops
end Go.Proofs.YtdkdpmmfebdeaaaDoor
set_option linter.unusedSimpArgs false
set_option linter.unusedVariables false
namespace Go.Proofs.YtdkdpmmfebdeaaaDoor
open Go.RowKit
def hs (s n : Int) : Bool := decide (0 ≤ n) && s.toNat.testBit n.toNat
theorem hs_shift (s n : Int) (h0 : 0 ≤ s) (h1 : s ≤ 9223372036854775807) (hn : 0 ≤ n) : decide (s / 2 ^ (min n.toNat 64) % 2 = 1) = hs s n := by
  obtain ⟨m, rfl⟩ := Int.eq_ofNat_of_zero_le h0
  simp only [hs, decide_eq_true hn, Bool.true_and, Int.toNat_natCast, Nat.testBit_eq_decide_div_mod_eq]
  rw [decide_eq_decide]
  have e : ((m : Int) / 2 ^ (min n.toNat 64) % 2 = 1) ↔ m / 2 ^ (min n.toNat 64) % 2 = 1 := by
    constructor
    · intro h; exact_mod_cast h
    · intro h; exact_mod_cast h
  rw [e]
  rcases Nat.le_total n.toNat 64 with h | h
  · rw [Nat.min_eq_left h]
  · rw [Nat.min_eq_right h]
    have h64 : m < 2 ^ 64 := by omega
    have hp : 2 ^ 64 ≤ 2 ^ n.toNat := Nat.pow_le_pow_right (by omega) h
    rw [Nat.div_eq_of_lt h64, Nat.div_eq_of_lt (by omega)]
theorem shr_ok {s : Int} {k : Nat} (h : 0 ≤ s ∧ s ≤ 9223372036854775807) : 0 ≤ s / 2 ^ k ∧ s / 2 ^ k ≤ 9223372036854775807 := by
  have hp : (0 : Int) < 2 ^ k := Int.pow_pos (by decide)
  exact ⟨Int.ediv_nonneg h.1 (Int.le_of_lt hp), Int.le_trans (Int.ediv_le_self _ h.1) h.2⟩
section ops
variable {P : Program} {N : Nat} {ops : Array Oper} {Q : Exit → Act → World → Prop} {rest : List Oper} {l : Slots} {w : World}
variable {d : Nat} {ty : TypeId} {pos : String} {after : Array Edge} {g : Option (Nat × Bool)}
theorem Still.shr {xt yt : TypeId} {x y : Operand} {m n : Int} {k : IntKind} (hx : ev l x = some (.int .i64 m)) (hy : ev l y = some (.int k n)) (hb : 0 ≤ n) : Still P N l ⟨some d, .binOp .shr xt x y yt, ty, pos, after, g⟩ (.int .i64 (m / 2 ^ (min n.toNat 64))) w := fun a ha => by
    have h1 : ¬ n < 0 := by omega
    have h2 : m.fdiv (2 ^ (min n.toNat 64)) = m / 2 ^ (min n.toNat 64) := Int.fdiv_eq_ediv_of_nonneg m (by
      have : (0 : Int) < 2 ^ (min n.toNat 64) := Int.pow_pos (by decide)
      omega)
    have h3 : eqGuard .shr xt x y (.int .i64 m) (.int k n) = pure () := rfl
    have h4 : binOp .shr xt (.int .i64 m) (.int k n) = Op.shift .shr .i64 m k n := rfl
    simp only [execOp, ha.ev hx, ha.ev hy, h3, h4, Op.shift, if_neg h1, IntKind.bits]
    simp [h2]
theorem Sq.shr {xt yt : TypeId} {x y : Operand} {m n : Int} {k : IntKind} (hg : On ops l g) (hN : Nat.blt d N = true) (hx : ev l x = some (.int .i64 m)) (hy : ev l y = some (.int k n)) (hb : 0 ≤ n) (h : Sq P N ops Q rest ((d, .int .i64 (m / 2 ^ (min n.toNat 64))) :: l) w) : Sq P N ops Q (⟨some d, .binOp .shr xt x y yt, ty, pos, after, g⟩ :: rest) l w := .val hg rfl hN (Still.shr hx hy hb) h
theorem Still.shl {xt yt : TypeId} {x y : Operand} {m n : Int} {k : IntKind} (hx : ev l x = some (.int .i64 m)) (hy : ev l y = some (.int k n)) (hb : 0 ≤ m ∧ m ≤ 1 ∧ 0 ≤ n ∧ n ≤ 60) : Still P N l ⟨some d, .binOp .shl xt x y yt, ty, pos, after, g⟩ (.int .i64 (m * 2 ^ n.toNat)) w := fun a ha => by
    have h1 : ¬ n < 0 := by omega
    have h2 : min n.toNat 64 = n.toNat := by omega
    have h3 : (2 : Int) ^ n.toNat ≤ 2 ^ 60 := by exact_mod_cast Nat.pow_le_pow_right (by omega : 0 < 2) (by omega : n.toNat ≤ 60)
    have h4 : (0 : Int) < 2 ^ n.toNat := Int.pow_pos (by decide)
    have h5 : m = 0 ∨ m = 1 := by omega
    have h6 : IntKind.i64.wrap (m * 2 ^ n.toNat) = m * 2 ^ n.toNat := IntWalk.i64_in _ (by rcases h5 with rfl | rfl <;> omega)
    have h7 : eqGuard .shl xt x y (.int .i64 m) (.int k n) = pure () := rfl
    have h8 : binOp .shl xt (.int .i64 m) (.int k n) = Op.shift .shl .i64 m k n := rfl
    simp only [execOp, ha.ev hx, ha.ev hy, h7, h8, Op.shift, if_neg h1, IntKind.bits, h2]
    simp [h6]
theorem Sq.shl {xt yt : TypeId} {x y : Operand} {m n : Int} {k : IntKind} (hg : On ops l g) (hN : Nat.blt d N = true) (hx : ev l x = some (.int .i64 m)) (hy : ev l y = some (.int k n)) (hb : 0 ≤ m ∧ m ≤ 1 ∧ 0 ≤ n ∧ n ≤ 60) (h : Sq P N ops Q rest ((d, .int .i64 (m * 2 ^ n.toNat)) :: l) w) : Sq P N ops Q (⟨some d, .binOp .shl xt x y yt, ty, pos, after, g⟩ :: rest) l w := .val hg rfl hN (Still.shl hx hy hb) h
theorem bits_nat (f : ∀ k : Nat, BitVec k → BitVec k → BitVec k) (F : Nat → Nat → Nat) (hf : ∀ a b : Nat, a < 2 ^ 63 → b < 2 ^ 63 → (f 64 (BitVec.ofNat 64 a) (BitVec.ofNat 64 b)).toNat = F a b) (hF : ∀ a b : Nat, a < 2 ^ 63 → b < 2 ^ 63 → F a b < 2 ^ 63)
    (m n : Int) (h : 0 ≤ m ∧ m ≤ 9223372036854775807 ∧ 0 ≤ n ∧ n ≤ 9223372036854775807) :
    IntKind.i64.wrap ((f 64 (BitVec.ofInt 64 m) (BitVec.ofInt 64 n)).toNat : Int) = (F m.toNat n.toNat : Nat) := by
  obtain ⟨a, rfl⟩ := Int.eq_ofNat_of_zero_le h.1
  obtain ⟨b, rfl⟩ := Int.eq_ofNat_of_zero_le h.2.2.1
  have ha : a < 2 ^ 63 := by omega
  have hb : b < 2 ^ 63 := by omega
  rw [BitVec.ofInt_natCast, BitVec.ofInt_natCast, hf a b ha hb]
  have := hF a b ha hb
  rw [IntWalk.i64_in _ (by omega)]
  simp
theorem Still.and {xt yt : TypeId} {x y : Operand} {m n : Int} (hx : ev l x = some (.int .i64 m)) (hy : ev l y = some (.int .i64 n)) (hb : 0 ≤ m ∧ m ≤ 9223372036854775807 ∧ 0 ≤ n ∧ n ≤ 9223372036854775807) : Still P N l ⟨some d, .binOp .and xt x y yt, ty, pos, after, g⟩ (.int .i64 ((m.toNat &&& n.toNat : Nat) : Int)) w := fun a ha => by
    have := bits_nat (fun _ a b => a &&& b) (fun a b => a &&& b) (fun a b ha hb => by simp [Nat.mod_eq_of_lt (show a < 18446744073709551616 by omega), Nat.mod_eq_of_lt (show b < 18446744073709551616 by omega)])
      (fun a b ha hb => Nat.and_lt_two_pow _ hb) m n hb
    simp only [execOp, eqGuard, binOp, Op.intBits, ha.ev hx, ha.ev hy]
    simp
    exact this
theorem Sq.and {xt yt : TypeId} {x y : Operand} {m n : Int} (hg : On ops l g) (hN : Nat.blt d N = true) (hx : ev l x = some (.int .i64 m)) (hy : ev l y = some (.int .i64 n)) (hb : 0 ≤ m ∧ m ≤ 9223372036854775807 ∧ 0 ≤ n ∧ n ≤ 9223372036854775807) (h : Sq P N ops Q rest ((d, .int .i64 ((m.toNat &&& n.toNat : Nat) : Int)) :: l) w) : Sq P N ops Q (⟨some d, .binOp .and xt x y yt, ty, pos, after, g⟩ :: rest) l w := .val hg rfl hN (Still.and hx hy hb) h
theorem Still.or {xt yt : TypeId} {x y : Operand} {m n : Int} (hx : ev l x = some (.int .i64 m)) (hy : ev l y = some (.int .i64 n)) (hb : 0 ≤ m ∧ m ≤ 9223372036854775807 ∧ 0 ≤ n ∧ n ≤ 9223372036854775807) : Still P N l ⟨some d, .binOp .or xt x y yt, ty, pos, after, g⟩ (.int .i64 ((m.toNat ||| n.toNat : Nat) : Int)) w := fun a ha => by
    have := bits_nat (fun _ a b => a ||| b) (fun a b => a ||| b) (fun a b ha hb => by simp [Nat.mod_eq_of_lt (show a < 18446744073709551616 by omega), Nat.mod_eq_of_lt (show b < 18446744073709551616 by omega)])
      (fun a b ha hb => Nat.or_lt_two_pow ha hb) m n hb
    simp only [execOp, eqGuard, binOp, Op.intBits, ha.ev hx, ha.ev hy]
    simp
    exact this
theorem Sq.or {xt yt : TypeId} {x y : Operand} {m n : Int} (hg : On ops l g) (hN : Nat.blt d N = true) (hx : ev l x = some (.int .i64 m)) (hy : ev l y = some (.int .i64 n)) (hb : 0 ≤ m ∧ m ≤ 9223372036854775807 ∧ 0 ≤ n ∧ n ≤ 9223372036854775807) (h : Sq P N ops Q rest ((d, .int .i64 ((m.toNat ||| n.toNat : Nat) : Int)) :: l) w) : Sq P N ops Q (⟨some d, .binOp .or xt x y yt, ty, pos, after, g⟩ :: rest) l w := .val hg rfl hN (Still.or hx hy hb) h
theorem Still.xor {xt yt : TypeId} {x y : Operand} {m n : Int} (hx : ev l x = some (.int .i64 m)) (hy : ev l y = some (.int .i64 n)) (hb : 0 ≤ m ∧ m ≤ 9223372036854775807 ∧ 0 ≤ n ∧ n ≤ 9223372036854775807) : Still P N l ⟨some d, .binOp .xor xt x y yt, ty, pos, after, g⟩ (.int .i64 ((m.toNat ^^^ n.toNat : Nat) : Int)) w := fun a ha => by
    have := bits_nat (fun _ a b => a ^^^ b) (fun a b => a ^^^ b) (fun a b ha hb => by simp [Nat.mod_eq_of_lt (show a < 18446744073709551616 by omega), Nat.mod_eq_of_lt (show b < 18446744073709551616 by omega)])
      (fun a b ha hb => Nat.xor_lt_two_pow ha hb) m n hb
    simp only [execOp, eqGuard, binOp, Op.intBits, ha.ev hx, ha.ev hy]
    simp
    exact this
theorem Sq.xor {xt yt : TypeId} {x y : Operand} {m n : Int} (hg : On ops l g) (hN : Nat.blt d N = true) (hx : ev l x = some (.int .i64 m)) (hy : ev l y = some (.int .i64 n)) (hb : 0 ≤ m ∧ m ≤ 9223372036854775807 ∧ 0 ≤ n ∧ n ≤ 9223372036854775807) (h : Sq P N ops Q rest ((d, .int .i64 ((m.toNat ^^^ n.toNat : Nat) : Int)) :: l) w) : Sq P N ops Q (⟨some d, .binOp .xor xt x y yt, ty, pos, after, g⟩ :: rest) l w := .val hg rfl hN (Still.xor hx hy hb) h
theorem Sq.and1 {xt yt : TypeId} {x : Operand} {m : Int} (hg : On ops l g) (hN : Nat.blt d N = true) (hx : ev l x = some (.int .i64 m))
    (hb : 0 ≤ m ∧ m ≤ 9223372036854775807) (h : Sq P N ops Q rest ((d, .int .i64 (m % 2)) :: l) w) :
    Sq P N ops Q (⟨some d, .binOp .and xt x (.const (.int .i64 1)) yt, ty, pos, after, g⟩ :: rest) l w := by
  refine Sq.and hg hN hx (n := 1) rfl (by omega) ?_
  have e : ((m.toNat &&& (1 : Int).toNat : Nat) : Int) = m % 2 := by
    show ((m.toNat &&& 1 : Nat) : Int) = m % 2
    rw [Nat.and_one_is_mod]
    omega
  rw [e]
  exact h
def Cnv (P : Program) (s t : TypeId) (k : IntKind) : Prop := ∀ (j : IntKind) (n : Int) w, (convert s t (.int j n)).run P w = .ok (.int k (k.wrap n)) w
theorem Cnv.of {s t : TypeId} {k : IntKind} (hs : (P.underlying s).isSome = true) (hd : P.underlying t = some (.int k)) : Cnv P s t k := by
  intro j n w
  obtain ⟨d, hd'⟩ := Option.isSome_iff_exists.mp hs
  simp [convert, run_underlying hd', run_underlying hd, Conv.intToInt]
theorem Still.conv {s t : TypeId} {x : Operand} {j : IntKind} {n : Int} (hc : Cnv P s t .i64) (hx : ev l x = some (.int j n)) (hb : -9223372036854775808 ≤ n ∧ n ≤ 9223372036854775807) : Still P N l ⟨some d, .convert s t x, ty, pos, after, g⟩ (.int .i64 n) w := fun a ha => by simp [execOp, ha.ev hx, hc j n w, IntWalk.i64_in _ hb]
theorem Sq.conv {s t : TypeId} {x : Operand} {j : IntKind} {n : Int} (hc : Cnv P s t .i64) (hg : On ops l g) (hN : Nat.blt d N = true) (hx : ev l x = some (.int j n)) (hb : -9223372036854775808 ≤ n ∧ n ≤ 9223372036854775807) (h : Sq P N ops Q rest ((d, .int .i64 n) :: l) w) : Sq P N ops Q (⟨some d, .convert s t x, ty, pos, after, g⟩ :: rest) l w := .val hg rfl hN (Still.conv hc hx hb) h
theorem Still.convU {s t : TypeId} {x : Operand} {j : IntKind} {n : Int} (hc : Cnv P s t .u64) (hx : ev l x = some (.int j n)) (hb : 0 ≤ n ∧ n ≤ 18446744073709551615) : Still P N l ⟨some d, .convert s t x, ty, pos, after, g⟩ (.int .u64 n) w := fun a ha => by simp [execOp, ha.ev hx, hc j n w, IntWalk.u64_in _ hb]
theorem Sq.convU {s t : TypeId} {x : Operand} {j : IntKind} {n : Int} (hc : Cnv P s t .u64) (hg : On ops l g) (hN : Nat.blt d N = true) (hx : ev l x = some (.int j n)) (hb : 0 ≤ n ∧ n ≤ 18446744073709551615) (h : Sq P N ops Q rest ((d, .int .u64 n) :: l) w) : Sq P N ops Q (⟨some d, .convert s t x, ty, pos, after, g⟩ :: rest) l w := .val hg rfl hN (Still.convU hc hx hb) h
theorem Still.neqB {xt yt : TypeId} {x y : Operand} {b c : Bool} (ht : P.underlying xt = some .bool) (hx : ev l x = some (.bool b)) (hy : ev l y = some (.bool c)) : Still P N l ⟨some d, .binOp .neq xt x y yt, ty, pos, after, g⟩ (.bool (b != c)) w := fun a ha => by simp [execOp, ha.ev hx, ha.ev hy, eqGuard, binOp, run_equal_bool w xt b c ht, bne]
theorem Sq.neqB {xt yt : TypeId} {x y : Operand} {b c : Bool} (ht : P.underlying xt = some .bool) (hg : On ops l g) (hN : Nat.blt d N = true) (hx : ev l x = some (.bool b)) (hy : ev l y = some (.bool c)) (h : Sq P N ops Q rest ((d, .bool (b != c)) :: l) w) : Sq P N ops Q (⟨some d, .binOp .neq xt x y yt, ty, pos, after, g⟩ :: rest) l w := .val hg rfl hN (Still.neqB ht hx hy) h
theorem Still.cat {xt yt : TypeId} {x y : Operand} {s t : ByteArray} (hx : ev l x = some (.string s)) (hy : ev l y = some (.string t)) (hb : s.size + t.size ≤ 9223372036854775807) : Still P N l ⟨some d, .binOp .add xt x y yt, ty, pos, after, g⟩ (.string (s ++ t)) w := fun a ha => by simp [execOp, ha.ev hx, ha.ev hy, eqGuard, binOp_string_add, run_string_add_sum (P := P) (w := w) s t hb]
theorem Sq.cat {xt yt : TypeId} {x y : Operand} {s t : ByteArray} (hg : On ops l g) (hN : Nat.blt d N = true) (hx : ev l x = some (.string s)) (hy : ev l y = some (.string t)) (hb : s.size + t.size ≤ 9223372036854775807) (h : Sq P N ops Q rest ((d, .string (s ++ t)) :: l) w) : Sq P N ops Q (⟨some d, .binOp .add xt x y yt, ty, pos, after, g⟩ :: rest) l w := .val hg rfl hN (Still.cat hx hy hb) h
def StT (P : Program) (t : TypeId) (n : Nat) (zs : List Value) : Prop := ∀ parts w, (Instr.build t parts).run P w =
  (match Instr.fill (((List.range n).map fun i => (i, 1)).toArray[·]?) zs.toArray parts.toList with
   | some cells => (pure (.agg cells) : Sem Value)
   | none => stuck "build: no such field, or a part of the wrong size").run P w
def fieldsOf (P : Program) (t : TypeId) : Array Field := match P.underlying t with | some (.struct fs) => fs | _ => #[]
theorem StT.of {t : TypeId} {n : Nat} {zs : List Value} (h1 : P.underlying t = some (.struct (fieldsOf P t))) (h2 : ∀ w, ((fieldsOf P t).mapM fun f => do pure (f.offset, ← sizeOf f.type) : Sem _).run P w = .ok ((List.range n).map fun i => (i, 1)).toArray w)
    (h3 : ∀ w, (zeroValue t).run P w = .ok (.agg zs.toArray) w) : StT P t n zs := by
  intro parts w
  simp only [Instr.build, Sem.run_bind, h3, Result.andThen, run_underlying h1, h2, Value.cells]
  generalize Instr.fill _ zs.toArray parts.toList = r
  cases r <;> rfl
theorem fill_ones (n : Nat) : ∀ (parts : List (Nat × Value)) (cs : List Value), cs.length = n → (∀ p ∈ parts, p.1 < n ∧ p.2.oneCell' = true) →
    Instr.fill (((List.range n).map fun i => (i, 1)).toArray[·]?) cs.toArray parts = some (parts.foldl (fun cs p => cs.set p.1 p.2) cs).toArray := by
  intro parts
  induction parts with
  | nil => intro cs _ _; simp [Instr.fill]
  | cons p r ih =>
    intro cs hn h
    obtain ⟨i, v⟩ := p
    obtain ⟨h1, h2⟩ := h _ (List.mem_cons_self ..)
    simp only at h1 h2
    have hv : v.cells = #[v] := by cases v <;> simp_all [Value.cells, Value.oneCell']
    have hp : (((List.range n).map fun i => (i, 1)).toArray[i]?) = some (i, 1) := by simp [h1]
    have hlt : ¬ cs.length < i + 1 := by omega
    have := ih (cs.set i v) (by simpa using hn) (fun p hp => h p (List.mem_cons_of_mem _ hp))
    simp only [Instr.fill, hp, hv]
    simpa [hlt] using this
theorem Still.build {t : TypeId} {n : Nat} {zs : List Value} {parts : List (Nat × Operand)} {vs cs : List Value} (hs : StT P t n zs) (hz : zs.length = n) (hp : (parts.map (·.1)).all (Nat.blt · n) = true) (hx : (evs l (parts.map (·.2))) = some vs) (h1 : ∀ v ∈ vs, v.oneCell' = true) (hv : ((parts.map (·.1)).zip vs).foldl (fun cs p => cs.set p.1 p.2) zs = cs) : Still P N l ⟨some d, .build t parts.toArray, ty, pos, after, g⟩ (.agg cs.toArray) w := fun a ha => by
    have e : (parts.toArray.map fun (i, x) => (i, a.eval x)) = ((parts.map (·.1)).zip vs).toArray := by
      rw [← ha.evs hx]
      simp [List.zip_map', List.map_map]
    have hb : ∀ p ∈ (parts.map (·.1)).zip vs, p.1 < n ∧ p.2.oneCell' = true := by
      rintro ⟨i, v⟩ hm
      have hm1 := (List.of_mem_zip hm).1
      have hm2 := (List.of_mem_zip hm).2
      exact ⟨Nat.lt_of_lt_of_le (Nat.lt_succ_self _) (Nat.le_of_ble_eq_true (List.all_eq_true.1 hp _ hm1)), h1 _ hm2⟩
    have hf := fill_ones n ((parts.map (·.1)).zip vs) zs hz hb
    rw [hv] at hf
    have hr := hs ((parts.map (·.1)).zip vs).toArray w
    rw [List.toList_toArray, hf] at hr
    simp only [execOp]
    rw [e]
    simp [hr]
theorem Sq.build {t : TypeId} {n : Nat} {zs : List Value} {parts : List (Nat × Operand)} {vs cs : List Value} (hs : StT P t n zs) (hz : zs.length = n) (hp : (parts.map (·.1)).all (Nat.blt · n) = true) (hg : On ops l g) (hN : Nat.blt d N = true) (hx : (evs l (parts.map (·.2))) = some vs) (h1 : ∀ v ∈ vs, v.oneCell' = true) (hv : ((parts.map (·.1)).zip vs).foldl (fun cs p => cs.set p.1 p.2) zs = cs) (h : Sq P N ops Q rest ((d, .agg cs.toArray) :: l) w) : Sq P N ops Q (⟨some d, .build t parts.toArray, ty, pos, after, g⟩ :: rest) l w := .val hg rfl hN (Still.build hs hz hp hx h1 hv) h
end ops
def Ints (w : World) (e : TypeId) (v : Value) (xs : List Int) : Prop := Row w e v (xs.map (Value.int .i64))
def Bools (w : World) (e : TypeId) (v : Value) (xs : List Bool) : Prop := Row w e v (xs.map Value.bool)
def Strs (w : World) (e : TypeId) (v : Value) (xs : List ByteArray) : Prop := Row w e v (xs.map Value.string)
def Bytes (w : World) (e : TypeId) (v : Value) (xs : List UInt8) : Prop := Row w e v (xs.map fun b => Value.int .u8 b.toNat)
def Rows (w : World) (e e' : TypeId) (v : Value) (xss : List (List Int)) : Prop :=
  ∃ rs, Row w e v rs ∧ rs.length = xss.length ∧ ∀ i r, rs[i]? = some r → Ints w e' r (xss.getD i [])
section
variable {w w' : World} {e e' : TypeId} {v : Value}
theorem Ints.ext {xs : List Int} (h : Ints w e v xs) (x : Ext w w') : Ints w' e v xs := Row.ext h x
theorem Bools.ext {xs : List Bool} (h : Bools w e v xs) (x : Ext w w') : Bools w' e v xs := Row.ext h x
theorem Strs.ext {xs : List ByteArray} (h : Strs w e v xs) (x : Ext w w') : Strs w' e v xs := Row.ext h x
theorem Bytes.ext {xs : List UInt8} (h : Bytes w e v xs) (x : Ext w w') : Bytes w' e v xs := Row.ext h x
theorem Rows.ext {xss : List (List Int)} (h : Rows w e e' v xss) (x : Ext w w') : Rows w' e e' v xss := by
  obtain ⟨rs, h1, h2, h3⟩ := h
  exact ⟨rs, h1.ext x, h2, fun i r hr => (h3 i r hr).ext x⟩
theorem Row.stored {vs : List Value} (h : Row w e v vs) {g : Nat} {t : TypeId} {cs : List Value} (hg : w.grownBy w' (some g)) (hb : Blk w g t cs) (hne : t ≠ e) : Row w' e v vs := h.grown hg hb hne
theorem Ints.stored {xs : List Int} (h : Ints w e v xs) {g : Nat} {t : TypeId} {cs : List Value} (hg : w.grownBy w' (some g)) (hb : Blk w g t cs) (hne : t ≠ e) : Ints w' e v xs := Row.grown h hg hb hne
theorem Bools.stored {xs : List Bool} (h : Bools w e v xs) {g : Nat} {t : TypeId} {cs : List Value} (hg : w.grownBy w' (some g)) (hb : Blk w g t cs) (hne : t ≠ e) : Bools w' e v xs := Row.grown h hg hb hne
theorem Strs.stored {xs : List ByteArray} (h : Strs w e v xs) {g : Nat} {t : TypeId} {cs : List Value} (hg : w.grownBy w' (some g)) (hb : Blk w g t cs) (hne : t ≠ e) : Strs w' e v xs := Row.grown h hg hb hne
theorem Bytes.stored {xs : List UInt8} (h : Bytes w e v xs) {g : Nat} {t : TypeId} {cs : List Value} (hg : w.grownBy w' (some g)) (hb : Blk w g t cs) (hne : t ≠ e) : Bytes w' e v xs := Row.grown h hg hb hne
theorem Rows.stored {xss : List (List Int)} (h : Rows w e e' v xss) {g : Nat} {t : TypeId} {cs : List Value} (hg : w.grownBy w' (some g)) (hb : Blk w g t cs) (hne : t ≠ e) (hne' : t ≠ e') : Rows w' e e' v xss := by
  obtain ⟨rs, h1, h2, h3⟩ := h
  exact ⟨rs, h1.grown hg hb hne, h2, fun i r hr => (h3 i r hr).stored hg hb hne'⟩
theorem Own.stored {B : Nat} {vs : List Value} (h : Own w B e v vs) {g : Nat} {t : TypeId} {cs : List Value} (hg : w.grownBy w' (some g)) (hb : Blk w g t cs) (hne : t ≠ e) : Own w' B e v vs := by
  rcases h.cases with ⟨rfl, rfl⟩ | ⟨g', cap, cs', rfl, hg', hb', h3, h4, h5, h6⟩
  · exact Own.nil _ _ _
  · exact Own.mk hg' (hb'.grown hg (fun x => hb.ne hb' hne (Option.some.inj x))) h3 h4 h5 h6
variable {B : Nat} {t : TypeId} {u : Value} {us : List Value}
theorem Ints.owned {xs : List Int} (h : Ints w e v xs) (ho : Own w B t u us) (hg : w.grownBy w' u.ownBlock) (hne : t ≠ e) : Ints w' e v xs := Row.owned h ho hg hne
theorem Bools.owned {xs : List Bool} (h : Bools w e v xs) (ho : Own w B t u us) (hg : w.grownBy w' u.ownBlock) (hne : t ≠ e) : Bools w' e v xs := Row.owned h ho hg hne
theorem Strs.owned {xs : List ByteArray} (h : Strs w e v xs) (ho : Own w B t u us) (hg : w.grownBy w' u.ownBlock) (hne : t ≠ e) : Strs w' e v xs := Row.owned h ho hg hne
theorem Bytes.owned {xs : List UInt8} (h : Bytes w e v xs) (ho : Own w B t u us) (hg : w.grownBy w' u.ownBlock) (hne : t ≠ e) : Bytes w' e v xs := Row.owned h ho hg hne
theorem Rows.owned {xss : List (List Int)} (h : Rows w e e' v xss) (ho : Own w B t u us) (hg : w.grownBy w' u.ownBlock) (hne : t ≠ e) (hne' : t ≠ e') : Rows w' e e' v xss := by
  obtain ⟨rs, h1, h2, h3⟩ := h
  exact ⟨rs, h1.owned ho hg hne, h2, fun i r hr => (h3 i r hr).owned ho hg hne'⟩
theorem Own.owned {B' : Nat} {vs : List Value} (h : Own w B' e v vs) (ho : Own w B t u us) (hg : w.grownBy w' u.ownBlock) (hne : t ≠ e) : Own w' B' e v vs := by
  rcases ho.cases with ⟨rfl, rfl⟩ | ⟨g, cap, cs, rfl, _, hb, _⟩
  · exact h.ext (Ext.of_grown hg)
  · exact h.stored hg hb hne
end
section ops
variable {P : Program} {N : Nat} {ops : Array Oper} {Q : Exit → Act → World → Prop} {rest : List Oper} {l : Slots} {w : World}
variable {d : Nat} {ty : TypeId} {pos : String} {after : Array Edge} {g : Option (Nat × Bool)}
theorem Sq.lenInts {t e : TypeId} {x : Operand} {v : Value} {xs : List Int} (hr : Ints w e v xs) (hg : On ops l g) (hN : Nat.blt d N = true) (ht : P.underlying t = some (.slice (P.elem t))) (hx : ev l x = some v)
    (h : Sq P N ops Q rest ((d, .int .i64 xs.length) :: l) w) : Sq P N ops Q (⟨some d, .call ⟨.builtin .len, #[x], #[t]⟩, ty, pos, after, g⟩ :: rest) l w := .lenRow hr hg hN ht hx (by simpa using h)
theorem Sq.lenBools {t e : TypeId} {x : Operand} {v : Value} {xs : List Bool} (hr : Bools w e v xs) (hg : On ops l g) (hN : Nat.blt d N = true) (ht : P.underlying t = some (.slice (P.elem t))) (hx : ev l x = some v)
    (h : Sq P N ops Q rest ((d, .int .i64 xs.length) :: l) w) : Sq P N ops Q (⟨some d, .call ⟨.builtin .len, #[x], #[t]⟩, ty, pos, after, g⟩ :: rest) l w := .lenRow hr hg hN ht hx (by simpa using h)
theorem Sq.lenRows {t e e' : TypeId} {x : Operand} {v : Value} {xs : List (List Int)} (hr : Rows w e e' v xs) (hg : On ops l g) (hN : Nat.blt d N = true) (ht : P.underlying t = some (.slice (P.elem t))) (hx : ev l x = some v)
    (h : Sq P N ops Q rest ((d, .int .i64 xs.length) :: l) w) : Sq P N ops Q (⟨some d, .call ⟨.builtin .len, #[x], #[t]⟩, ty, pos, after, g⟩ :: rest) l w := by
  obtain ⟨rs, h1, h2, _⟩ := hr
  exact .lenRow h1 hg hN ht hx (by rw [h2]; exact h)
section
variable {t e lt : TypeId} {z : Value} {x ix : Operand} {v : Value} {k : IntKind} {i : Int} {d2 : Nat} {ty2 : TypeId} {pos2 : String} {after2 : Array Edge} {g2 : Option (Nat × Bool)}
theorem Sq.idxInts {xs : List Int} (hs : SlT P t e z) (h1 : One P lt) (hr : Ints w e v xs) (hg : On ops l g) (hN : Nat.blt d N = true) (hN2 : Nat.blt d2 N = true) (hd : look l d = none) (hg2 : On ops l g2) (hx : ev l x = some v) (hix : ev l ix = some (.int k i)) (hi : 0 ≤ i)
    (hlt : i.toNat < xs.length) (h : Sq P N ops Q rest ((d2, .int .i64 (xs.getD i.toNat 0)) :: l) w) :
    Sq P N ops Q (⟨some d, .indexAddr t x ix, ty, pos, after, g⟩ :: ⟨some d2, .load lt (.tmp d), ty2, pos2, after2, g2⟩ :: rest) l w :=
  .idx hs h1 hr hg hN hN2 hd hg2 hx hix hi (by simp [hlt]) h
theorem Sq.idxBools {xs : List Bool} (hs : SlT P t e z) (h1 : One P lt) (hr : Bools w e v xs) (hg : On ops l g) (hN : Nat.blt d N = true) (hN2 : Nat.blt d2 N = true) (hd : look l d = none) (hg2 : On ops l g2) (hx : ev l x = some v) (hix : ev l ix = some (.int k i)) (hi : 0 ≤ i)
    (hlt : i.toNat < xs.length) (h : Sq P N ops Q rest ((d2, .bool (xs.getD i.toNat false)) :: l) w) :
    Sq P N ops Q (⟨some d, .indexAddr t x ix, ty, pos, after, g⟩ :: ⟨some d2, .load lt (.tmp d), ty2, pos2, after2, g2⟩ :: rest) l w :=
  .idx hs h1 hr hg hN hN2 hd hg2 hx hix hi (by simp [hlt]) h
theorem Sq.idxRows {e' : TypeId} {xss : List (List Int)} (hs : SlT P t e z) (h1 : One P lt) (hr : Rows w e e' v xss) (hg : On ops l g) (hN : Nat.blt d N = true) (hN2 : Nat.blt d2 N = true) (hd : look l d = none) (hg2 : On ops l g2) (hx : ev l x = some v) (hix : ev l ix = some (.int k i)) (hi : 0 ≤ i)
    (hlt : i.toNat < xss.length) (h : ∀ r, Ints w e' r (xss.getD i.toNat []) → Sq P N ops Q rest ((d2, r) :: l) w) :
    Sq P N ops Q (⟨some d, .indexAddr t x ix, ty, pos, after, g⟩ :: ⟨some d2, .load lt (.tmp d), ty2, pos2, after2, g2⟩ :: rest) l w := by
  obtain ⟨rs, r1, r2, r3⟩ := hr
  have hl : i.toNat < rs.length := by omega
  exact .idx hs h1 r1 hg hN hN2 hd hg2 hx hix hi (List.getElem?_eq_getElem hl) (h _ (r3 _ _ (List.getElem?_eq_getElem hl)))
end
theorem Sq.lit {t e : TypeId} {z : Value} {parts : List (Nat × Operand)} {vs : List Value} {n : Nat} (hs : SlT P t e z) (hp : parts.map (·.1) = List.range n) (hn : Nat.ble n 1000 = true) (hg : On ops l g) (hN : Nat.blt d N = true)
    (hx : evs l (parts.map (·.2)) = some vs) (h1 : ∀ v ∈ vs, v.oneCell' = true)
    (h : ∀ b w', Ext w w' → w.heap.size ≤ b → (∀ B, B ≤ w.heap.size → Own w' B e (.slice (some ⟨b, 0, none⟩) vs.length vs.length) vs) → Blk w' b e vs → Sq P N ops Q rest ((d, .slice (some ⟨b, 0, none⟩) vs.length vs.length) :: l) w') :
    Sq P N ops Q (⟨some d, .buildSlice t n parts.toArray, ty, pos, after, g⟩ :: rest) l w := by
  have hlen : vs.length = n := by
    have h2 : parts.length = n := by have := congrArg List.length hp; simpa using this
    have key : ∀ (xs : List Operand) (vs : List Value), evs l xs = some vs → vs.length = xs.length := by
      intro xs
      induction xs with
      | nil => intro vs h; simp [evs] at h; simp [← h]
      | cons x r ih =>
        intro vs h
        simp only [evs] at h
        cases h3 : ev l x with
        | none => rw [h3] at h; simp at h
        | some v =>
          cases h4 : evs l r with
          | none => rw [h3, h4] at h; simp at h
          | some vs' => rw [h3, h4] at h; simp at h; subst h; simp [ih _ h4]
    have := key _ _ hx
    simpa [h2] using this
  subst hlen
  obtain ⟨i, hi, hz, hsz, hby⟩ := hs.info
  have hn' := Nat.le_of_ble_eq_true hn
  refine .val (w' := w.alloc (.cells vs.toArray e)) hg rfl hN (fun a ha => ?_) (h _ _ (Ext.alloc _ _) (Nat.le_refl _) (fun B hB => Own.mk hB (Blk.new _ _ _) (Nat.le_refl _) (by unfold maxLen; omega) rfl (by simp)) (Blk.new _ _ _))
  have e1 : (parts.toArray.map fun (i, x) => (i, a.eval x)) = ((List.range vs.length).zip vs).toArray := by
    rw [← hp, ← ha.evs hx]
    simp [List.zip_map', List.map_map]
  have hfill : ∀ (vs : List Value) (k : Nat) (cs : Array Value), (∀ v ∈ vs, v.oneCell' = true) → k + vs.length ≤ cs.size →
      ∃ cs', Instr.fill (fun i => some (i * 1, 1)) cs ((List.range' k vs.length).zip vs) = some cs' ∧ cs'.toList = cs.toList.take k ++ vs ++ cs.toList.drop (k + vs.length) := by
    intro vs
    induction vs with
    | nil => intro k cs _ _; exact ⟨cs, by simp [Instr.fill], by simp⟩
    | cons v r ih =>
      intro k cs h1 hk
      simp only [List.length_cons] at hk
      have hv : v.cells = #[v] := by
        have := h1 v (List.mem_cons_self ..)
        cases v <;> simp_all [Value.cells, Value.oneCell']
      obtain ⟨cs', f1, f2⟩ := ih (k + 1) (cs.setIfInBounds k v) (fun u hu => h1 u (List.mem_cons_of_mem _ hu)) (by simp; omega)
      refine ⟨cs', ?_, ?_⟩
      · have : ¬ cs.size < k + 1 := by omega
        simp only [List.length_cons, List.range'_succ, List.zip_cons_cons, Instr.fill, hv]
        simpa [this] using f1
      · rw [f2]
        have hlt : k < cs.toList.length := by simp; omega
        have h3 : (cs.toList.set k v).take (k + 1) = cs.toList.take k ++ [v] := by
          rw [List.take_succ_eq_append_getElem (by simpa using hlt)]
          simp [List.take_set_of_le (Nat.le_refl k)]
        have h4 : (cs.toList.set k v).drop (k + 1 + r.length) = cs.toList.drop (k + (r.length + 1)) := by
          rw [List.drop_set_of_lt (by omega)]
          congr 1
          omega
        simp only [Array.toList_setIfInBounds, h3, h4, List.length_cons]
        simp
  have hzc : z.cells = #[z] := by
    have := hs.one
    cases z <;> simp_all [Value.cells, Value.oneCell']
  obtain ⟨cs', f1, f2⟩ := hfill vs 0 (Array.replicate vs.length z) h1 (by simp)
  have f3 : cs' = vs.toArray := by
    have : cs'.toList = vs := by rw [f2]; simp
    rw [← this]
  subst f3
  have hlim : ¬ 16777216 < vs.length := by omega
  have hrow : (Array.range vs.length).map (fun i => (#[z] : Array Value)[i % 1]!) = Array.replicate vs.length z := by
    apply Array.ext
    · simp
    · intro i h1 h2
      have : i % 1 = 0 := Nat.mod_one i
      simp [this]
  have hrow2 : (Array.range vs.length).map (fun i => ([z] : List Value)[i % 1]?.getD default) = Array.replicate vs.length z := by
    apply Array.ext
    · simp
    · intro i h1 h2
      have : i % 1 = 0 := Nat.mod_one i
      simp [this]
  simp only [execOp]
  rw [e1]
  rw [List.range_eq_range']
  simp only [Nat.mul_one] at f1
  by_cases h0 : vs.length = 0
  · obtain rfl : vs = [] := List.eq_nil_of_length_eq_zero h0
    have hr0 : Array.map (fun _ : Nat => (default : Value)) (Array.range 0) = #[] := by apply Array.ext <;> simp
    simp [Instr.buildSlice, run_underlying hs.und, hs.sizeOf, newRow, Instr.fill, hr0]
  · simp [Instr.buildSlice, run_underlying hs.und, hs.sizeOf, newRow, zeroValue, typeInfo, hi, hz, hzc, hlim, h0, hrow2, f1]
theorem Sq.app1 {t e : TypeId} {z : Value} {s x : Operand} {v u : Value} {vs : List Value} {B d2 : Nat} {ty2 : TypeId} {pos2 : String} {after2 : Array Edge} {g2 : Option (Nat × Bool)}
    (hs : SlT P t e z) (ho : Own w B e v vs) (hB : B ≤ w.heap.size) (hlen : vs.length < 1073741824) (hg : On ops l g) (hN : Nat.blt d N = true) (hN2 : Nat.blt d2 N = true) (hg2 : g2 = none) (hsv : ev ((d, undef) :: l) s = some v) (hd : look l d = none) (hxv : ev l x = some u) (h1 : u.oneCell' = true)
    (h : ∀ v' w', Own w' B e v' (vs ++ [u]) → w.grownBy w' v.ownBlock → v' ≠ .slice none 0 0 → Sq P N ops Q rest ((d2, v') :: l) w') :
    Sq P N ops Q (⟨some d, .buildSlice t 1 #[(0, x)], ty, pos, after, g⟩ :: ⟨some d2, .call ⟨.builtin .append, #[s, .tmp d], #[t, t]⟩, ty2, pos2, after2, g2⟩ :: rest) l w := by
  subst hg2
  refine Sq.lit (parts := [(0, x)]) (vs := [u]) (n := 1) hs rfl rfl hg hN (by simp [evs, hxv]) (by simpa using h1) fun b w1 x1 hb1 hown1 hblk1 => ?_
  intro a ha
  obtain ⟨i, hi, hz, hsz, hby⟩ := hs.info
  have hzc : z.cells.size = 1 := by
    have := hs.one
    cases z <;> simp_all [Value.cells, Value.oneCell']
  have ho1 : Own w1 B e v vs := ho.ext x1
  have hev : a.eval s = v := by
    cases s with
    | tmp t' =>
      simp only [ev, look] at hsv
      cases hb : Nat.beq d t' with
      | true => rw [hb] at hsv; simp at hsv; subst hsv; rcases ho.cases with ⟨h, _⟩ | ⟨_, _, _, h, _⟩ <;> simp [undef] at h
      | false => exact ha.slot t' v (by simp only [look, hb]; rw [hb] at hsv; exact hsv)
    | const c => simpa [ev, Act.eval] using hsv
    | global c => simpa [ev, Act.eval] using hsv
    | func c => simpa [ev, Act.eval] using hsv
  have hx2 : a.eval (.tmp d) = .slice (some ⟨b, 0, none⟩) 1 1 := ha.slot d _ (by simp [look])
  refine wpList_append_own w1 (P := P) rfl s (.tmp d) t rfl B e i z 1 i.bytes hs.und hi hz hsz rfl hzc (by omega) v vs.length vs hev ho1 ⟨b, 0, none⟩ 1 1 [u] hx2 rfl ?_ (by simpa using h1)
    (by unfold maxLen; omega) ?_ (Nat.le_trans hB x1.size) fun v' w' r1 r2 r3 => ?_
  · intro j u' hj
    rw [addr_add, hblk1.cell]
    simpa using hj
  · have : (vs.length + 1) * i.bytes ≤ 1073741824 * 64 := Nat.mul_le_mul (by omega) hby
    omega
  · have hgr : w.grownBy w' v.ownBlock := grown_trans (x1.to_grown _) r2
    have ho' : Own w' B e v' (vs ++ [u]) := by unfold Own; simpa using r1
    have hnn : v' ≠ .slice none 0 0 := fun hc => by simpa using r3.1 hc
    refine h v' w' ho' hgr hnn _ ?_
    · refine ⟨by simp [Act.put, ha.size], ha.defers, fun t u' hu => ?_⟩
      have hst : St N l a := ⟨ha.size, ha.defers, fun t' v'' hv'' => ha.slot t' v'' (by
        have : Nat.beq d t' = false := by
          cases hb : Nat.beq d t' with
          | false => rfl
          | true => obtain rfl := Nat.eq_of_beq_eq_true hb; rw [hd] at hv''; cases hv''
        simp [look, this, hv''])⟩
      exact (hst.put hN2).slot t u' hu
end ops
theorem Eq.retCell {P : Program} {fn : Func} {N t b n : Nat} {ty u : TypeId} {l : Slots} {w : World} {cs : List Value} {R : Value → World → Prop} (hr : fn.results = #[.cell t ty]) (hv : look l t = some (.pointer (some ⟨b, 0, none⟩))) (h1 : Agg P ty n) (hb : Blk w b u cs) (hn : cs.length = n) (h : R (.agg cs.toArray) w) :
    Eq N (bodyPost P fn fun e w' => ∃ v, e = .returned v ∧ R v w') .ret l w := fun a ha => by
  have hl : (loadCells ⟨b, 0, none⟩ n).run P w = .ok cs.toArray w := by
    rw [← hn]
    refine run_loadCells_list _ _ _ fun j v hv => ?_
    rw [addr_add, hb.cell]
    simpa using hv
  have hs := ha.slot _ _ hv
  refine bodyPost_ret (v := .agg cs.toArray) ?_ ha.defers ⟨_, rfl, h⟩
  simp only [results, hr]
  simp only [Array.getD_eq_getD_getElem?] at hs
  simp [hs, asAddr, loadVar, h1.agg, h1.size, hl]
end Go.Proofs.YtdkdpmmfebdeaaaDoor
set_option linter.unusedSimpArgs false
set_option linter.unusedVariables false
namespace Go.Proofs.YtdkdpmmfebdeaaaDoor
open Go.RowKit
section
variable {P : Program} {ops : Array Oper} {Q : Exit → Act → World → Prop}
def wpAnyG (P : Program) (ops : Array Oper) (Q : Exit → Act → World → Prop) (S : World → Prop) (k : Nat) : Nat → Array Bool → Act → World → Prop
  | 0, listed, a, w => Region.ready .any ops listed = [] ∧ Q .normal a w
  | fuel + 1, listed, a, w =>
    (Region.ready .any ops listed = [] → Q .normal a w) ∧
    ∀ i ∈ Region.ready .any ops listed, wpOp P ops Q i (fun a' w' => (i < k → S w') ∧ wpAnyG P ops Q S k fuel (listed.setIfInBounds i true) a' w') a w
theorem wpAny_of_G {S : World → Prop} {k : Nat} : ∀ (fuel : Nat) (listed : Array Bool) (a : Act) (w : World), wpAnyG P ops Q S k fuel listed a w → wpAny P .any ops Q fuel listed a w
  | 0, _, _, _, h => h
  | fuel + 1, _, _, _, h => ⟨h.1, fun i hi => wpOp_mono (fun a' w' h' => wpAny_of_G fuel _ a' w' h'.2) (h.2 i hi)⟩
def lateB (ops : Array Oper) (k i : Nat) : Bool := (List.range ops.size).all fun j => Nat.blt j k || match ops[j]? with
  | some o => o.after.any fun e => Region.binds .any e && e.on == i
  | none => true
theorem late_waits {k i j : Nat} {o : Oper} {listed : Array Bool} (h : lateB ops k i = true) (ho : ops[j]? = some o) (hj : j ∈ Region.ready .any ops listed) (hi : listed.getD i false = false) : j < k := by
  have hlt : j < ops.size := (Array.getElem?_eq_some_iff.1 ho).1
  simp only [lateB, List.all_eq_true, List.mem_range] at h
  have h1 := h j hlt
  simp only [ho, Bool.or_eq_true] at h1
  rcases h1 with h1 | h1
  · exact Nat.lt_of_lt_of_le (Nat.lt_succ_self j) (Nat.le_of_ble_eq_true h1)
  · obtain ⟨e, he, hb⟩ := Array.any_eq_true'.1 h1
    simp only [Bool.and_eq_true, beq_iff_eq] at hb
    obtain ⟨_, o', ho', hall⟩ := mem_ready.1 hj
    rw [ho] at ho'
    obtain rfl := Option.some.inj ho'
    have := hall e he hb.1
    rw [hb.2, hi] at this
    cases this
theorem ready_not_listed {i : Nat} {listed : Array Bool} (h : i ∈ Region.ready .any ops listed) : listed.getD i false = false := by
  have h0 := (mem_ready.1 h).1
  rcases Nat.lt_or_ge i listed.size with h' | h'
  · simp [h'] at h0 ⊢; exact h0
  · simp [Array.getElem?_eq_none h'] at h0
theorem wpAnyG_first {S : World → Prop} {k i : Nat} {oi : Oper} {v : Value} (hi : ops[i]? = some oi) (hik : i < k) (hl : lateB ops k i = true) (hsel : ∀ (j : Nat) (o : Oper) cs b, ops[j]? = some o → o.op ≠ .select cs b)
    (hQ : ∀ c a w, Q (.panic c) (a.put oi.dst v) w → Q (.panic c) a w) :
    ∀ (fuel : Nat) (listed : Array Bool) (a : Act) (w : World),
      (∀ j oj, ops[j]? = some oj → j ≠ i → listed.getD j true = false → (∀ e ∈ oj.after, Region.binds .any e = true → e.on ≠ i) → oi.apart ops oj = true) →
      i ∈ Region.ready .any ops listed → YieldsIf P ops S oi v a → S w →
      wpAnyG P ops Q S k fuel (listed.setIfInBounds i true) (a.put oi.dst v) w → wpAnyG P ops Q S k (fuel + 1) listed a w := by
  intro fuel
  induction fuel with
  | zero =>
    intro listed a w _ hr hy hS H
    refine ⟨fun h => (by rw [h] at hr; cases hr), fun j hj => ?_⟩
    by_cases hji : j = i
    · subst hji; exact hy.wpOp hi hS ⟨fun _ => hS, H⟩
    · have := ready_mono hj hji
      rw [H.1] at this
      cases this
  | succ fuel ih =>
    intro listed a w hfree hr hy hS H
    refine ⟨fun h => (by rw [h] at hr; cases hr), fun j hj => ?_⟩
    by_cases hji : j = i
    · subst hji; exact hy.wpOp hi hS ⟨fun _ => hS, H⟩
    · have h1 := H.2 j (ready_mono hj hji)
      obtain ⟨hjun, oj, hoj, hall⟩ := mem_ready.1 hj
      have hun0 := ready_not_listed hr
      have hjk : j < k := late_waits hl hoj hj hun0
      have hnot : ∀ e ∈ oj.after, Region.binds .any e = true → e.on ≠ i := fun e he hb heq => by
        have h2 := hall e he hb
        rw [heq, hun0] at h2
        cases h2
      have h2 := wpOp_putIf hoj (hfree j oj hoj hji hjun hnot) (fun cs b => hsel i oi cs b hi) (fun cs b => hsel j oj cs b hoj) hQ hy h1
      have hfree' : ∀ m om, ops[m]? = some om → m ≠ i → (listed.setIfInBounds j true).getD m true = false →
          (∀ e ∈ om.after, Region.binds .any e = true → e.on ≠ i) → oi.apart ops om = true := fun m om hm hmi hun hno => by
        refine hfree m om hm hmi ?_ hno
        by_cases hjm : j = m
        · subst hjm; exact hjun
        · rw [getD_set_ne true hjm] at hun; exact hun
      refine wpOp_mono (fun a' w' h3 => ⟨h3.2.1, ih (listed.setIfInBounds j true) a' w' hfree' (ready_mono hr (Ne.symm hji)) h3.1 (h3.2.1 hjk) ?_⟩) h2
      rw [Array.setIfInBounds_comm _ _ hji]
      exact h3.2.2
end
section
variable {P : Program} {N : Nat} {ops : Array Oper} {Q : Exit → Act → World → Prop} {S : World → Prop} {k fuel : Nat} {listed : Array Bool} {l : Slots} {w : World}
def Gq (P : Program) (N : Nat) (ops : Array Oper) (Q : Exit → Act → World → Prop) (S : World → Prop) (k fuel : Nat) (listed : Array Bool) (l : Slots) (w : World) : Prop :=
  ∀ a, St N l a → wpAnyG P ops Q S k fuel listed a w
theorem Cq.draw {id : Nat} (k : Nat) (r : Option Nat) (hm : P.follows .mixedOrders = true) (h : ∀ w1, Ext w w1 → Gq P N ops Q (fun w' => w1.grownBy w' r) k ops.size (Array.replicate ops.size false) l w1) : Cq P N (.region id ops true) Q l w :=
  fun a ha => wp_region_any hm (wpAny_of_G _ _ _ _ (h _ ((Below.refl _ _).drew) a ha))
theorem Cq.drawS {id : Nat} (k : Nat) (S : World → Prop) (hm : P.follows .mixedOrders = true) (hS : S w) (h : ∀ w1, Ext w w1 → S w → Gq P N ops Q S k ops.size (Array.replicate ops.size false) l w1) : Cq P N (.region id ops true) Q l w :=
  fun a ha => wp_region_any hm (wpAny_of_G _ _ _ _ (h _ ((Below.refl _ _).drew) hS a ha))
def firstB (ops : Array Oper) (k : Nat) (listed : Array Bool) (i : Nat) : Bool :=
  Nat.blt i k && (lateB ops k i && (Region.noSelect ops && (Region.free .any ops listed i && (Region.ready .any ops listed).contains i)))
theorem Gq.st {o : Oper} {d : Nat} {v : Value} (i : Nat) (hi : ops[i]? = some o) (hf : firstB ops k listed i = true) (hd : o.dst = some d) (hg : On ops l o.guard) (hN : Nat.blt d N = true)
    (hQ : ∀ c a w, Q (.panic c) (a.put (some d) v) w → Q (.panic c) a w) (x : S w) (hy : ∀ w', S w' → Still P N l o v w') (h : Gq P N ops Q S k fuel (listed.setIfInBounds i true) ((d, v) :: l) w) :
    Gq P N ops Q S k (fuel + 1) listed l w := by
  intro a ha
  simp only [firstB, Bool.and_eq_true] at hf
  obtain ⟨h1, h2, h3, h4, h5⟩ := hf
  rw [← hd] at hQ
  refine wpAnyG_first hi (Nat.lt_of_lt_of_le (Nat.lt_succ_self i) (Nat.le_of_ble_eq_true h1)) h2 (Region.noSelect_spec h3) hQ fuel listed a w (Region.free_spec hi h4) (by simpa using h5)
    (.inl ⟨hg.wanted ha, fun w' hw' => hy w' hw' a ha⟩) x ?_
  rw [hd]
  exact h _ (ha.put hN)
theorem Gq.off {o o' : Oper} {j d d' : Nat} {b : Bool} (i : Nat) (hi : ops[i]? = some o) (hf : firstB ops k listed i = true) (hg : o.guard = some (j, b)) (ho : ops[j]? = some o') (hd : o'.dst = some d) (hv : look l d = some (.bool (!b)))
    (hd' : o.dst = some d') (hN : Nat.blt d' N = true) (hQ : ∀ c a w, Q (.panic c) (a.put (some d') undef) w → Q (.panic c) a w) (x : S w) (h : Gq P N ops Q S k fuel (listed.setIfInBounds i true) ((d', undef) :: l) w) :
    Gq P N ops Q S k (fuel + 1) listed l w := by
  intro a ha
  simp only [firstB, Bool.and_eq_true] at hf
  obtain ⟨h1, h2, h3, h4, h5⟩ := hf
  rw [← hd'] at hQ
  refine wpAnyG_first hi (Nat.lt_of_lt_of_le (Nat.lt_succ_self i) (Nat.le_of_ble_eq_true h1)) h2 (Region.noSelect_spec h3) hQ fuel listed a w (Region.free_spec hi h4) (by simpa using h5)
    (.inr ⟨by simp [Region.wanted, hg, yielded, ho, hd, ha.bool hv], rfl⟩) x ?_
  rw [hd']
  exact h _ (ha.put hN)
theorem Gq.isT {p : Prop} [Decidable p] {d : Nat} (hp : p) (h : Gq P N ops Q S k fuel listed ((d, .bool true) :: l) w) : Gq P N ops Q S k fuel listed ((d, .bool (decide p)) :: l) w := by rw [decide_eq_true hp]; exact h
theorem Gq.isF {p : Prop} [Decidable p] {d : Nat} (hp : ¬ p) (h : Gq P N ops Q S k fuel listed ((d, .bool false) :: l) w) : Gq P N ops Q S k fuel listed ((d, .bool (decide p)) :: l) w := by rw [decide_eq_false hp]; exact h
theorem Gq.part {p : Prop} [Decidable p] {d : Nat} (ht : p → Gq P N ops Q S k fuel listed ((d, .bool true) :: l) w) (hf : ¬ p → Gq P N ops Q S k fuel listed ((d, .bool false) :: l) w) : Gq P N ops Q S k fuel listed ((d, .bool (decide p)) :: l) w := by
  by_cases hp : p
  · rw [decide_eq_true hp]; exact ht hp
  · rw [decide_eq_false hp]; exact hf hp
theorem Gq.partB {b : Bool} {d : Nat} (ht : b = true → Gq P N ops Q S k fuel listed ((d, .bool true) :: l) w) (hf : b = false → Gq P N ops Q S k fuel listed ((d, .bool false) :: l) w) : Gq P N ops Q S k fuel listed ((d, .bool b) :: l) w := by
  cases b
  · exact hf rfl
  · exact ht rfl
def AfterG (P : Program) (ops : Array Oper) (Q : Exit → Act → World → Prop) (S : World → Prop) (k fuel i : Nat) (listed : Array Bool) : Exit → Act → World → Prop
  | .normal, a, w => (i < k → S w) ∧ wpAnyG P ops Q S k fuel (listed.setIfInBounds i true) a w
  | e, a, w => Q e a w
theorem wpOp_of_list {K : Act → World → Prop} {Q' : Exit → Act → World → Prop} {i : Nat} {o : Oper} {a : Act} {w : World} (hi : ops[i]? = some o) (hn : ∀ a w, Q' .normal a w = K a w) (hp : ∀ c a w, Q' (.panic c) a w = Q (.panic c) a w) (ho : ∀ a w, Q' .outgrown a w = Q .outgrown a w)
    (h : wpList P ops Q' [o] a w) : wpOp P ops Q i K a w := by
  unfold wpOp
  rw [hi]
  simp only [wpList] at h ⊢
  have hlet : LetsOut Q' → LetsOut Q := fun ⟨a, w, hq⟩ => ⟨a, w, by rw [← ho]; exact hq⟩
  split
  · rename_i hw
    rw [if_pos hw] at h
    refine h.imp (fun h => ?_) (fun ⟨x, y⟩ => ⟨x, hlet y⟩)
    unfold Oper.wp at *
    generalize (execOp a.eval o).run P w = r at *
    cases r with
    | ok n w' =>
      cases n <;> simp only [Oper.upon] at h ⊢
      case value u => rw [← hn]; exact h
      case skip => rw [← hn]; exact h
      case defer d => rw [← hn]; exact h
      case enter f args =>
        refine Calls.mono h fun e w'' he => ?_
        cases e with
        | returned u => exact cast (hn _ _) he
        | panicked c => exact cast (hp _ _ _) he
        | outgrown => exact hlet he
      case row row args => exact Rows.mono h fun u w'' he => by rw [← hn]; exact he
    | halt x w' =>
      cases x <;> simp only [Oper.upon] at h ⊢
      case panic u => rw [← hp]; exact h
  · rename_i hw
    rw [if_neg hw] at h
    rw [← hn]; exact h
theorem Gq.one {o : Oper} (i : Nat) (hi : ops[i]? = some o) (hr : (Region.ready .any ops listed == [i]) = true) (h : Sq P N ops (AfterG P ops Q S k fuel i listed) [o] l w) : Gq P N ops Q S k (fuel + 1) listed l w := by
  intro a ha
  have hr' : Region.ready .any ops listed = [i] := by simpa using hr
  refine ⟨fun h0 => absurd (hr' ▸ h0) (by simp), fun j hj => ?_⟩
  rw [hr'] at hj
  obtain rfl : j = i := by simpa using hj
  exact wpOp_of_list (Q' := AfterG P ops Q S k fuel _ listed) hi (fun _ _ => rfl) (fun _ _ _ => rfl) (fun _ _ => rfl) (h a ha)
theorem Eq.goes {i : Nat} (x : i < k → S w) (h : Gq P N ops Q S k fuel (listed.setIfInBounds i true) l w) : Eq N (AfterG P ops Q S k fuel i listed) .normal l w := fun a ha => ⟨x, h a ha⟩
theorem Gq.done (hr : (Region.ready .any ops listed == []) = true) (h : Eq N Q .normal l w) : Gq P N ops Q S k fuel listed l w := by
  intro a ha
  have hr' : Region.ready .any ops listed = [] := by simpa using hr
  cases fuel with
  | zero => exact ⟨hr', h a ha⟩
  | succ n => exact ⟨fun _ => h a ha, by rw [hr']; simp⟩
end
section
variable {P : Program} {N : Nat} {l : Slots} {w : World} {d : Nat} {ty : TypeId} {pos : String} {after : Array Edge} {g : Option (Nat × Bool)}
theorem Still.loadB {t u : TypeId} {b o : Nat} {x : Operand} {v : Value} {cs : List Value} (h1 : One P t) (hx : ev l x = some (.pointer (some ⟨b, o, none⟩))) (hb : Blk w b u cs) (hc : cs[o]? = some v) : Still P N l ⟨some d, .load t x, ty, pos, after, g⟩ v w :=
  Still.load h1 hx (by rw [hb.cell, hc])
theorem Still.loadA {t : TypeId} {p : Addr} {x : Operand} {v : Value} (h1 : One P t) (hx : ev l x = some (.pointer (some p))) (hc : w.cell? p = some v) : Still P N l ⟨some d, .load t x, ty, pos, after, g⟩ v w := fun a ha => by
  simp [execOp, ha.ev hx, Instr.loadAt, Instr.sureAddr, loadVar, h1.agg, hc]
theorem Still.lenRow {t e : TypeId} {x : Operand} {v : Value} {vs : List Value} (hr : Row w e v vs) (ht : P.underlying t = some (.slice (P.elem t))) (hx : ev l x = some v) : Still P N l ⟨some d, .call ⟨.builtin .len, #[x], #[t]⟩, ty, pos, after, g⟩ (.int .i64 vs.length) w := by
  obtain ⟨p, c, rfl⟩ := hr.shape
  exact Still.len ht hx
theorem Still.lenInts {t e : TypeId} {x : Operand} {v : Value} {xs : List Int} (hr : Ints w e v xs) (ht : P.underlying t = some (.slice (P.elem t))) (hx : ev l x = some v) : Still P N l ⟨some d, .call ⟨.builtin .len, #[x], #[t]⟩, ty, pos, after, g⟩ (.int .i64 xs.length) w := by
  have := Still.lenRow (N := N) (d := d) (ty := ty) (pos := pos) (after := after) (g := g) hr ht hx; simpa using this
theorem Still.lenBools {t e : TypeId} {x : Operand} {v : Value} {xs : List Bool} (hr : Bools w e v xs) (ht : P.underlying t = some (.slice (P.elem t))) (hx : ev l x = some v) : Still P N l ⟨some d, .call ⟨.builtin .len, #[x], #[t]⟩, ty, pos, after, g⟩ (.int .i64 xs.length) w := by
  have := Still.lenRow (N := N) (d := d) (ty := ty) (pos := pos) (after := after) (g := g) hr ht hx; simpa using this
theorem Still.lenRows {t e e' : TypeId} {x : Operand} {v : Value} {xs : List (List Int)} (hr : Rows w e e' v xs) (ht : P.underlying t = some (.slice (P.elem t))) (hx : ev l x = some v) : Still P N l ⟨some d, .call ⟨.builtin .len, #[x], #[t]⟩, ty, pos, after, g⟩ (.int .i64 xs.length) w := by
  obtain ⟨rs, h1, h2, _⟩ := hr
  have := Still.lenRow (N := N) (d := d) (ty := ty) (pos := pos) (after := after) (g := g) h1 ht hx
  rw [h2] at this; exact this
def At (w : World) (e : TypeId) (v : Value) (i : Int) (p : Addr) (u : Value) : Prop := w.cell? p = some u ∧ (∃ b o c n, v = .slice (some ⟨b, o, none⟩) n c ∧ p = ⟨b, o + i.toNat, none⟩ ∧ 0 ≤ i ∧ i < n) ∧ ∃ cur fr, w.heap[p.block]? = some (.cells cur e fr)
theorem At.ext {w w' : World} {e : TypeId} {v : Value} {i : Int} {p : Addr} {u : Value} (h : At w e v i p u) (x : Ext w w') : At w' e v i p u := ⟨by
  have h1 := h.1
  have hb := World.block_lt_of_cell? w p h1
  rw [Below.cell x hb]; exact h1, h.2.1, by
  obtain ⟨cur, fr, h3⟩ := h.2.2
  exact ⟨cur, fr, x.heap h3⟩⟩
theorem At.owned {w w' : World} {B : Nat} {e t : TypeId} {v u' : Value} {us : List Value} {i : Int} {p : Addr} {u : Value} (h : At w e v i p u) (ho : Own w B t u' us) (hg : w.grownBy w' u'.ownBlock) (hne : t ≠ e) : At w' e v i p u := by
  obtain ⟨h1, h2, cur, fr, h3⟩ := h
  have hb : w'.heap[p.block]? = w.heap[p.block]? := by
    refine hg.block _ (lt_of_block h3) fun hc => ?_
    rcases ho.cases with ⟨rfl, _⟩ | ⟨g, cap, cs, rfl, _, hb, _⟩
    · cases hc
    · simp [Value.ownBlock] at hc
      subst hc
      simp only [Blk] at hb
      rw [hb] at h3
      simp at h3
      exact hne h3.2.1
  exact ⟨by rw [World.cell?_of_block hb]; exact h1, h2, cur, fr, by rw [hb]; exact h3⟩
theorem Row.at {e : TypeId} {v : Value} {vs : List Value} (h : Row w e v vs) {i : Int} (hi : 0 ≤ i) (hlt : i.toNat < vs.length) : ∃ p, At w e v i p (vs[i.toNat]) := by
  rcases h with ⟨rfl, _⟩ | ⟨b, o, c, cur, fr, rfl, hb, hc⟩
  · cases hlt
  · exact ⟨⟨b, o + i.toNat, none⟩, by simp [World.cell?, hb, hc _ _ (List.getElem?_eq_getElem hlt)], ⟨b, o, c, vs.length, rfl, rfl, hi, by omega⟩, cur, fr, hb⟩
theorem Ints.at {e : TypeId} {v : Value} {xs : List Int} (h : Ints w e v xs) {i : Int} (hi : 0 ≤ i) (hlt : i.toNat < xs.length) : ∃ p, At w e v i p (.int .i64 (xs.getD i.toNat 0)) := by
  obtain ⟨p, hp⟩ := Row.at h hi (by simpa using hlt)
  exact ⟨p, by simpa [hlt] using hp⟩
theorem Bools.at {e : TypeId} {v : Value} {xs : List Bool} (h : Bools w e v xs) {i : Int} (hi : 0 ≤ i) (hlt : i.toNat < xs.length) : ∃ p, At w e v i p (.bool (xs.getD i.toNat false)) := by
  obtain ⟨p, hp⟩ := Row.at h hi (by simpa using hlt)
  exact ⟨p, by simpa [hlt] using hp⟩
theorem Strs.at {e : TypeId} {v : Value} {xs : List ByteArray} (h : Strs w e v xs) {i : Int} (hi : 0 ≤ i) (hlt : i.toNat < xs.length) : ∃ p, At w e v i p (.string (xs.getD i.toNat ByteArray.empty)) := by
  obtain ⟨p, hp⟩ := Row.at h hi (by simpa using hlt)
  exact ⟨p, by simpa [hlt] using hp⟩
theorem Bytes.at {e : TypeId} {v : Value} {xs : List UInt8} (h : Bytes w e v xs) {i : Int} (hi : 0 ≤ i) (hlt : i.toNat < xs.length) : ∃ p, At w e v i p (.int .u8 ((xs.getD i.toNat 0).toNat : Int)) := by
  obtain ⟨p, hp⟩ := Row.at h hi (by simpa using hlt)
  exact ⟨p, by simpa [hlt] using hp⟩
theorem Rows.at {e e' : TypeId} {v : Value} {xss : List (List Int)} (h : Rows w e e' v xss) {i : Int} (hi : 0 ≤ i) (hlt : i.toNat < xss.length) : ∃ p r, At w e v i p r ∧ Ints w e' r (xss.getD i.toNat []) := by
  obtain ⟨rs, r1, r2, r3⟩ := h
  have hl : i.toNat < rs.length := by omega
  obtain ⟨p, hp⟩ := r1.at hi hl
  exact ⟨p, _, hp, r3 _ _ (List.getElem?_eq_getElem hl)⟩
theorem Still.at {t e : TypeId} {z : Value} {x ix : Operand} {v u : Value} {i : Int} {k : IntKind} {p : Addr} (hs : SlT P t e z) (h : At w e v i p u) (hx : ev l x = some v) (hix : ev l ix = some (.int k i)) :
    Still P N l ⟨some d, .indexAddr t x ix, ty, pos, after, g⟩ (.pointer (some p)) w := fun a ha => by
  obtain ⟨_, ⟨b, o, c, n, rfl, rfl, h0, h1⟩, _⟩ := h
  have := run_indexAt_slice (P := P) (w := w) t ⟨b, o, none⟩ n c k i (by rw [hs.elem]; exact hs.und)
  rw [hs.elem, hs.sizeOf] at this
  simp [execOp, ha.ev hx, ha.ev hix, this, h0, h1, addr_add]
theorem Still.at' {t e0 e : TypeId} {z : Value} {x ix : Operand} {v u : Value} {i : Int} {k : IntKind} {p : Addr} {w0 : World} (hs : SlT P t e0 z) (h : At w0 e v i p u) (hx : ev l x = some v) (hix : ev l ix = some (.int k i)) :
    Still P N l ⟨some d, .indexAddr t x ix, ty, pos, after, g⟩ (.pointer (some p)) w := fun a ha => by
  obtain ⟨_, ⟨b, o, c, n, rfl, rfl, h0, h1⟩, _⟩ := h
  have := run_indexAt_slice (P := P) (w := w) t ⟨b, o, none⟩ n c k i (by rw [hs.elem]; exact hs.und)
  rw [hs.elem, hs.sizeOf] at this
  simp [execOp, ha.ev hx, ha.ev hix, this, h0, h1, addr_add]
end
section
variable {P : Program} {N : Nat} {ops : Array Oper} {Q : Exit → Act → World → Prop} {rest : List Oper} {l : Slots} {w : World}
variable {d : Nat} {ty : TypeId} {pos : String} {after : Array Edge} {g : Option (Nat × Bool)}
end
end Go.Proofs.YtdkdpmmfebdeaaaDoor
set_option linter.unusedSimpArgs false
set_option linter.unusedVariables false
namespace Go.Proofs.YtdkdpmmfebdeaaaDoor
open Go.RowKit
def OwnRows (w : World) (B U : Nat) (e e' : TypeId) (v : Value) (xss : List (List Int)) : Prop :=
  ∃ rs, Own w B e v rs ∧ rs.length = xss.length ∧ (∀ i r, rs[i]? = some r → Own w B e' r ((xss.getD i []).map (Value.int .i64)) ∧ ∀ k, r.ownBlock = some k → k < U) ∧
    ∀ (i j : Nat) (r r' : Value), rs[i]? = some r → rs[j]? = some r' → i ≠ j → ∀ k, r.ownBlock = some k → r'.ownBlock ≠ some k
section
variable {w w' : World} {B U : Nat} {e e' : TypeId} {v : Value} {xss : List (List Int)}
theorem OwnRows.nil (w : World) (B U : Nat) (e e' : TypeId) : OwnRows w B U e e' (.slice none 0 0) [] := ⟨[], Own.nil _ _ _, rfl, by simp, by simp⟩
theorem OwnRows.rows (h : OwnRows w B U e e' v xss) : Rows w e e' v xss := by
  obtain ⟨rs, h1, h2, h3, _⟩ := h
  exact ⟨rs, h1.row, h2, fun i r hr => (h3 i r hr).1.row⟩
theorem OwnRows.ext (h : OwnRows w B U e e' v xss) (x : Ext w w') : OwnRows w' B U e e' v xss := by
  obtain ⟨rs, h1, h2, h3, h4⟩ := h
  exact ⟨rs, h1.ext x, h2, fun i r hr => ⟨(h3 i r hr).1.ext x, (h3 i r hr).2⟩, h4⟩
theorem OwnRows.up {U' : Nat} (h : OwnRows w B U e e' v xss) (hU : U ≤ U') : OwnRows w B U' e e' v xss := by
  obtain ⟨rs, h1, h2, h3, h4⟩ := h
  exact ⟨rs, h1, h2, fun i r hr => ⟨(h3 i r hr).1, fun k hk => Nat.lt_of_lt_of_le ((h3 i r hr).2 k hk) hU⟩, h4⟩
theorem OwnRows.mono {B' : Nat} (h : OwnRows w B U e e' v xss) (hB : B' ≤ B) : OwnRows w B' U e e' v xss := by
  obtain ⟨rs, h1, h2, h3, h4⟩ := h
  exact ⟨rs, h1.mono hB, h2, fun i r hr => ⟨(h3 i r hr).1.mono hB, (h3 i r hr).2⟩, h4⟩
theorem OwnRows.now (h : OwnRows w B U e e' v xss) : OwnRows w B w.heap.size e e' v xss := by
  obtain ⟨rs, h1, h2, h3, h4⟩ := h
  exact ⟨rs, h1, h2, fun i r hr => ⟨(h3 i r hr).1, fun k hk => ((h3 i r hr).1.lt k hk).2⟩, h4⟩
theorem OwnRows.owned {B' : Nat} {t : TypeId} {u : Value} {us : List Value} (h : OwnRows w B U e e' v xss) (ho : Own w B' t u us) (hg : w.grownBy w' u.ownBlock) (hne : t ≠ e) (hne' : t ≠ e') : OwnRows w' B U e e' v xss := by
  obtain ⟨rs, h1, h2, h3, h4⟩ := h
  exact ⟨rs, h1.owned ho hg hne, h2, fun i r hr => ⟨(h3 i r hr).1.owned ho hg hne', (h3 i r hr).2⟩, h4⟩
theorem OwnRows.stored {g : Nat} {t : TypeId} {cs : List Value} (h : OwnRows w B U e e' v xss) (hg : w.grownBy w' (some g)) (hb : Blk w g t cs) (hne : t ≠ e) (hne' : t ≠ e') : OwnRows w' B U e e' v xss := by
  obtain ⟨rs, h1, h2, h3, h4⟩ := h
  exact ⟨rs, h1.stored hg hb hne, h2, fun i r hr => ⟨(h3 i r hr).1.stored hg hb hne', (h3 i r hr).2⟩, h4⟩
theorem OwnRows.apart {B' : Nat} {u : Value} {us : List Value} (h : OwnRows w B U e e' v xss) (ho : Own w B' e' u us) (hg : w.grownBy w' u.ownBlock) (hB : U ≤ B') (hne : e' ≠ e) : OwnRows w' B U e e' v xss := by
  obtain ⟨rs, h1, h2, h3, h4⟩ := h
  refine ⟨rs, h1.owned ho hg hne, h2, fun i r hr => ⟨(h3 i r hr).1.grown hg (fun k hk hc => ?_), (h3 i r hr).2⟩, h4⟩
  have := (h3 i r hr).2 k hk
  have := (ho.lt k hc).1
  omega
theorem OwnRows.open (h : OwnRows w B U e e' v xss) (hne : e ≠ e') : ∃ rs, Own w B e v rs ∧ rs.length = xss.length ∧
    ∀ r xs w1 v' w', Ext w w1 → Own w1 U e' r (xs.map (Value.int .i64)) → B ≤ U → Own w' B e v' (rs ++ [r]) → w1.grownBy w' v.ownBlock → OwnRows w' B w'.heap.size e e' v' (xss ++ [xs]) := by
  obtain ⟨rs, h1, h2, h3, h4⟩ := h
  refine ⟨rs, h1, h2, fun r xs w1 v' w' x hr hBU hv hg => ?_⟩
  have hv1 := h1.ext x
  have hr' := hr.owned hv1 hg hne
  have hrow : ∀ i q, (rs ++ [r])[i]? = some q → (rs[i]? = some q ∧ i < rs.length) ∨ (i = rs.length ∧ q = r) := by
    intro i q hq
    rw [List.getElem?_append] at hq
    split at hq
    · exact .inl ⟨hq, by assumption⟩
    · right
      have : i - rs.length = 0 := by
        rcases Nat.eq_zero_or_pos (i - rs.length) with h | h
        · exact h
        · rw [List.getElem?_eq_none (by simp; omega)] at hq; cases hq
      rw [this] at hq
      simp at hq
      exact ⟨by omega, hq.symm⟩
  refine ⟨rs ++ [r], hv, by simp [h2], fun i q hq => ?_, fun i j q q' hq hq' hij k hk hk' => ?_⟩
  · rcases hrow i q hq with ⟨hq, hlt⟩ | ⟨rfl, rfl⟩
    · have e1 : (xss ++ [xs]).getD i [] = xss.getD i [] := by
        simp [List.getElem?_append, show i < xss.length by omega]
      rw [e1]
      have ho := ((h3 i q hq).1.ext x).owned hv1 hg hne
      exact ⟨ho, fun k hk => (ho.lt k hk).2⟩
    · have e1 : (xss ++ [xs]).getD rs.length [] = xs := by
        simp [List.getElem?_append, h2]
      rw [e1]
      exact ⟨hr'.mono hBU, fun k hk => (hr'.lt k hk).2⟩
  · rcases hrow i q hq with ⟨hq1, _⟩ | ⟨hi1, hq1⟩ <;> rcases hrow j q' hq' with ⟨hq2, _⟩ | ⟨hj1, hq2⟩
    · exact h4 i j q q' hq1 hq2 hij k hk hk'
    · have a1 := (h3 i q hq1).2 k hk
      have a2 := (hr.lt k (hq2 ▸ hk')).1
      omega
    · have a1 := (h3 j q' hq2).2 k hk'
      have a2 := (hr.lt k (hq1 ▸ hk)).1
      omega
    · exact hij (by omega)
theorem OwnRows.rowAt (h : OwnRows w B U e e' v xss) {i : Int} {p : Addr} {r : Value} (ha : At w e v i p r) : Own w B e' r ((xss.getD i.toNat []).map (Value.int .i64)) ∧ i.toNat < xss.length := by
  obtain ⟨rs, h1, h2, h3, h4⟩ := h
  obtain ⟨hc, ⟨b, o, c, n, rfl, rfl, h0, hn⟩, hty⟩ := ha
  rcases h1.cases with ⟨hv, _⟩ | ⟨g, cap, cs, hv, hB, hb, h5, h6, h7, h8⟩
  · simp at hv
  · simp only [Value.slice.injEq, Option.some.injEq, Addr.mk.injEq] at hv
    obtain ⟨⟨rfl, rfl, _⟩, rfl, rfl⟩ := hv
    rw [hb.cell] at hc
    have hlt : i.toNat < rs.length := by omega
    have : rs[i.toNat]? = some r := by
      rw [← h8, List.getElem?_take, if_pos hlt]
      simpa using hc
    exact ⟨(h3 _ _ this).1, by omega⟩
theorem OwnRows.set (h : OwnRows w B U e e' v xss) (hne : e' ≠ e) {i : Int} {p : Addr} {r : Value} (ha : At w e v i p r) {ys : List Int} (hr : Own w' B e' r (ys.map (Value.int .i64))) (hg : w.grownBy w' r.ownBlock) :
    OwnRows w' B U e e' v (xss.set i.toNat ys) ∧ At w' e v i p r := by
  have hold := (h.rowAt ha).1
  obtain ⟨rs, h1, h2, h3, h4⟩ := h
  have h1' := h1.owned hold hg hne
  have hcell : w'.cell? p = w.cell? p := by
    obtain ⟨hc, ⟨b, o, c, n, rfl, rfl, h0, hn⟩, hty⟩ := ha
    rcases h1.cases with ⟨hv, _⟩ | ⟨g, cap, cs, hv, hB, hb, h5, h6, h7, h8⟩
    · simp at hv
    · simp only [Value.slice.injEq, Option.some.injEq, Addr.mk.injEq] at hv
      obtain ⟨⟨rfl, rfl, _⟩, rfl, rfl⟩ := hv
      rw [hb.cell, (hb.owned hold hg hne).cell]
  have hrs : rs[i.toNat]? = some r := by
    obtain ⟨hc, ⟨b, o, c, n, rfl, rfl, h0, hn⟩, hty⟩ := ha
    rcases h1.cases with ⟨hv, _⟩ | ⟨g, cap, cs, hv, hB, hb, h5, h6, h7, h8⟩
    · simp at hv
    · simp only [Value.slice.injEq, Option.some.injEq, Addr.mk.injEq] at hv
      obtain ⟨⟨rfl, rfl, _⟩, rfl, rfl⟩ := hv
      rw [hb.cell] at hc
      have hlt : i.toNat < rs.length := by omega
      rw [← h8, List.getElem?_take, if_pos hlt]
      simpa using hc
  refine ⟨⟨rs, h1', by simp [h2], fun j q hq => ?_, h4⟩, At.owned ha hold hg hne⟩
  by_cases hj : i.toNat = j
  · subst hj
    rw [hrs] at hq
    obtain rfl := Option.some.inj hq
    have hlt : i.toNat < xss.length := by
      have := (List.getElem?_eq_some_iff.1 hrs).1
      omega
    have e1 : (xss.set i.toNat ys).getD i.toNat [] = ys := by simp [hlt]
    rw [e1]
    exact ⟨hr, (h3 _ _ hrs).2⟩
  · have e1 : (xss.set i.toNat ys).getD j [] = xss.getD j [] := by simp [List.getElem?_set_ne hj]
    rw [e1]
    exact ⟨(h3 j q hq).1.grown hg (fun k hk hc => h4 i.toNat j r q hrs hq hj k hc hk), (h3 j q hq).2⟩
end
theorem one_nil : ∀ v ∈ ([] : List Value), v.oneCell' = true := fun _ h => by cases h
theorem one_cons {v : Value} {l : List Value} (h : v.oneCell' = true) (hs : ∀ u ∈ l, u.oneCell' = true) : ∀ u ∈ v :: l, u.oneCell' = true := fun u hu => by
  rcases List.mem_cons.1 hu with rfl | hu
  · exact h
  · exact hs u hu
theorem Row.one {w : World} {e : TypeId} {v : Value} {vs : List Value} (h : Row w e v vs) : v.oneCell' = true := by
  obtain ⟨p, c, rfl⟩ := h.shape
  rfl
theorem Rows.one {w : World} {e e' : TypeId} {v : Value} {xss : List (List Int)} (h : Rows w e e' v xss) : v.oneCell' = true := by
  obtain ⟨rs, h1, _⟩ := h
  exact h1.one
def AtO (v : Value) (i : Int) (p : Addr) : Prop := ∃ g n c, v = .slice (some ⟨g, 0, none⟩) n c ∧ p = ⟨g, i.toNat, none⟩ ∧ 0 ≤ i ∧ i < (n : Nat)
theorem Own.at {w : World} {B : Nat} {e : TypeId} {v : Value} {vs : List Value} (h : Own w B e v vs) {i : Int} (hi : 0 ≤ i) (hlt : i.toNat < vs.length) : ∃ p, AtO v i p := by
  rcases h.cases with ⟨rfl, rfl⟩ | ⟨g, cap, cs, rfl, _⟩
  · cases hlt
  · exact ⟨⟨g, i.toNat, none⟩, g, vs.length, cap, rfl, rfl, hi, by omega⟩
theorem AtO.of {w : World} {B : Nat} {e : TypeId} {v u : Value} {vs : List Value} {i : Int} {p : Addr} (h : Own w B e v vs) (ha : At w e v i p u) : AtO v i p := by
  obtain ⟨hc, ⟨b, o, c, n, rfl, rfl, h0, hn⟩, hty⟩ := ha
  rcases h.cases with ⟨hv, _⟩ | ⟨g, cap, cs, hv, _⟩
  · simp at hv
  · simp only [Value.slice.injEq, Option.some.injEq, Addr.mk.injEq] at hv
    obtain ⟨⟨rfl, rfl, _⟩, rfl, rfl⟩ := hv
    exact ⟨_, _, _, rfl, by simp, h0, hn⟩
section
variable {P : Program} {N : Nat} {ops : Array Oper} {Q : Exit → Act → World → Prop} {rest : List Oper} {l : Slots} {w : World}
variable {d : Nat} {ty : TypeId} {pos : String} {after : Array Edge} {g : Option (Nat × Bool)}
theorem Still.atO {t e : TypeId} {z : Value} {x ix : Operand} {v : Value} {i : Int} {k : IntKind} {p : Addr} (hs : SlT P t e z) (h : AtO v i p) (hx : ev l x = some v) (hix : ev l ix = some (.int k i)) :
    Still P N l ⟨some d, .indexAddr t x ix, ty, pos, after, g⟩ (.pointer (some p)) w := fun a ha => by
  obtain ⟨b, n, c, rfl, rfl, h0, h1⟩ := h
  have := run_indexAt_slice (P := P) (w := w) t ⟨b, 0, none⟩ n c k i (by rw [hs.elem]; exact hs.und)
  rw [hs.elem, hs.sizeOf] at this
  simp [execOp, ha.ev hx, ha.ev hix, this, h0, h1, addr_add]
theorem Sq.atO {t e : TypeId} {z : Value} {x ix : Operand} {v : Value} {i : Int} {k : IntKind} {p : Addr} (hs : SlT P t e z) (h : AtO v i p) (hg : On ops l g) (hN : Nat.blt d N = true) (hx : ev l x = some v) (hix : ev l ix = some (.int k i))
    (hK : Sq P N ops Q rest ((d, .pointer (some p)) :: l) w) : Sq P N ops Q (⟨some d, .indexAddr t x ix, ty, pos, after, g⟩ :: rest) l w := .val hg rfl hN (Still.atO hs h hx hix) hK
theorem Own.set {B : Nat} {e : TypeId} {v : Value} {vs : List Value} (h : Own w B e v vs) {i : Int} {p : Addr} (hp : AtO v i p) (u : Value) : Own (w.setCell p u) B e v (vs.set i.toNat u) ∧ w.grownBy (w.setCell p u) v.ownBlock ∧ (∃ b, p = ⟨b, i.toNat, none⟩) ∧ (∃ v0, w.cell? p = some v0) ∧ w.frozen? p = false := by
  obtain ⟨b, n, c, rfl, rfl, h0, h1⟩ := hp
  rcases h.cases with ⟨h, _⟩ | ⟨g', cap, cs, hv, hB, hb, h3, h4, h5, h6⟩
  · simp at h
  · simp only [Value.slice.injEq, Option.some.injEq, Addr.mk.injEq] at hv
    obtain ⟨⟨rfl, _, _⟩, rfl, rfl⟩ := hv
    have hlt : i.toNat < cs.length := by omega
    refine ⟨?_, grown_setCell _ _ _ _, ⟨_, rfl⟩, ⟨cs[i.toNat], by rw [hb.cell, List.getElem?_eq_getElem hlt]⟩, hb.free _⟩
    have := Own.mk (vs := vs.set i.toNat u) hB (hb.set i.toNat u) (by simpa using h3) h4 (by simpa using h5) (by
      rw [List.take_set, List.length_set, h6])
    simpa using this
theorem Sq.storeO {t e : TypeId} {x y : Operand} {v u : Value} {vs : List Value} {B : Nat} {i : Int} {p : Addr} (h1 : One P t) (ho : Own w B e v vs) (hp : AtO v i p) (hg : On ops l g) (hx : ev l x = some (.pointer (some p))) (hy : ev l y = some u) (hu : u.oneCell' = true)
    (h : ∀ w', w.grownBy w' v.ownBlock → Own w' B e v (vs.set i.toNat u) → Sq P N ops Q rest l w') : Sq P N ops Q (⟨none, .store t x y, ty, pos, after, g⟩ :: rest) l w := by
  obtain ⟨k1, k2, ⟨b, rfl⟩, ⟨v0, k4⟩, k5⟩ := ho.set hp u
  refine .unit (w' := w.setCell _ u) hg rfl (fun a ha => ?_) (h _ k2 k1)
  have hc : u.cells = #[u] := by cases u <;> simp_all [Value.cells, Value.oneCell']
  simp [execOp, ha.ev hx, ha.ev hy, Instr.storeAt, Instr.sureAddr, storeVar, hc, h1.size, storeCells, addr_add, run_store _ _ _ _ _ hu, k4, k5]
theorem Sq.make {t e : TypeId} {z : Value} {x y : Operand} {n : Int} (hs : SlT P t e z) (hg : On ops l g) (hg2 : g = none) (hN : Nat.blt d N = true) (hx : ev l x = some (.int .i64 n)) (hy : ev l y = some (.int .i64 n)) (hn : 0 ≤ n ∧ n ≤ 1000000000)
    (h : ∀ b w', Ext w w' → w.heap.size ≤ b → (∀ B, B ≤ w.heap.size → Own w' B e (.slice (some ⟨b, 0, none⟩) n.toNat n.toNat) (List.replicate n.toNat z)) → Sq P N ops Q rest ((d, .slice (some ⟨b, 0, none⟩) n.toNat n.toNat) :: l) w') :
    Sq P N ops Q (⟨some d, .makeSlice t x y, ty, pos, after, g⟩ :: rest) l w := by
  subst hg2
  intro a ha
  obtain ⟨i, hi, hz, hsz, hby⟩ := hs.info
  have hzc : z.cells = #[z] := by
    have := hs.one
    cases z <;> simp_all [Value.cells, Value.oneCell']
  have hb : i.bytes * n.toNat ≤ 64 * 1000000000 := Nat.mul_le_mul hby (by omega)
  refine wpList_make_full w (P := P) rfl x y t rfl w.heap.size e i z 1 hs.und hi hz hsz .i64 .i64 n n n.toNat (ha.ev hx) (ha.ev hy) (by omega) (by omega) (by omega) (by unfold maxLen; omega) (Nat.le_refl _) fun w' r1 r2 => ?_
  rw [hzc, Nat.mul_one, toList_madeCells_one] at r1
  have hown : Own w' w.heap.size e (.slice (some ⟨w.heap.size, 0, none⟩) n.toNat n.toNat) (List.replicate n.toNat z) := by simpa [Own] using r1
  exact h _ w' (Ext.of_grown r2) (Nat.le_refl _) (fun B hB => hown.mono hB) _ (ha.put hN)
end
end Go.Proofs.YtdkdpmmfebdeaaaDoor
set_option linter.unusedSimpArgs false
set_option linter.unusedVariables false
namespace Go.Proofs.YtdkdpmmfebdeaaaDoor
open Go.RowKit
section
variable {P : Program} {N : Nat} {ops : Array Oper} {Q : Exit → Act → World → Prop} {rest : List Oper} {l : Slots} {w : World}
variable {d : Nat} {ty : TypeId} {pos : String} {after : Array Edge} {g : Option (Nat × Bool)}
theorem Still.cutLH {t : TypeId} {x lo hi : Operand} {s : ByteArray} {m n : Int} (ht : P.underlying t = some .string) (hx : ev l x = some (.string s)) (hlo : ev l lo = some (.int .i64 m)) (hhi : ev l hi = some (.int .i64 n)) (hb : 0 ≤ m ∧ m ≤ n ∧ n ≤ (s.size : Int)) : Still P N l ⟨some d, .slice t x (some lo) (some hi) none, ty, pos, after, g⟩ (.string (s.extract m.toNat n.toNat)) w := fun a ha => by
  have h1 := run_sliceAt_string (P := P) w t (.string s) (some (.int .i64 m)) (some (.int .i64 n)) none ht
  have h2 := run_slice_string_if (P := P) w t s .i64 .i64 m n ht
  have h3 : 0 ≤ n ∧ n ≤ (s.size : Int) := by omega
  have h4 : 0 ≤ m ∧ m ≤ n := by omega
  rw [if_pos h3, if_pos h4] at h2
  simp [execOp, ha.ev hx, ha.ev hlo, ha.ev hhi, h1, h2]
end
theorem size_cat (s t : ByteArray) : (s ++ t).size = s.size + t.size := by simp
end Go.Proofs.YtdkdpmmfebdeaaaDoor
set_option linter.unusedSimpArgs false
set_option linter.unusedVariables false
namespace Go.Proofs.YtdkdpmmfebdeaaaDoor
open Go.RowKit
section
variable {P : Program} {N : Nat} {ops : Array Oper} {Q : Exit → Act → World → Prop} {rest : List Oper} {l : Slots} {w : World}
variable {d : Nat} {ty : TypeId} {pos : String} {after : Array Edge} {g : Option (Nat × Bool)}
def MapN {κ : Type} (enc : κ → Value) (w : World) (b : Nat) (xs : List κ) : Prop := ∃ es clock, w.heap[b]? = some (.map es clock) ∧ es.toList.map (fun e => (e.key, e.val)) = xs.zipIdx.map fun p => (enc p.1, Value.int .i64 (p.2 : Int))
variable {κ : Type} {enc : κ → Value} {w' : World} {b : Nat} {xs : List κ}
theorem MapN.lt (h : MapN enc w b xs) : b < w.heap.size := by
  obtain ⟨es, c, hb, _⟩ := h
  exact (Array.getElem?_eq_some_iff.1 hb).1
theorem MapN.ext (h : MapN enc w b xs) (x : Ext w w') : MapN enc w' b xs := by
  obtain ⟨es, c, hb, hx⟩ := h
  exact ⟨es, c, x.heap hb, hx⟩
theorem MapN.grown {r : Option Nat} (h : MapN enc w b xs) (hg : w.grownBy w' r) (hr : r ≠ some b) : MapN enc w' b xs := by
  obtain ⟨es, c, hb, hx⟩ := h
  exact ⟨es, c, by rw [hg.block b (Array.getElem?_eq_some_iff.1 hb).1 (fun e => hr e.symm)]; exact hb, hx⟩
theorem MapN.stored {gb : Nat} {t : TypeId} {cs : List Value} (h : MapN enc w b xs) (hg : w.grownBy w' (some gb)) (hb : Blk w gb t cs) : MapN enc w' b xs := by
  refine h.grown hg (fun e => ?_)
  injection e with e
  subst e
  obtain ⟨es, c, hb', _⟩ := h
  simp only [Blk] at hb
  rw [hb] at hb'
  cases hb'
theorem MapN.owned {B : Nat} {t : TypeId} {u : Value} {us : List Value} (h : MapN enc w b xs) (ho : Own w B t u us) (hg : w.grownBy w' u.ownBlock) : MapN enc w' b xs := by
  rcases ho.cases with ⟨rfl, rfl⟩ | ⟨gb, cap, cs, rfl, hg', hb, _⟩
  · exact h.ext (Ext.of_grown hg)
  · exact h.stored (gb := gb) hg hb
theorem Blk.mapped {bb : Nat} {t : TypeId} {cs : List Value} (h : Blk w bb t cs) (hm : MapN enc w b xs) (hg : w.grownBy w' (some b)) : Blk w' bb t cs := by
  refine h.grown hg (fun e => ?_)
  injection e with e
  subst e
  obtain ⟨es, c, hb', _⟩ := hm
  simp only [Blk] at h
  rw [h] at hb'
  cases hb'
theorem Row.mapped {e : TypeId} {v : Value} {vs : List Value} (h : Row w e v vs) (hm : MapN enc w b xs) (hg : w.grownBy w' (some b)) : Row w' e v vs := by
  rcases h with h | ⟨b', o, c, cur, fr, hv, hb, hx⟩
  · exact .inl h
  · refine .inr ⟨b', o, c, cur, fr, hv, ?_, hx⟩
    rw [hg.block b' (lt_of_block hb) (fun h => ?_)]
    · exact hb
    · injection h with h
      subst h
      obtain ⟨es, cc, hb', _⟩ := hm
      rw [hb] at hb'
      cases hb'
theorem Own.mapped {B : Nat} {e : TypeId} {v : Value} {vs : List Value} (h : Own w B e v vs) (hm : MapN enc w b xs) (hg : w.grownBy w' (some b)) : Own w' B e v vs := by
  rcases h.cases with ⟨rfl, rfl⟩ | ⟨g', cap, cs, rfl, hg', hb, h3, h4, h5, h6⟩
  · exact Own.nil _ _ _
  · exact Own.mk hg' (hb.mapped hm hg) h3 h4 h5 h6
theorem OwnRows.mapped {B U : Nat} {e e' : TypeId} {v : Value} {xss : List (List Int)} (h : OwnRows w B U e e' v xss) (hm : MapN enc w b xs) (hg : w.grownBy w' (some b)) : OwnRows w' B U e e' v xss := by
  obtain ⟨rs, h1, h2, h3, h4⟩ := h
  exact ⟨rs, h1.mapped hm hg, h2, fun i r hr => ⟨(h3 i r hr).1.mapped hm hg, (h3 i r hr).2⟩, h4⟩
theorem Ext.mapped {w1 : World} (h : Ext w1 w) (hg : w.grownBy w' (some b)) (hB : w1.heap.size ≤ b) : Ext w1 w' := h.grown hg fun k hk => by injection hk with hk; omega
theorem Sq.makeMap {t : TypeId} (enc : κ → Value) (hg : On ops l g) (hN : Nat.blt d N = true) (h : ∀ b w', Ext w w' → MapN enc w' b ([] : List κ) → w.heap.size ≤ b → Sq P N ops Q rest ((d, .map (some b)) :: l) w') :
    Sq P N ops Q (⟨some d, .makeMap t none, ty, pos, after, g⟩ :: rest) l w :=
  .val (w' := w.alloc (.map #[] 0)) hg rfl hN (fun a ha => by simp [execOp, Instr.makeMap, run_makeMap]) (h _ _ (Ext.alloc _ _) ⟨#[], 0, heap_alloc_new w _, rfl⟩ (Nat.le_refl _))
theorem Still.lenMap {t kt et : TypeId} {x : Operand} (ht : P.underlying t = some (.map kt et)) (hm : MapN enc w b xs) (hx : ev l x = some (.map (some b))) : Still P N l ⟨some d, .call ⟨.builtin .len, #[x], #[t]⟩, ty, pos, after, g⟩ (.int .i64 xs.length) w := fun a ha => by
  obtain ⟨es, c, hb, hes⟩ := hm
  have hl : es.size = xs.length := by
    have := congrArg List.length hes
    simpa using this
  rw [BigFrame.execOp_builtin, BigFrame.builtin_len]
  have hr : (Builtin.len_ #[t] ty #[.map (some b)]).run P w = .ok (.int .i64 xs.length) w := by
    simp [Builtin.len_, run_underlying ht, MapKept.run_getObj_map hb, goInt, hl, Result.andThen]
  simp only [List.map_toArray, List.map_cons, List.map_nil, ha.ev hx, Sem.run_bind, hr, Result.andThen, Sem.run_pure]
theorem Sq.lenMap {t kt et : TypeId} {x : Operand} (ht : P.underlying t = some (.map kt et)) (hm : MapN enc w b xs) (hg : On ops l g) (hN : Nat.blt d N = true) (hx : ev l x = some (.map (some b))) (h : Sq P N ops Q rest ((d, .int .i64 xs.length) :: l) w) :
    Sq P N ops Q (⟨some d, .call ⟨.builtin .len, #[x], #[t]⟩, ty, pos, after, g⟩ :: rest) l w := .val hg rfl hN (Still.lenMap ht hm hx) h
structure KeyT [DecidableEq κ] (P : Program) (t : TypeId) (enc : κ → Value) : Prop where
  types : ∃ kt et kd, P.underlying t = some (.map kt et) ∧ P.underlying kt = some kd ∧ (∀ x y, Instr.sameNow kd (enc x) (enc y) = some (decide (x = y))) ∧ (∀ w, (zeroValue et).run P w = .ok (.int .i64 0) w) ∧ ∀ x, MapKept.IsKey kd (enc x)
variable [DecidableEq κ]
theorem findNow_num {kd : TypeDesc} (hk : ∀ x y, Instr.sameNow kd (enc x) (enc y) = some (decide (x = y))) (k : κ) : ∀ (es : List MapEntry) (xs : List κ) (j s : Nat), es.map (fun e => (e.key, e.val)) = (xs.zipIdx s).map (fun p => (enc p.1, Value.int .i64 (p.2 : Int))) →
    Instr.findNow kd (enc k) es j = some (if k ∈ xs then some (j + xs.idxOf k, .int .i64 ((s + xs.idxOf k : Nat) : Int)) else none)
  | [], xs, j, s, h => by
    have : xs = [] := by cases xs with | nil => rfl | cons x r => simp at h
    subst this
    simp [Instr.findNow]
  | e :: es, xs, j, s, h => by
    cases xs with
    | nil => simp at h
    | cons x r =>
      simp only [List.map_cons, List.zipIdx_cons, List.cons.injEq, Prod.mk.injEq] at h
      obtain ⟨⟨h1, h2⟩, h3⟩ := h
      have ih := findNow_num hk k es r (j + 1) (s + 1) h3
      unfold Instr.findNow
      rw [h1, hk]
      by_cases hx : k = x
      · subst hx
        simp [h2]
      · have hx' : (x == k) = false := by simpa using fun h => hx h.symm
        rw [decide_eq_false hx]
        show Instr.findNow kd (enc k) es (j + 1) = _
        rw [ih]
        by_cases hm : k ∈ r
        · rw [if_pos hm, if_pos (List.mem_cons_of_mem _ hm), List.idxOf_cons, hx']
          simp only [cond_false]
          congr 3
          · omega
          · congr 1; omega
        · rw [if_neg hm, if_neg (by simp [hx, hm])]
theorem findKey_num {kt : TypeId} {kd : TypeDesc} (hd : P.underlying kt = some kd) (hk : ∀ x y, Instr.sameNow kd (enc x) (enc y) = some (decide (x = y))) (k : κ) {es : Array MapEntry} (h : es.toList.map (fun e => (e.key, e.val)) = xs.zipIdx.map (fun p => (enc p.1, Value.int .i64 (p.2 : Int)))) :
    (Instr.findKey kt (enc k) es.toList).run P w = .ok (if k ∈ xs then some (xs.idxOf k, .int .i64 (xs.idxOf k : Int)) else none) w := by
  have := findNow_num hk k es.toList xs 0 0 h
  simp only [Nat.zero_add] at this
  simp [Instr.findKey, run_underlying hd, this]
theorem Still.lookup {t : TypeId} {m x : Operand} {k : κ} (ht : KeyT P t enc) (hm : MapN enc w b xs) (hx : ev l m = some (.map (some b))) (hk : ev l x = some (enc k)) :
    Still P N l ⟨some d, .lookup t m x true, ty, pos, after, g⟩ (.tuple #[.int .i64 (if k ∈ xs then (xs.idxOf k : Int) else 0), .bool (decide (k ∈ xs))]) w := fun a ha => by
  obtain ⟨kt, et, kd, h1, h2, h3, h4, h5⟩ := ht.types
  obtain ⟨es, c, hb, hes⟩ := hm
  have hf := findKey_num (P := P) (w := w) h2 h3 k hes
  by_cases hin : k ∈ xs
  · rw [if_pos hin] at hf
    simp [execOp, Instr.lookup, ha.ev hx, ha.ev hk, run_underlying h1, MapKept.run_getObj_map hb, MapKept.run_checkKey h2 (h5 k), hf, hin, Result.andThen]
  · rw [if_neg hin] at hf
    simp [execOp, Instr.lookup, ha.ev hx, ha.ev hk, run_underlying h1, MapKept.run_getObj_map hb, MapKept.run_checkKey h2 (h5 k), hf, hin, h4, Result.andThen]
theorem Sq.lookup {t : TypeId} {m x : Operand} {k : κ} (ht : KeyT P t enc) (hm : MapN enc w b xs) (hg : On ops l g) (hN : Nat.blt d N = true) (hx : ev l m = some (.map (some b))) (hk : ev l x = some (enc k))
    (h : Sq P N ops Q rest ((d, .tuple #[.int .i64 (if k ∈ xs then (xs.idxOf k : Int) else 0), .bool (decide (k ∈ xs))]) :: l) w) : Sq P N ops Q (⟨some d, .lookup t m x true, ty, pos, after, g⟩ :: rest) l w := .val hg rfl hN (Still.lookup ht hm hx hk) h
theorem Sq.mapUpdate {t : TypeId} {m x y : Operand} {k : κ} {n : Int} (ht : KeyT P t enc) (hm : MapN enc w b xs) (hg : On ops l g) (hx : ev l m = some (.map (some b))) (hk : ev l x = some (enc k)) (hy : ev l y = some (.int .i64 n)) (hn : n = xs.length) (hin : k ∉ xs)
    (h : ∀ w', w.grownBy w' (some b) → MapN enc w' b (xs ++ [k]) → Sq P N ops Q rest l w') : Sq P N ops Q (⟨none, .mapUpdate t m x y, ty, pos, after, g⟩ :: rest) l w := by
  obtain ⟨kt, et, kd, h1, h2, h3, h4, h5⟩ := ht.types
  obtain ⟨es, c, hb, hes⟩ := hm
  have hf := findKey_num (P := P) (w := w) h2 h3 k hes
  rw [if_neg hin] at hf
  have hs := MapKept.heap_set (o' := .map (es.push { key := enc k, val := .int .i64 n, born := c }) (c + 1)) hb
  refine .unit (w' := { w with heap := w.heap.setIfInBounds b (.map (es.push { key := enc k, val := .int .i64 n, born := c }) (c + 1)) }) hg rfl (fun a ha => ?_) (h _ ⟨rfl, rfl, rfl, by simp, fun j _ hne => hs.2 j (fun e => hne (congrArg some e))⟩ ⟨_, _, hs.1, ?_⟩)
  · simp [execOp, Instr.mapUpdate, ha.ev hx, ha.ev hk, ha.ev hy, run_underlying h1, MapKept.run_getObj_map hb, MapKept.run_checkKey h2 (h5 k), hf, MapKept.run_setObj_map _ hb, Result.andThen]
  · rw [Array.toList_push, List.map_append, hes, List.zipIdx_append, List.map_append, hn]
    simp
def Apart (v u : Value) : Prop := ∀ k, v.ownBlock = some k → u.ownBlock ≠ some k
theorem Apart.symm {v u : Value} (h : Apart v u) : Apart u v := fun k hk hc => h k hc hk
theorem Apart.nil (u : Value) : Apart (.slice none 0 0) u := fun k hk => by cases hk
theorem Own.other {B : Nat} {e : TypeId} {v u : Value} {vs : List Value} (h : Own w B e v vs) (hg : w.grownBy w' u.ownBlock) (ha : Apart u v) : Own w' B e v vs := h.grown hg fun k hk hc => ha k hc hk
end
end Go.Proofs.YtdkdpmmfebdeaaaDoor
set_option linter.unusedSimpArgs false
set_option linter.unusedVariables false
namespace Go.Proofs.YtdkdpmmfebdeaaaDoor
open Go.RowKit
structure SlW (P : Program) (t e : TypeId) (z : Value) (n : Nat) : Prop where
  und : P.underlying t = some (.slice e)
  info : ∃ i, P.info? e = some i ∧ i.zero = some z ∧ i.size = n ∧ i.bytes ≤ 1024
  cells : z.cells.size = n
  pos : 0 < n
theorem SlW.elem {P : Program} {t e : TypeId} {z : Value} {n : Nat} (h : SlW P t e z n) : P.elem t = e := by simp [Program.elem, h.und]
theorem SlW.sizeOf {P : Program} {t e : TypeId} {z : Value} {n : Nat} (h : SlW P t e z n) (w : World) : (sizeOf e).run P w = .ok n w := by
  obtain ⟨i, hi, _, hs, _⟩ := h.info
  simp [Go.sizeOf, typeInfo, hi, hs]
theorem SlW.of {P : Program} {t e : TypeId} {z : Value} (h : SlT P t e z) : SlW P t e z 1 := by
  obtain ⟨i, h1, h2, h3, h4⟩ := h.info
  refine ⟨h.und, ⟨i, h1, h2, h3, by omega⟩, ?_, by decide⟩
  have := h.one
  cases z <;> simp_all [Value.cells, Value.oneCell']
def Wid (w : World) (B : Nat) (e : TypeId) (n : Nat) (v : Value) (rows : List (List Value)) : Prop :=
  (∀ r ∈ rows, r.length = n ∧ ∀ u ∈ r, u.oneCell' = true) ∧ w.ownsRow B e n v rows.length rows.flatten
theorem flat_len {n : Nat} : ∀ {rows : List (List Value)}, (∀ r ∈ rows, r.length = n) → rows.flatten.length = rows.length * n
  | [], _ => by simp
  | r :: rows, h => by
    rw [List.flatten_cons, List.length_append, h r (by simp), flat_len (fun q hq => h q (by simp [hq])), List.length_cons, Nat.add_mul]
    omega
theorem flat_at {n : Nat} : ∀ {rows : List (List Value)} {i j : Nat}, (∀ r ∈ rows, r.length = n) → i < rows.length → j < n → rows.flatten[i * n + j]? = (rows.getD i [])[j]?
  | r :: rows, 0, j, h, _, hj => by
    rw [List.flatten_cons, Nat.zero_mul, Nat.zero_add, List.getElem?_append_left (by rw [h r (by simp)]; exact hj)]; rfl
  | r :: rows, i + 1, j, h, hi, hj => by
    have hr := h r (by simp)
    rw [List.flatten_cons, List.getElem?_append_right (by rw [hr, Nat.add_mul]; omega), hr, show (i + 1) * n + j - n = i * n + j by rw [Nat.add_mul]; omega]
    exact flat_at (fun q hq => h q (by simp [hq])) (by simpa using hi) hj
section
variable {w w' : World} {B n : Nat} {e : TypeId} {v : Value} {rows : List (List Value)}
theorem Wid.nil (w : World) (B : Nat) (e : TypeId) (n : Nat) : Wid w B e n (.slice none 0 0) [] := ⟨by simp, World.ownsRow_nil w B e n⟩
theorem Wid.cases (h : Wid w B e n v rows) : (v = .slice none 0 0 ∧ rows = []) ∨ ∃ g cap cs, v = .slice (some ⟨g, 0, none⟩) rows.length cap ∧ B ≤ g ∧ Blk w g e cs ∧ rows.length ≤ cap ∧ cap ≤ maxLen ∧ cs.length = cap * n ∧ cs.take (rows.length * n) = rows.flatten := by
  rcases h.2.2 with ⟨h1, h2⟩ | ⟨g, cap, cur, h1, h2, h3, h4, h5, h6, h7⟩
  · exact .inl ⟨h1, List.eq_nil_of_length_eq_zero h2⟩
  · exact .inr ⟨g, cap, cur.toList, h1, h2, by simpa [Blk] using h3, h4, h5, by simpa using h6, h7⟩
theorem Wid.mk' {g cap : Nat} {cs : List Value} (hr : ∀ r ∈ rows, r.length = n ∧ ∀ u ∈ r, u.oneCell' = true) (h2 : B ≤ g) (h3 : Blk w g e cs) (h4 : rows.length ≤ cap) (h5 : cap ≤ maxLen) (h6 : cs.length = cap * n) (h7 : cs.take (rows.length * n) = rows.flatten) : Wid w B e n (.slice (some ⟨g, 0, none⟩) rows.length cap) rows :=
  ⟨hr, flat_len (fun r h => (hr r h).1), .inr ⟨g, cap, cs.toArray, rfl, h2, h3, h4, h5, by simpa using h6, by simpa using h7⟩⟩
theorem Wid.ext (h : Wid w B e n v rows) (x : Ext w w') : Wid w' B e n v rows := by
  rcases h.cases with ⟨rfl, rfl⟩ | ⟨g, cap, cs, rfl, h2, h3, h4, h5, h6, h7⟩
  · exact Wid.nil _ _ _ _
  · exact Wid.mk' h.1 h2 (h3.ext x) h4 h5 h6 h7
theorem Wid.mono {B' : Nat} (h : Wid w B e n v rows) (hB : B' ≤ B) : Wid w B' e n v rows := by
  rcases h.cases with ⟨rfl, rfl⟩ | ⟨g, cap, cs, rfl, h2, h3, h4, h5, h6, h7⟩
  · exact Wid.nil _ _ _ _
  · exact Wid.mk' h.1 (Nat.le_trans hB h2) h3 h4 h5 h6 h7
theorem Wid.lt (h : Wid w B e n v rows) : ∀ k, v.ownBlock = some k → B ≤ k ∧ k < w.heap.size := by
  rcases h.cases with ⟨rfl, rfl⟩ | ⟨g, cap, cs, rfl, h2, h3, h4, h5, h6, h7⟩
  · intro k hk; cases hk
  · intro k hk
    simp [Value.ownBlock] at hk
    subst hk
    exact ⟨h2, h3.lt⟩
theorem Wid.grown {r : Option Nat} (h : Wid w B e n v rows) (hg : w.grownBy w' r) (hne : ∀ k, v.ownBlock = some k → r ≠ some k) : Wid w' B e n v rows := by
  rcases h.cases with ⟨rfl, rfl⟩ | ⟨g, cap, cs, rfl, h2, h3, h4, h5, h6, h7⟩
  · exact Wid.nil _ _ _ _
  · exact Wid.mk' h.1 h2 (h3.grown hg (hne g rfl)) h4 h5 h6 h7
theorem Wid.stored {g : Nat} {t : TypeId} {cs : List Value} (h : Wid w B e n v rows) (hg : w.grownBy w' (some g)) (hb : Blk w g t cs) (hne : t ≠ e) : Wid w' B e n v rows := by
  refine h.grown hg fun k hk hc => ?_
  injection hc with hc
  subst hc
  rcases h.cases with ⟨rfl, rfl⟩ | ⟨g', cap, cs', rfl, h2, h3, _⟩
  · cases hk
  · simp [Value.ownBlock] at hk
    subst hk
    exact hb.ne h3 hne rfl
theorem Wid.owned {B' : Nat} {t : TypeId} {u : Value} {us : List Value} (h : Wid w B e n v rows) (ho : Own w B' t u us) (hg : w.grownBy w' u.ownBlock) (hne : t ≠ e) : Wid w' B e n v rows := by
  rcases ho.cases with ⟨rfl, rfl⟩ | ⟨g, cap, cs, rfl, hg', hb, _⟩
  · exact h.ext (Ext.of_grown hg)
  · exact h.stored (g := g) hg hb hne
theorem Wid.mapped {κ : Type} {enc : κ → Value} {b : Nat} {xs : List κ} (h : Wid w B e n v rows) (hm : MapN enc w b xs) (hg : w.grownBy w' (some b)) : Wid w' B e n v rows := by
  rcases h.cases with ⟨rfl, rfl⟩ | ⟨g, cap, cs, rfl, h2, h3, h4, h5, h6, h7⟩
  · exact Wid.nil _ _ _ _
  · exact Wid.mk' h.1 h2 (h3.mapped hm hg) h4 h5 h6 h7
variable (ho : Wid w B e n v rows) (hg : w.grownBy w' v.ownBlock)
theorem Wid.at (h : Wid w B e n v rows) {i : Int} (h0 : 0 ≤ i) (h1 : i < rows.length) : ∃ g c, v = .slice (some ⟨g, 0, none⟩) rows.length c ∧ B ≤ g ∧ g < w.heap.size ∧ ∀ j, j < n → w.cell? ⟨g, i.toNat * n + j, none⟩ = (rows.getD i.toNat [])[j]? := by
  rcases h.cases with ⟨rfl, rfl⟩ | ⟨g, cap, cs, rfl, h2, h3, h4, h5, h6, h7⟩
  · simp at h1; omega
  · refine ⟨g, cap, rfl, h2, h3.lt, fun j hj => ?_⟩
    have hlt : i.toNat < rows.length := by omega
    rw [h3.cell, ← flat_at (fun r hr => (h.1 r hr).1) hlt hj, ← h7, List.getElem?_take, if_pos]
    have : (i.toNat + 1) * n ≤ rows.length * n := Nat.mul_le_mul_right _ hlt
    rw [Nat.add_mul] at this
    omega
end
section
variable {P : Program} {N : Nat} {ops : Array Oper} {Q : Exit → Act → World → Prop} {rest : List Oper} {l : Slots} {w : World}
variable {d : Nat} {ty : TypeId} {pos : String} {after : Array Edge} {g : Option (Nat × Bool)}
end
end Go.Proofs.YtdkdpmmfebdeaaaDoor
set_option linter.unusedSimpArgs false
set_option linter.unusedVariables false
namespace Go.Proofs.YtdkdpmmfebdeaaaDoor
structure A where
  al : Int
  next : List (List Int)
  acc : List Bool
def lettersTo (al : Int) (k : Nat) : List Int := ((List.range k).map fun (i : Nat) => (i : Int)).filter (hs al)
def letters (al : Int) : List Int := lettersTo al 6
theorem lettersTo_T {al : Int} {k : Nat} (h : hs al k = true) : lettersTo al (k + 1) = lettersTo al k ++ [(k : Int)] := by
  simp [lettersTo, List.range_succ, h]
theorem lettersTo_F {al : Int} {k : Nat} (h : hs al k = false) : lettersTo al (k + 1) = lettersTo al k := by
  simp [lettersTo, List.range_succ, h]
theorem lettersTo_length (al : Int) (k : Nat) : (lettersTo al k).length ≤ k := by
  have := List.length_filter_le (hs al) ((List.range k).map fun (i : Nat) => (i : Int))
  simpa [lettersTo] using this
theorem letters_len6 (al : Int) : (letters al).length ≤ 6 := lettersTo_length al 6
theorem toNat_succ {k : Int} (h : 0 ≤ k) : (k + 1).toNat = k.toNat + 1 := by omega
section
variable {α : Type} {l : List α} {p : α → Bool} {d : α} {k : Nat}
theorem take_snoc (d : α) (h : k < l.length) : l.take (k + 1) = l.take k ++ [l.getD k d] := by
  rw [List.take_succ_eq_append_getElem h]; simp [h]
theorem all_snoc (hp : (l.take k).all p = true) (h : k < l.length) (hk : p (l.getD k d) = true) : (l.take (k + 1)).all p = true := by
  rw [take_snoc d h, List.all_append, hp]; simpa using hk
theorem all_bad (h : k < l.length) (hk : p (l.getD k d) = false) : l.all p = false := by
  rw [List.all_eq_false]
  exact ⟨l[k], List.getElem_mem h, by simp [h] at hk; simp [hk]⟩
theorem all_done (hp : (l.take k).all p = true) (h : l.length ≤ k) : l.all p = true := by rwa [List.take_of_length_le h] at hp
end
theorem take_eq_snoc {α : Type} {xs ys : List α} {k : Nat} (d : α) (hl : xs.length = ys.length) (hp : xs.take k = ys.take k) (h : k < xs.length) (he : xs.getD k d = ys.getD k d) : xs.take (k + 1) = ys.take (k + 1) := by
  rw [take_snoc d h, take_snoc d (by omega), hp, he]
theorem beq_len {α : Type} [BEq α] [LawfulBEq α] {xs ys : List α} (h : xs.length ≠ ys.length) : (xs == ys) = false := by
  rw [beq_eq_false_iff_ne]; rintro rfl; exact h rfl
theorem beq_at {α : Type} [BEq α] [LawfulBEq α] {xs ys : List α} {k : Nat} (d : α) (h : xs.getD k d ≠ ys.getD k d) : (xs == ys) = false := by
  rw [beq_eq_false_iff_ne]; rintro rfl; exact h rfl
theorem beq_done {α : Type} [BEq α] [LawfulBEq α] {xs ys : List α} {k : Nat} (hp : xs.take k = ys.take k) (h : xs.length ≤ k) (h' : ys.length ≤ k) : (xs == ys) = true := by
  rw [List.take_of_length_le h, List.take_of_length_le h'] at hp
  rw [hp]; exact beq_self_eq_true _
theorem getD_mem {α : Type} {l : List α} {d : α} {k : Nat} (h : k < l.length) : l.getD k d ∈ l := by simp [h]
def inB (n q : Int) : Bool := decide (0 ≤ q ∧ q < n)
theorem inB_T {n q : Int} (h : 0 ≤ q ∧ q < n) : inB n q = true := decide_eq_true h
theorem inB_F {n q : Int} (h : q < 0 ∨ n ≤ q) : inB n q = false := decide_eq_false (by omega)
def rowOk (m n : Int) (row : List Int) : Bool := decide ((row.length : Int) = m) && row.all (inB n)
theorem rowOk_len {m n : Int} {row : List Int} (h : (row.length : Int) ≠ m) : rowOk m n row = false := by simp [rowOk, h]
theorem rowOk_bad {m n : Int} {row : List Int} (_ : (row.length : Int) = m) {k : Nat} (hk : k < row.length) (hb : inB n (row.getD k 0) = false) : rowOk m n row = false := by
  simp only [rowOk, all_bad hk hb, Bool.and_false]
theorem rowOk_good {m n : Int} {row : List Int} (h : (row.length : Int) = m) {k : Nat} (hp : (row.take k).all (inB n) = true) (hk : row.length ≤ k) : rowOk m n row = true := by
  simp only [rowOk, h, all_done hp hk, Bool.and_true, decide_true]
def validA (a : A) : Bool := decide (0 ≤ a.al ∧ a.al ≤ 63) && (decide (1 ≤ (a.next.length : Int) ∧ (a.next.length : Int) ≤ 12) && (decide ((a.acc.length : Int) = a.next.length) && a.next.all (rowOk (letters a.al).length a.next.length)))
theorem validA_al {a : A} (h : ¬ (0 ≤ a.al ∧ a.al ≤ 63)) : validA a = false := by simp only [validA, decide_eq_false h, Bool.false_and]
theorem validA_n {a : A} (h : ¬ (1 ≤ (a.next.length : Int) ∧ (a.next.length : Int) ≤ 12)) : validA a = false := by simp only [validA, decide_eq_false h, Bool.false_and, Bool.and_false]
theorem validA_acc {a : A} (h : ¬ ((a.acc.length : Int) = a.next.length)) : validA a = false := by simp only [validA, decide_eq_false h, Bool.false_and, Bool.and_false]
theorem validA_row {a : A} {k : Nat} (h : k < a.next.length) (hb : rowOk (letters a.al).length a.next.length (a.next.getD k []) = false) : validA a = false := by simp only [validA, all_bad h hb, Bool.and_false]
theorem validA_good {a : A} {k : Nat} (h1 : 0 ≤ a.al ∧ a.al ≤ 63) (h2 : 1 ≤ (a.next.length : Int) ∧ (a.next.length : Int) ≤ 12) (h3 : (a.acc.length : Int) = a.next.length) (hp : (a.next.take k).all (rowOk (letters a.al).length a.next.length) = true) (hk : a.next.length ≤ k) : validA a = true := by
  simp only [validA, decide_eq_true h1, decide_eq_true h2, decide_eq_true h3, all_done hp hk, Bool.and_self]
def Fit (a : A) : Prop := (-9223372036854775808 ≤ a.al ∧ a.al ≤ 9223372036854775807) ∧ a.next.length ≤ 100000000 ∧ a.acc.length ≤ 100000000 ∧ ∀ row ∈ a.next, row.length ≤ 100000000
theorem Fit.row {a : A} (h : Fit a) {k : Nat} : (a.next.getD k []).length ≤ 1000000000 := by
  rcases Nat.lt_or_ge k a.next.length with hk | hk
  · have := h.2.2.2 _ (List.getElem_mem hk)
    simp [hk]; omega
  · simp [hk]
theorem Fit.acc {a : A} (h : Fit a) : a.acc.length ≤ 1000000000 := by have := h.2.2.1; omega
theorem validA_spec {a : A} : validA a = true ↔ (0 ≤ a.al ∧ a.al ≤ 63) ∧ (1 ≤ a.next.length ∧ a.next.length ≤ 12) ∧ a.acc.length = a.next.length ∧ ∀ row ∈ a.next, row.length = (letters a.al).length ∧ ∀ q ∈ row, 0 ≤ q ∧ q < (a.next.length : Int) := by
  simp only [validA, rowOk, inB, Bool.and_eq_true, decide_eq_true_eq, List.all_eq_true]
  constructor
  · rintro ⟨h1, h2, h3, h4⟩
    exact ⟨h1, by omega, by omega, fun row hr => ⟨by have := (h4 row hr).1; omega, (h4 row hr).2⟩⟩
  · rintro ⟨h1, h2, h3, h4⟩
    exact ⟨h1, by omega, by omega, fun row hr => ⟨by have := (h4 row hr).1; omega, (h4 row hr).2⟩⟩
def eqA (a b : A) : Bool := a.al == b.al && (a.next == b.next && a.acc == b.acc)
theorem eqA_iff {a b : A} : eqA a b = true ↔ a = b := by
  obtain ⟨al, nx, ac⟩ := a
  obtain ⟨al', nx', ac'⟩ := b
  simp [eqA]
theorem eqA_refl (a : A) : eqA a a = true := eqA_iff.2 rfl
end Go.Proofs.YtdkdpmmfebdeaaaDoor
set_option linter.unusedSimpArgs false
set_option linter.unusedVariables false
namespace Go.Proofs.YtdkdpmmfebdeaaaDoor
open Go.RowKit
def Src (w : World) (e : TypeId) (v : Value) (xs : List UInt8) (rb : Nat) : Prop := Bytes w e v xs ∧ ∀ b o n c, v = .slice (some ⟨b, o, none⟩) n c → xs ≠ [] → b ≠ rb
theorem Src.ext {w0 w : World} {e : TypeId} {v : Value} {xs : List UInt8} {rb : Nat} (h : Src w0 e v xs rb) (g : w0.grownBy w (some rb)) : Bytes w e v xs := by
  obtain ⟨h1, h2⟩ := h
  rcases h1 with ⟨h3, h4⟩ | ⟨b, o, c, cur, fr, rfl, hb, hc⟩
  · exact .inl ⟨h3, h4⟩
  · rcases xs with _ | ⟨x, xs⟩
    · exact .inl ⟨rfl, _, _, rfl, fun h => by cases h⟩
    · refine .inr ⟨b, o, c, cur, fr, rfl, ?_, hc⟩
      rw [g.block b (lt_of_block hb) (fun hk => by injection hk with hk; exact h2 _ _ _ _ rfl (by simp) hk)]
      exact hb
theorem Src.of {w w' : World} {e : TypeId} {v : Value} {xs : List UInt8} {rb : Nat} (h : Bytes w e v xs) (x : Ext w w') (hrb : w.heap.size ≤ rb) : Src w' e v xs rb := by
  refine ⟨h.ext x, fun b o n c hv hne => ?_⟩
  rcases h with ⟨h3, _⟩ | ⟨b', o', c', cur, fr, rfl, hb, _⟩
  · exact absurd (List.map_eq_nil_iff.1 h3) hne
  · simp only [Value.slice.injEq, Option.some.injEq, Addr.mk.injEq] at hv
    have := lt_of_block hb
    omega
theorem Own.snocI {w : World} {B : Nat} {e : TypeId} {v : Value} {ys : List Int} {y : Int} (h : Own w B e v (ys.map (Value.int .i64) ++ [Value.int .i64 y])) : Own w B e v ((ys ++ [y]).map (Value.int .i64)) := by simpa using h
theorem Own.setI {w : World} {B : Nat} {e : TypeId} {v : Value} {ys : List Int} {y : Int} {k : Nat} (h : Own w B e v ((ys.map (Value.int .i64)).set k (Value.int .i64 y))) : Own w B e v ((ys.set k y).map (Value.int .i64)) := by rwa [List.map_set]
theorem all_set {α : Type} {p : α → Prop} {xs : List α} {x : α} {k : Nat} (h : ∀ q ∈ xs, p q) (hx : p x) : ∀ q ∈ xs.set k x, p q := by
  intro q hq
  rcases List.mem_or_eq_of_mem_set hq with h1 | h1
  · exact h q h1
  · rw [h1]; exact hx
theorem rowOk_spec {m n : Int} {row : List Int} : rowOk m n row = true ↔ (row.length : Int) = m ∧ ∀ q ∈ row, 0 ≤ q ∧ q < n := by
  simp only [rowOk, Bool.and_eq_true, decide_eq_true_eq, List.all_eq_true, inB]
theorem rowOk_at {m n : Int} {xss : List (List Int)} {k : Nat} (h : ∀ r ∈ xss, rowOk m n r = true) (hk : k < xss.length) : ((xss.getD k []).length : Int) = m ∧ ∀ q ∈ xss.getD k [], 0 ≤ q ∧ q < n := rowOk_spec.1 (h _ (getD_mem hk))
theorem Own.low {w : World} {B : Nat} {e : TypeId} {v : Value} {vs : List Value} (h : Own w B e v vs) : ∀ k, v.ownBlock = some k → k < w.heap.size := fun k hk => (h.lt k hk).2
theorem Own.apart {w w' : World} {B B' U : Nat} {e t : TypeId} {v u : Value} {vs us : List Value} (h : Own w B e v vs) (hl : ∀ k, v.ownBlock = some k → k < U) (ho : Own w B' t u us) (hg : w.grownBy w' u.ownBlock) (hB : U ≤ B') : Own w' B e v vs :=
  h.grown hg fun k hk hc => by
    have := hl k hk
    have := (ho.lt k hc).1
    omega
theorem At.apart {w w' : World} {B' U : Nat} {e t : TypeId} {v u' : Value} {us : List Value} {i : Int} {p : Addr} {u : Value} (h : At w e v i p u) (hl : ∀ k, v.ownBlock = some k → k < U) (ho : Own w B' t u' us) (hg : w.grownBy w' u'.ownBlock) (hB : U ≤ B') : At w' e v i p u := by
  obtain ⟨h1, ⟨b, o, c, n, rfl, rfl, h0, hn⟩, cur, fr, h3⟩ := h
  have hb' : w'.heap[b]? = w.heap[b]? := by
    refine hg.block _ (lt_of_block h3) fun hc => ?_
    have := hl b rfl
    have := (ho.lt b hc.symm).1
    omega
  exact ⟨by rw [World.cell?_of_block hb']; exact h1, ⟨b, o, c, n, rfl, rfl, h0, hn⟩, cur, fr, by show w'.heap[b]? = _; rw [hb']; exact h3⟩
theorem OwnRows.none {w : World} {B U : Nat} {e e' : TypeId} {v : Value} (h : Own w B e v []) : OwnRows w B U e e' v [] := ⟨[], h, rfl, by simp, by simp⟩
theorem At.stored {w w' : World} {e t : TypeId} {v u : Value} {i : Int} {p : Addr} {g : Nat} {cs : List Value} (h : At w e v i p u) (hg : w.grownBy w' (some g)) (hb : Blk w g t cs) (hne : t ≠ e) : At w' e v i p u := by
  obtain ⟨h1, h2, cur, fr, h3⟩ := h
  have hb' : w'.heap[p.block]? = w.heap[p.block]? := by
    refine hg.block _ (lt_of_block h3) fun hc => ?_
    injection hc with hc
    subst hc
    simp only [Blk] at hb
    rw [hb] at h3
    simp at h3
    exact hne h3.2.1
  exact ⟨by rw [World.cell?_of_block hb']; exact h1, h2, cur, fr, by rw [hb']; exact h3⟩
def Small (n : Nat) (a : A) : Prop := (-1000 ≤ a.al ∧ a.al ≤ 1000) ∧ a.next.length ≤ n ∧ a.acc.length ≤ n ∧ ∀ row ∈ a.next, row.length ≤ n
theorem Small.of {a : A} (h : validA a = true) : Small 20 a := by
  obtain ⟨h1, h2, h3, h4⟩ := validA_spec.1 h
  refine ⟨by omega, by omega, by omega, fun row hr => ?_⟩
  have := (h4 row hr).1
  have := letters_len6 a.al
  omega
theorem Small.mono {n m : Nat} {a : A} (h : Small n a) (hm : n ≤ m) : Small m a := ⟨h.1, Nat.le_trans h.2.1 hm, Nat.le_trans h.2.2.1 hm, fun row hr => Nat.le_trans (h.2.2.2 row hr) hm⟩
theorem Small.push {n m : Nat} {a : A} {b : Bool} (h : Small n a) (hm : n + 1 ≤ m) : Small m ⟨a.al, a.next, a.acc ++ [b]⟩ := by
  have k := h.mono (by omega : n ≤ m)
  refine ⟨k.1, k.2.1, ?_, k.2.2.2⟩
  have := h.2.2.1
  simp; omega
theorem Small.row {n m k : Nat} {a : A} {row : List Int} (h : Small n a) (hm : n ≤ m) (hr : row.length ≤ m) : Small m ⟨a.al, a.next.set k row, a.acc⟩ := by
  have q := h.mono hm
  exact ⟨q.1, by rw [List.length_set]; exact q.2.1, q.2.2.1, all_set q.2.2.2 hr⟩
theorem Small.rowAt {n k : Nat} {a : A} (h : Small n a) : (a.next.getD k []).length ≤ n := by
  rcases Nat.lt_or_ge k a.next.length with hk | hk
  · exact h.2.2.2 _ (getD_mem hk)
  · simp [hk]
theorem validA_rows {a : A} (h : validA a = true) : ∀ row ∈ a.next, rowOk (letters a.al).length a.next.length row = true := by
  simp only [validA, Bool.and_eq_true, List.all_eq_true] at h
  exact h.2.2.2
theorem valid_at {a : A} (h : validA a = true) {k j : Nat} (hk : k < a.next.length) (hj : j < (a.next.getD k []).length) : 0 ≤ (a.next.getD k []).getD j 0 ∧ (a.next.getD k []).getD j 0 < a.next.length :=
  (rowOk_at (validA_rows h) hk).2 _ (getD_mem hj)
theorem valid_row {a : A} (h : validA a = true) {k : Nat} (hk : k < a.next.length) : (a.next.getD k []).length = (letters a.al).length := by
  have := (rowOk_at (validA_rows h) hk).1
  omega
end Go.Proofs.YtdkdpmmfebdeaaaDoor
set_option linter.unusedSimpArgs false
set_option linter.unusedVariables false
namespace Go.Proofs.YtdkdpmmfebdeaaaDoor
def place (al x : Int) : Nat := (lettersTo al x.toNat).length
theorem at_place : ∀ al : Fin 64, ∀ x : Fin 6, hs (al.val : Int) (x.val : Int) = true →
    place (al.val : Int) (x.val : Int) < (letters (al.val : Int)).length ∧ (letters (al.val : Int)).getD (place (al.val : Int) (x.val : Int)) 0 = (x.val : Int) := by decide
theorem place_lt {al x : Int} (h : 0 ≤ al ∧ al ≤ 63) (hx : 0 ≤ x ∧ x < 6) (hh : hs al x = true) : place al x < (letters al).length ∧ (letters al).getD (place al x) 0 = x := by
  obtain ⟨m, rfl⟩ := Int.eq_ofNat_of_zero_le h.1
  obtain ⟨y, rfl⟩ := Int.eq_ofNat_of_zero_le hx.1
  exact at_place ⟨m, by omega⟩ ⟨y, by omega⟩ hh
def goA (a : A) (q x : Int) : Int := if hs a.al x then (a.next.getD q.toNat []).getD (place a.al x) 0 else q
theorem goA_no {a : A} {q x : Int} (h : hs a.al x = false) : goA a q x = q := by simp [goA, h]
theorem goA_yes {a : A} {q x : Int} (h : hs a.al x = true) : goA a q x = (a.next.getD q.toNat []).getD (place a.al x) 0 := by simp [goA, h]
def TabAt (a : A) (q i : Nat) (xs : List Int) : Prop := xs.length = a.next.length * 6 ∧ (∀ k x, k < q → x < 6 → xs.getD (k * 6 + x) 0 = goA a k x) ∧
  ∀ x, x < 6 → q < a.next.length → xs.getD (q * 6 + x) 0 = if hs a.al x = true ∧ place a.al x < i then (a.next.getD q []).getD (place a.al x) 0 else q
def TabPre (a : A) (q l : Nat) (xs : List Int) : Prop := xs.length = a.next.length * 6 ∧ (∀ k x, k < q → x < 6 → xs.getD (k * 6 + x) 0 = goA a k x) ∧
  ∀ x, x < l → q < a.next.length → xs.getD (q * 6 + x) 0 = q
theorem TabPre.zero (a : A) : TabPre a 0 0 (List.replicate (a.next.length * 6) 0) := ⟨by simp, by omega, by omega⟩
theorem TabPre.at {a : A} {q : Nat} {xs : List Int} (h : TabPre a q 6 xs) : TabAt a q 0 xs := ⟨h.1, h.2.1, fun x hx hq => by rw [h.2.2 x hx hq]; simp⟩
theorem TabAt.next {a : A} {q i : Nat} {xs : List Int} (hal : 0 ≤ a.al ∧ a.al ≤ 63) (h : TabAt a q i xs) (hi : (letters a.al).length ≤ i) (hq : q < a.next.length) : TabPre a (q + 1) 0 xs := by
  obtain ⟨h1, h2, h3⟩ := h
  refine ⟨h1, fun k x hk hx => ?_, by omega⟩
  by_cases hkq : k < q
  · exact h2 k x hkq hx
  · obtain rfl : k = q := by omega
    rw [h3 x hx hq]
    by_cases hh : hs a.al x = true
    · have h4 := place_lt hal (x := (x : Int)) (by omega) hh
      rw [if_pos ⟨hh, by omega⟩, goA_yes hh]; rfl
    · rw [if_neg (fun hc => hh hc.1), goA_no (by simpa using hh)]
def Tab (a : A) (xs : List Int) : Prop := xs.length = a.next.length * 6 ∧ ∀ q x : Int, 0 ≤ q ∧ q < a.next.length → 0 ≤ x ∧ x < 6 → xs[q.toNat * 6 + x.toNat]? = some (goA a q x)
theorem TabPre.done {a : A} {q l : Nat} {xs : List Int} (h : TabPre a q l xs) (hq : a.next.length ≤ q) : Tab a xs := by
  refine ⟨h.1, fun p x hp hx => ?_⟩
  have h2 := h.2.1 p.toNat x.toNat (by omega) (by omega)
  rw [Int.toNat_of_nonneg hp.1, Int.toNat_of_nonneg hx.1] at h2
  have hlt : p.toNat * 6 + x.toNat < xs.length := by have := h.1; omega
  rw [List.getElem?_eq_getElem hlt, ← h2, List.getD_eq_getElem?_getD, List.getElem?_eq_getElem hlt]
  rfl
def safeRow (a : A) (i : Nat) : List Int := if a.acc.getD i false then a.next.getD i [] else (a.next.getD i []).map fun _ => (i : Int)
def safe (a : A) : A := ⟨a.al, (List.range a.next.length).map (safeRow a), a.acc⟩
def SafeAt (a : A) (k j : Nat) (xss : List (List Int)) : Prop := xss.length = a.next.length ∧ ∀ i, i < a.next.length → (xss.getD i []).length = (a.next.getD i []).length ∧
  ∀ m, m < (a.next.getD i []).length → (xss.getD i []).getD m 0 = if a.acc.getD i false = false ∧ (i < k ∨ i = k ∧ m < j) then (i : Int) else (a.next.getD i []).getD m 0
theorem SafeAt.zero (a : A) : SafeAt a 0 0 a.next := ⟨rfl, fun i hi => ⟨rfl, fun m hm => by rw [if_neg (by omega)]⟩⟩
theorem SafeAt.skip {a : A} {k j j' : Nat} {xss : List (List Int)} (h : SafeAt a k j xss) (hac : a.acc.getD k false = true) : SafeAt a k j' xss :=
  ⟨h.1, fun i hi => ⟨(h.2 i hi).1, fun m hm => by
    rw [(h.2 i hi).2 m hm]
    by_cases hik : i = k
    · subst hik
      rw [if_neg (by rw [hac]; simp), if_neg (by rw [hac]; simp)]
    · by_cases hc : a.acc.getD i false = false ∧ i < k
      · rw [if_pos ⟨hc.1, .inl hc.2⟩, if_pos ⟨hc.1, .inl hc.2⟩]
      · rw [if_neg (fun hd => hc ⟨hd.1, by omega⟩), if_neg (fun hd => hc ⟨hd.1, by omega⟩)]⟩⟩
theorem SafeAt.next {a : A} {k j : Nat} {xss : List (List Int)} (h : SafeAt a k j xss) (hj : (a.next.getD k []).length ≤ j ∨ a.acc.getD k false = true) : SafeAt a (k + 1) 0 xss :=
  ⟨h.1, fun i hi => ⟨(h.2 i hi).1, fun m hm => by
    rw [(h.2 i hi).2 m hm]
    by_cases hac : a.acc.getD i false = false
    · by_cases hik : i = k
      · subst hik
        have : (a.next.getD i []).length ≤ j := by
          rcases hj with h | h
          · exact h
          · rw [hac] at h; cases h
        rw [if_pos ⟨hac, .inr ⟨rfl, by omega⟩⟩, if_pos ⟨hac, .inl (by omega)⟩]
      · by_cases hc : i < k
        · rw [if_pos ⟨hac, .inl hc⟩, if_pos ⟨hac, .inl (by omega)⟩]
        · rw [if_neg (by omega), if_neg (by omega)]
    · rw [if_neg (fun hd => hac hd.1), if_neg (fun hd => hac hd.1)]⟩⟩
theorem SafeAt.done {a : A} {k j : Nat} {xss : List (List Int)} (h : SafeAt a k j xss) (hk : a.next.length ≤ k) : xss = (safe a).next := by
  refine List.ext_getElem (by simp [safe, h.1]) fun i h1 h2 => ?_
  have hi : i < a.next.length := by rw [← h.1]; exact h1
  obtain ⟨h3, h4⟩ := h.2 i hi
  have e0 : xss.getD i [] = xss[i] := by simp [h1]
  rw [e0] at h3 h4
  simp only [safe, List.getElem_map, List.getElem_range]
  unfold safeRow
  cases hac : a.acc.getD i false with
  | true =>
    simp only [if_true]
    refine List.ext_getElem h3 fun m m1 m2 => ?_
    have := h4 m (by omega)
    rw [hac, if_neg (by simp), List.getD_eq_getElem?_getD, List.getElem?_eq_getElem m1, List.getD_eq_getElem?_getD, List.getElem?_eq_getElem m2] at this
    exact this
  | false =>
    rw [if_neg (by simp)]
    refine List.ext_getElem (by simp [h3]) fun m m1 m2 => ?_
    have := h4 m (by omega)
    rw [hac, if_pos ⟨rfl, .inl (by omega)⟩] at this
    simpa [m1] using this
end Go.Proofs.YtdkdpmmfebdeaaaDoor
set_option linter.unusedSimpArgs false
set_option linter.unusedVariables false
namespace Go.Proofs.YtdkdpmmfebdeaaaDoor
theorem Own.rep {w : World} {B : Nat} {e : TypeId} {v : Value} {n : Nat} (h : Own w B e v (List.replicate n (Value.int .i64 0))) : Own w B e v ((List.replicate n (0 : Int)).map (Value.int .i64)) := by rw [List.map_replicate]; exact h
def InB (v : List Int) (b : Int) : Prop := ∀ x ∈ v, 0 ≤ x ∧ x ≤ b
theorem InB.at {v : List Int} {b : Int} (h : InB v b) (hb : 0 ≤ b) (k : Nat) : 0 ≤ v.getD k 0 ∧ v.getD k 0 ≤ b := by
  rcases Nat.lt_or_ge k v.length with hk | hk
  · exact h _ (getD_mem hk)
  · simp [hk, hb]
theorem InB.mono {v : List Int} {b b' : Int} (h : InB v b) (hb : b ≤ b') : InB v b' := fun x hx => ⟨(h x hx).1, Int.le_trans (h x hx).2 hb⟩
theorem InB.add {v : List Int} {b c m : Int} (h : InB v b) (hb : 0 ≤ b) (hc : 0 ≤ c ∧ c ≤ m) (k : Nat) : InB (v.set k (v.getD k 0 + c)) (b + m) := by
  intro x hx
  have hv := h.at hb k
  rcases List.mem_or_eq_of_mem_set hx with h1 | h1
  · have := h x h1; omega
  · subst h1; omega
end Go.Proofs.YtdkdpmmfebdeaaaDoor
set_option linter.unusedSimpArgs false
set_option linter.unusedVariables false
namespace Go.Proofs.YtdkdpmmfebdeaaaDoor
def lts (s : ByteArray) : List Int := s.data.toList.map fun b => (b.toNat : Int) - 97
def within (s : ByteArray) (al : Int) : Bool := decide (0 ≤ al ∧ al ≤ 63) && (decide ((s.size : Int) ≤ 50000) && (lts s).all (hs al))
def runTo (a : A) (q : Int) (s : ByteArray) (k : Nat) : Int := ((lts s).take k).foldl (goA a) q
def after (a : A) (s : ByteArray) : Int := if validA a = true ∧ within s a.al = true then runTo a 0 s s.size else -1
end Go.Proofs.YtdkdpmmfebdeaaaDoor
set_option linter.unusedSimpArgs false
set_option linter.unusedVariables false
namespace Go.Proofs.YtdkdpmmfebdeaaaDoor
def run (a : A) (q : Int) (w : List Int) : Int := w.foldl (goA a) q
section
variable {P : Program} {N : Nat} {ops : Array Oper} {Q : Exit → Act → World → Prop} {S : World → Prop} {k fuel : Nat} {listed : Array Bool} {l : Slots} {w : World}
theorem Gq.beT {b : Bool} {d : Nat} (e : b = true) (h : Gq P N ops Q S k fuel listed ((d, .bool true) :: l) w) : Gq P N ops Q S k fuel listed ((d, .bool b) :: l) w := by rw [e]; exact h
end
def RevAt (xs : List UInt8) (k : Nat) (ys : List UInt8) : Prop := ys.length = xs.length ∧ ∀ m, m < xs.length → ys.getD m 0 = if m < k ∨ xs.length - 1 - k < m then xs.getD (xs.length - 1 - m) 0 else xs.getD m 0
theorem RevAt.zero (xs : List UInt8) : RevAt xs 0 xs := ⟨rfl, fun m hm => by rw [if_neg (by omega)]⟩
theorem RevAt.done {xs ys : List UInt8} {k : Nat} (h : RevAt xs k ys) (hk : xs.length - 1 ≤ k + k) : ys = xs.reverse := by
  obtain ⟨h1, h2⟩ := h
  refine List.ext_getElem (by rw [h1, List.length_reverse]) fun m m1 m2 => ?_
  have h3 := h2 m (by omega)
  rw [List.getD_eq_getElem?_getD, List.getElem?_eq_getElem m1] at h3
  rw [List.getElem_reverse]
  have h4 : xs.length - 1 - m < xs.length := by omega
  have e : xs.getD (xs.length - 1 - m) 0 = xs[xs.length - 1 - m] := by rw [List.getD_eq_getElem?_getD, List.getElem?_eq_getElem h4]; rfl
  rw [← e]
  by_cases h5 : m < k ∨ xs.length - 1 - k < m
  · rw [if_pos h5] at h3; exact h3
  · rw [if_neg h5] at h3
    have : xs.length - 1 - m = m := by omega
    rw [this]; exact h3
end Go.Proofs.YtdkdpmmfebdeaaaDoor
set_option linter.unusedSimpArgs false
set_option linter.unusedVariables false
namespace Go.Proofs.YtdkdpmmfebdeaaaDoor
def many (n : Nat) : Nat := if h : n = 0 then 200 else many (n - 1)
  termination_by n
section bfs
variable {α : Type} [DecidableEq α]
def addNode (ns : List α) (x : α) : List α := if x ∈ ns then ns else ns ++ [x]
def addAll (ns : List α) (xs : List α) : List α := xs.foldl addNode ns
theorem addNode_T {ns : List α} {x : α} (h : x ∈ ns) : addNode ns x = ns := if_pos h
theorem addNode_F {ns : List α} {x : α} (h : x ∉ ns) : addNode ns x = ns ++ [x] := if_neg h
theorem addNode_prefix (ns : List α) (x : α) : ns <+: addNode ns x := by
  unfold addNode
  split
  · exact List.prefix_refl _
  · exact List.prefix_append _ _
theorem mem_addNode {ns : List α} {x y : α} : y ∈ addNode ns x ↔ y ∈ ns ∨ y = x := by
  unfold addNode
  split
  · exact ⟨.inl, fun h => h.elim id (fun h => h ▸ by assumption)⟩
  · simp
theorem nodup_addNode {ns : List α} (h : ns.Nodup) (x : α) : (addNode ns x).Nodup := by
  unfold addNode
  split
  · exact h
  · rename_i hx
    rw [List.nodup_append]
    exact ⟨h, by simp, fun a ha b hb hab => hx (by rw [List.mem_singleton.1 hb] at hab; exact hab ▸ ha)⟩
theorem addAll_snoc (ns xs : List α) (x : α) : addAll ns (xs ++ [x]) = addNode (addAll ns xs) x := by
  unfold addAll
  rw [List.foldl_append]
  rfl
theorem addAll_nil (ns : List α) : addAll ns [] = ns := rfl
theorem addAll_cons (ns : List α) (x : α) (xs : List α) : addAll ns (x :: xs) = addAll (addNode ns x) xs := rfl
theorem addAll_prefix : ∀ (xs ns : List α), ns <+: addAll ns xs
  | [], ns => List.prefix_refl _
  | x :: xs, ns => (addNode_prefix ns x).trans (addAll_prefix xs _)
theorem mem_addAll {y : α} : ∀ {xs ns : List α}, y ∈ addAll ns xs ↔ y ∈ ns ∨ y ∈ xs
  | [], ns => by simp [addAll_nil]
  | x :: xs, ns => by rw [addAll_cons, mem_addAll, mem_addNode, List.mem_cons, or_assoc]
theorem nodup_addAll : ∀ {xs ns : List α}, ns.Nodup → (addAll ns xs).Nodup
  | [], _, h => h
  | x :: xs, _, h => nodup_addAll (xs := xs) (nodup_addNode h x)
def bfs (f : α → Int → α) (s : α) (L : List Int) : Nat → List α
  | 0 => [s]
  | i + 1 => match (bfs f s L i)[i]? with
    | some q => addAll (bfs f s L i) (L.map (f q))
    | none => bfs f s L i
variable {f : α → Int → α} {s : α} {L : List Int}
theorem nodup_len : ∀ {xs U : List α}, xs.Nodup → (∀ q ∈ xs, q ∈ U) → xs.length ≤ U.length
  | [], _, _, _ => Nat.zero_le _
  | x :: xs, U, h, hs => by
    obtain ⟨h1, h2⟩ := List.nodup_cons.1 h
    have hx := hs x (by simp)
    have h3 := nodup_len (U := U.erase x) h2 (fun q hq => (List.mem_erase_of_ne (by rintro rfl; exact h1 hq)).2 (hs q (by simp [hq])))
    rw [List.length_erase_of_mem hx] at h3
    have := List.length_pos_of_mem hx
    simp only [List.length_cons]
    omega
def ord (f : α → Int → α) (s : α) (L : List Int) : List α := bfs f s L (many 0)
theorem idx_prefix {xs ys : List α} (h : xs <+: ys) {x : α} (hx : x ∈ xs) : ys.idxOf x = xs.idxOf x := by
  obtain ⟨t, rfl⟩ := h
  rw [List.idxOf_append, if_pos hx]
theorem idx_new {xs : List α} {x : α} (hx : x ∉ xs) : (addNode xs x).idxOf x = xs.length := by
  rw [addNode_F hx, List.idxOf_append, if_neg hx]
  simp
theorem getElem_idx {xs : List α} {x : α} (h : x ∈ xs) : xs[xs.idxOf x]? = some x := by
  rw [List.getElem?_eq_some_iff]
  exact ⟨List.idxOf_lt_length_iff.2 h, List.getElem_idxOf _⟩
def rowAt (f : α → Int → α) (L : List Int) (ns : List α) (q : α) : List Int := L.map fun l => (ns.idxOf (f q l) : Int)
end bfs
section maps
variable {α β : Type} [DecidableEq α] [DecidableEq β] {f : α → Int → α} {s : α} {L : List Int} {f' : β → Int → β} {g : α → β} {P : α → Prop}
theorem addNode_map {ns : List α} {x : α} (hg : ∀ a b, P a → P b → g a = g b → a = b) (hn : ∀ a ∈ ns, P a) (hx : P x) : addNode (ns.map g) (g x) = (addNode ns x).map g := by
  by_cases h : x ∈ ns
  · rw [addNode_T h, addNode_T (List.mem_map_of_mem h)]
  · have : g x ∉ ns.map g := fun hc => by
      obtain ⟨y, hy, e⟩ := List.mem_map.1 hc
      exact h (hg y x (hn y hy) hx e ▸ hy)
    rw [addNode_F h, addNode_F this, List.map_append]; rfl
theorem addAll_map (hg : ∀ a b, P a → P b → g a = g b → a = b) : ∀ {xs ns : List α}, (∀ a ∈ ns, P a) → (∀ a ∈ xs, P a) → addAll (ns.map g) (xs.map g) = (addAll ns xs).map g
  | [], ns, _, _ => rfl
  | x :: xs, ns, hn, hx => by
    rw [List.map_cons, addAll_cons, addAll_cons, addNode_map hg hn (hx x (by simp))]
    refine addAll_map hg (fun a ha => ?_) (fun a ha => hx a (by simp [ha]))
    rcases mem_addNode.1 ha with h | h
    · exact hn a h
    · exact h ▸ hx x (by simp)
theorem idx_map {xs : List α} {x : α} (hg : ∀ a b, P a → P b → g a = g b → a = b) (hn : ∀ a ∈ xs, P a) (hx : P x) : (xs.map g).idxOf (g x) = xs.idxOf x := by
  induction xs with
  | nil => rfl
  | cons y xs ih =>
    rw [List.map_cons, List.idxOf_cons, List.idxOf_cons, ih (fun a ha => hn a (by simp [ha]))]
    have : (g y == g x) = (y == x) := by
      rw [Bool.eq_iff_iff, beq_iff_eq, beq_iff_eq]
      exact ⟨hg y x (hn y (by simp)) hx, fun h => by rw [h]⟩
    rw [this]
end maps
def num {α : Type} [DecidableEq α] (al : Int) (f : α → Int → α) (s : α) (acc : α → Bool) : A :=
  ⟨al, (ord f s (letters al)).map (rowAt f (letters al) (ord f s (letters al))), (ord f s (letters al)).map acc⟩
section num
variable {α : Type} [DecidableEq α] {al : Int} {f : α → Int → α} {s : α} {acc : α → Bool}
end num
end Go.Proofs.YtdkdpmmfebdeaaaDoor
set_option linter.unusedSimpArgs false
set_option linter.unusedVariables false
namespace Go.Proofs.YtdkdpmmfebdeaaaDoor
open Go.RowKit
def OwnRowsZ (w : World) (B U : Nat) (e e' : TypeId) (v : Value) (xss : List (List Int)) (z : Value) : Prop :=
  ∃ rs, Own w B e v rs ∧ rs.length = xss.length ∧ (∀ i r, rs[i]? = some r → Own w B e' r ((xss.getD i []).map (Value.int .i64)) ∧ ∀ k, r.ownBlock = some k → k < U ∧ z.ownBlock ≠ some k) ∧
    ∀ (i j : Nat) (r r' : Value), rs[i]? = some r → rs[j]? = some r' → i ≠ j → ∀ k, r.ownBlock = some k → r'.ownBlock ≠ some k
section
variable {w w' : World} {B U : Nat} {e e' : TypeId} {v z : Value} {xss : List (List Int)}
theorem OwnRowsZ.nil (w : World) (B U : Nat) (e e' : TypeId) (z : Value) : OwnRowsZ w B U e e' (.slice none 0 0) [] z := ⟨[], Own.nil _ _ _, rfl, by simp, by simp⟩
theorem OwnRowsZ.ext (h : OwnRowsZ w B U e e' v xss z) (x : Ext w w') : OwnRowsZ w' B U e e' v xss z := by
  obtain ⟨rs, h1, h2, h3, h4⟩ := h
  exact ⟨rs, h1.ext x, h2, fun i r hr => ⟨(h3 i r hr).1.ext x, (h3 i r hr).2⟩, h4⟩
theorem OwnRowsZ.up {U' : Nat} (h : OwnRowsZ w B U e e' v xss z) (hU : U ≤ U') : OwnRowsZ w B U' e e' v xss z := by
  obtain ⟨rs, h1, h2, h3, h4⟩ := h
  exact ⟨rs, h1, h2, fun i r hr => ⟨(h3 i r hr).1, fun k hk => ⟨Nat.lt_of_lt_of_le ((h3 i r hr).2 k hk).1 hU, ((h3 i r hr).2 k hk).2⟩⟩, h4⟩
theorem OwnRowsZ.now (h : OwnRowsZ w B U e e' v xss z) : OwnRowsZ w B w.heap.size e e' v xss z := by
  obtain ⟨rs, h1, h2, h3, h4⟩ := h
  exact ⟨rs, h1, h2, fun i r hr => ⟨(h3 i r hr).1, fun k hk => ⟨((h3 i r hr).1.lt k hk).2, ((h3 i r hr).2 k hk).2⟩⟩, h4⟩
theorem OwnRowsZ.mapped {κ : Type} {enc : κ → Value} {b : Nat} {xs : List κ} (h : OwnRowsZ w B U e e' v xss z) (hm : MapN enc w b xs) (hg : w.grownBy w' (some b)) : OwnRowsZ w' B U e e' v xss z := by
  obtain ⟨rs, h1, h2, h3, h4⟩ := h
  exact ⟨rs, h1.mapped hm hg, h2, fun i r hr => ⟨(h3 i r hr).1.mapped hm hg, (h3 i r hr).2⟩, h4⟩
theorem OwnRowsZ.apart {B' : Nat} {u : Value} {us : List Value} (h : OwnRowsZ w B U e e' v xss z) (ho : Own w B' e' u us) (hg : w.grownBy w' u.ownBlock) (hB : U ≤ B') (hne : e' ≠ e) : OwnRowsZ w' B U e e' v xss z := by
  obtain ⟨rs, h1, h2, h3, h4⟩ := h
  refine ⟨rs, h1.owned ho hg hne, h2, fun i r hr => ⟨(h3 i r hr).1.grown hg (fun k hk hc => ?_), (h3 i r hr).2⟩, h4⟩
  have := ((h3 i r hr).2 k hk).1
  have := (ho.lt k hc).1
  omega
theorem OwnRowsZ.open (h : OwnRowsZ w B U e e' v xss z) (hne : e ≠ e') : ∃ rs, Own w B e v rs ∧ rs.length = xss.length ∧
    ∀ r xs w1 v' w', Ext w w1 → Own w1 U e' r (xs.map (Value.int .i64)) → Apart z r → B ≤ U → Own w' B e v' (rs ++ [r]) → w1.grownBy w' v.ownBlock → OwnRowsZ w' B w'.heap.size e e' v' (xss ++ [xs]) z := by
  obtain ⟨rs, h1, h2, h3, h4⟩ := h
  refine ⟨rs, h1, h2, fun r xs w1 v' w' x hr ha hBU hv hg => ?_⟩
  have hv1 := h1.ext x
  have hr' := hr.owned hv1 hg hne
  have hrow : ∀ i q, (rs ++ [r])[i]? = some q → (rs[i]? = some q ∧ i < rs.length) ∨ (i = rs.length ∧ q = r) := by
    intro i q hq
    rw [List.getElem?_append] at hq
    split at hq
    · exact .inl ⟨hq, by assumption⟩
    · right
      have : i - rs.length = 0 := by
        rcases Nat.eq_zero_or_pos (i - rs.length) with h | h
        · exact h
        · rw [List.getElem?_eq_none (by simp; omega)] at hq; cases hq
      rw [this] at hq
      simp at hq
      exact ⟨by omega, hq.symm⟩
  refine ⟨rs ++ [r], hv, by simp [h2], fun i q hq => ?_, fun i j q q' hq hq' hij k hk hk' => ?_⟩
  · rcases hrow i q hq with ⟨hq, hlt⟩ | ⟨rfl, rfl⟩
    · have e1 : (xss ++ [xs]).getD i [] = xss.getD i [] := by
        simp [List.getElem?_append, show i < xss.length by omega]
      rw [e1]
      have ho := ((h3 i q hq).1.ext x).owned hv1 hg hne
      exact ⟨ho, fun k hk => ⟨(ho.lt k hk).2, ((h3 i q hq).2 k hk).2⟩⟩
    · have e1 : (xss ++ [xs]).getD rs.length [] = xs := by
        simp [List.getElem?_append, h2]
      rw [e1]
      exact ⟨hr'.mono hBU, fun k hk => ⟨(hr'.lt k hk).2, fun hc => ha k hc hk⟩⟩
  · rcases hrow i q hq with ⟨hq1, _⟩ | ⟨hi1, hq1⟩ <;> rcases hrow j q' hq' with ⟨hq2, _⟩ | ⟨hj1, hq2⟩
    · exact h4 i j q q' hq1 hq2 hij k hk hk'
    · have a1 := ((h3 i q hq1).2 k hk).1
      have a2 := (hr.lt k (hq2 ▸ hk')).1
      omega
    · have a1 := ((h3 j q' hq2).2 k hk').1
      have a2 := (hr.lt k (hq1 ▸ hk)).1
      omega
    · exact hij (by omega)
end
theorem Ints.low {w : World} {e : TypeId} {v : Value} {xs : List Int} (h : Ints w e v xs) (hx : 0 < xs.length) : ∀ k, v.ownBlock = some k → k < w.heap.size := by
  intro k hk
  rcases h with ⟨h0, _⟩ | ⟨b, o, c, cur, fr, rfl, hb, _⟩
  · rw [List.map_eq_nil_iff] at h0; subst h0; simp at hx
  · simp [Value.ownBlock] at hk
    subst hk
    exact lt_of_block hb
section three
variable {P : Program} {N : Nat} {ops : Array Oper} {Q : Exit → Act → World → Prop} {S : World → Prop} {k fuel : Nat} {listed : Array Bool} {l : Slots} {w : World}
theorem Gq.three {o o' o'' : Oper} (i j m : Nat) (hi : ops[i]? = some o) (hj : ops[j]? = some o') (hm : ops[m]? = some o'') (hr : (Region.ready .any ops listed == [i, j, m]) = true) (h : Sq P N ops (AfterG P ops Q S k fuel i listed) [o] l w) (h' : Sq P N ops (AfterG P ops Q S k fuel j listed) [o'] l w) (h'' : Sq P N ops (AfterG P ops Q S k fuel m listed) [o''] l w) : Gq P N ops Q S k (fuel + 1) listed l w := by
  intro a ha
  have hr' : Region.ready .any ops listed = [i, j, m] := by simpa using hr
  refine ⟨fun h0 => absurd (hr' ▸ h0) (by simp), fun n hn => ?_⟩
  rw [hr'] at hn
  rcases List.mem_cons.1 hn with rfl | hn
  · exact wpOp_of_list (Q' := AfterG P ops Q S k fuel _ listed) hi (fun _ _ => rfl) (fun _ _ _ => rfl) (fun _ _ => rfl) (h a ha)
  · rcases List.mem_cons.1 hn with rfl | hn
    · exact wpOp_of_list (Q' := AfterG P ops Q S k fuel _ listed) hj (fun _ _ => rfl) (fun _ _ _ => rfl) (fun _ _ => rfl) (h' a ha)
    · obtain rfl : n = m := by simpa using hn
      exact wpOp_of_list (Q' := AfterG P ops Q S k fuel _ listed) hm (fun _ _ => rfl) (fun _ _ _ => rfl) (fun _ _ => rfl) (h'' a ha)
end three
def idxG {α : Type} [DecidableEq α] (ps : List α) (p : α) : Nat := ps.idxOf p
theorem idxG_lt {α : Type} [DecidableEq α] {xs : List α} {x : α} (h : x ∈ xs) : idxG xs x < xs.length := List.idxOf_lt_length_iff.2 h
section wid2
variable {w : World} {B : Nat} {e : TypeId} {v : Value} {ps : List (Int × Int)}
theorem Wid.shape {n : Nat} {rows : List (List Value)} (h : Wid w B e n v rows) : ∃ p c, v = .slice p rows.length c := by
  rcases h.cases with ⟨rfl, rfl⟩ | ⟨g, cap, cs, rfl, _⟩
  · exact ⟨none, 0, rfl⟩
  · exact ⟨_, _, rfl⟩
end wid2
section wid3
variable {P : Program} {N : Nat} {ops : Array Oper} {Q : Exit → Act → World → Prop} {rest : List Oper} {l : Slots} {w : World}
variable {d : Nat} {ty : TypeId} {pos : String} {after : Array Edge} {g : Option (Nat × Bool)}
end wid3
theorem addAll_le {α : Type} [DecidableEq α] : ∀ (xs ns : List α), (addAll ns xs).length ≤ ns.length + xs.length
  | [], ns => Nat.le_refl _
  | x :: xs, ns => by
    rw [addAll_cons]
    have h := addAll_le xs (addNode ns x)
    have h2 : (addNode ns x).length ≤ ns.length + 1 := by
      unfold addNode
      split
      · omega
      · simp
    simp only [List.length_cons]
    omega
theorem Wid.low {w : World} {B n : Nat} {e : TypeId} {v : Value} {rows : List (List Value)} (h : Wid w B e n v rows) : ∀ k, v.ownBlock = some k → k < w.heap.size := fun k hk => (h.lt k hk).2
end Go.Proofs.YtdkdpmmfebdeaaaDoor
set_option linter.unusedSimpArgs false
set_option linter.unusedVariables false
namespace Go.Proofs.YtdkdpmmfebdeaaaDoor
def lexLt : List Int → List Int → Prop
  | [], [] => False
  | [], _ :: _ => True
  | _ :: _, [] => False
  | x :: v, y :: w => x < y ∨ (x = y ∧ lexLt v w)
def sl (v w : List Int) : Prop := v.length < w.length ∨ (v.length = w.length ∧ lexLt v w)
def sle (v w : List Int) : Prop := v = w ∨ sl v w
def nodeOf {α : Type} (f : α → Int → α) (s : α) (w : List Int) : α := w.foldl f s
section
variable {α : Type} [DecidableEq α]
def wadd (f : α → Int → α) (s : α) (ws : List (List Int)) (v : List Int) : List (List Int) := if nodeOf f s v ∈ ws.map (nodeOf f s) then ws else ws ++ [v]
variable {f : α → Int → α} {s : α} {L : List Int}
end
end Go.Proofs.YtdkdpmmfebdeaaaDoor
set_option linter.unusedSimpArgs false
set_option linter.unusedVariables false
namespace Go.Proofs.YtdkdpmmfebdeaaaDoor
open Go.RowKit
def stepV (r : Int × Int × Value) : List Value := [.int .i64 r.1, .int .i64 r.2.1, r.2.2]
def rows3 (rs : List (Int × Int × Value)) : List (List Value) := rs.map stepV
section
variable {w w' : World} {B : Nat} {e : TypeId} {v : Value} {rs : List (Int × Int × Value)}
end
def Link (ws : List (List Int)) (p l : Int) (v : List Int) : Prop := (v = [] ∧ p = -1) ∨ ∃ u, v = u ++ [l] ∧ 0 ≤ p ∧ ws[p.toNat]? = some u
structure Trail (w : World) (I : TypeId) (f : Int → Int → Int) (s : Int) (ws : List (List Int)) (rs : List (Int × Int × Value)) : Prop where
  len : rs.length = ws.length
  row : ∀ (j : Nat) (v : List Int), ws[j]? = some v → ∃ p l fv, rs[j]? = some (p, l, fv) ∧ Link ws p l v ∧ Ints w I fv [nodeOf f s v]
  lets : ∀ v ∈ ws, ∀ x ∈ v, 0 ≤ x ∧ x < 6
section
variable {w w' : World} {I : TypeId} {f : Int → Int → Int} {s : Int} {ws : List (List Int)} {rs : List (Int × Int × Value)}
theorem Trail.map (h : Trail w I f s ws rs) (k : ∀ v xs, Ints w I v xs → Ints w' I v xs) : Trail w' I f s ws rs :=
  ⟨h.len, fun j v hv => by
    obtain ⟨p, l, fv, h1, h2, h3⟩ := h.row j v hv
    exact ⟨p, l, fv, h1, h2, k _ _ h3⟩, h.lets⟩
theorem Trail.ext (h : Trail w I f s ws rs) (x : Ext w w') : Trail w' I f s ws rs := h.map fun _ _ h => h.ext x
theorem Trail.owned {B : Nat} {t : TypeId} {u : Value} {us : List Value} (h : Trail w I f s ws rs) (ho : Own w B t u us) (hg : w.grownBy w' u.ownBlock) (hne : t ≠ I) : Trail w' I f s ws rs := h.map fun _ _ h => Row.owned h ho hg hne
theorem Trail.stored {g : Nat} {t : TypeId} {cs : List Value} (h : Trail w I f s ws rs) (hg : w.grownBy w' (some g)) (hb : Blk w g t cs) (hne : t ≠ I) : Trail w' I f s ws rs := h.map fun _ _ h => Row.stored h hg hb hne
theorem Trail.nil (w : World) (I : TypeId) (f : Int → Int → Int) (s : Int) : Trail w I f s [] [] := ⟨rfl, by simp, by simp⟩
end
def seenOf (n : Nat) (ns : List Int) : List Bool := (List.range n).map fun (i : Nat) => decide ((i : Int) ∈ ns)
def NClo (P : Program) (w0 : World) (I : TypeId) (fv : Value) (D : Int → Prop) (f : Int → Int → Int) : Prop :=
  ∃ k fn, ∃ cs : List Value, fv = .func (.func k) #[] cs.toArray ∧ Fn P k fn ∧ ∀ w q x, Ext w0 w → D q → 0 ≤ x ∧ x < 6 → Ret P k ([Value.int .i64 q, Value.int .i64 x, Value.slice none 0 0] ++ cs).toArray w fun v w' => Own w' w.heap.size I v [Value.int .i64 (f q x)] ∧ Ext w w'
def GClo (P : Program) (w0 : World) (gv : Value) (D : Int → Prop) (G : Int → Bool) : Prop :=
  ∃ k fn, ∃ cs : List Value, gv = .func (.func k) #[] cs.toArray ∧ Fn P k fn ∧ ∀ w q, Ext w0 w → D q → Ret P k ([Value.int .i64 q] ++ cs).toArray w fun v w' => v = .bool (G q) ∧ Ext w w'
theorem NClo.up {P : Program} {w0 w1 : World} {I : TypeId} {fv : Value} {D : Int → Prop} {f : Int → Int → Int} (h : NClo P w0 I fv D f) (x : Ext w0 w1) : NClo P w1 I fv D f := by
  obtain ⟨k, fn, cs, h1, h2, h3⟩ := h
  exact ⟨k, fn, cs, h1, h2, fun w q y hw hq hy => h3 w q y (x.trans hw) hq hy⟩
theorem GClo.up {P : Program} {w0 w1 : World} {gv : Value} {D : Int → Prop} {G : Int → Bool} (h : GClo P w0 gv D G) (x : Ext w0 w1) : GClo P w1 gv D G := by
  obtain ⟨k, fn, cs, h1, h2, h3⟩ := h
  exact ⟨k, fn, cs, h1, h2, fun w q hw hq => h3 w q (x.trans hw) hq⟩
def BClo (P : Program) (w0 : World) (gv : Value) (g : Bool → Bool → Bool) : Prop :=
  ∃ k fn, ∃ cs : List Value, gv = .func (.func k) #[] cs.toArray ∧ Fn P k fn ∧ ∀ w x y, Ext w0 w → Ret P k ([Value.bool x, Value.bool y] ++ cs).toArray w fun v w' => v = .bool (g x y) ∧ Ext w w'
theorem BClo.up {P : Program} {w0 w1 : World} {gv : Value} {g : Bool → Bool → Bool} (h : BClo P w0 gv g) (x : Ext w0 w1) : BClo P w1 gv g := by
  obtain ⟨k, fn, cs, h1, h2, h3⟩ := h
  exact ⟨k, fn, cs, h1, h2, fun w a b hw => h3 w a b (x.trans hw)⟩
theorem BClo.one {P : Program} {w0 : World} {gv : Value} {g : Bool → Bool → Bool} (h : BClo P w0 gv g) : gv.oneCell' = true := by
  obtain ⟨k, fn, cs, h1, _⟩ := h
  rw [h1]; rfl
def SMem (wb w : World) (I Bo LB S LS GT : TypeId) (B bs bt bg : Nat) (gv : Value) (n : Nat) (f : Int → Int → Int) (s : Int) (ws : List (List Int)) : Prop :=
  ∃ sv tv rs, Blk w bs LB [sv] ∧ Own w B Bo sv ((seenOf n (ws.map (nodeOf f s))).map Value.bool) ∧ Blk w bt LS [tv] ∧ Wid w B S 3 tv (rows3 rs) ∧ Trail w I f s ws rs ∧ Blk w bg GT [gv] ∧ Ext wb w ∧ wb.heap.size ≤ B ∧ wb.heap.size ≤ bs ∧ wb.heap.size ≤ bt ∧ B ≤ w.heap.size
section
variable {wb w w' : World} {I Bo LB S LS GT : TypeId} {B bs bt bg n : Nat} {gv : Value} {f : Int → Int → Int} {s : Int} {ws : List (List Int)}
theorem SMem.ext (h : SMem wb w I Bo LB S LS GT B bs bt bg gv n f s ws) (x : Ext w w') : SMem wb w' I Bo LB S LS GT B bs bt bg gv n f s ws := by
  obtain ⟨sv, tv, rs, h1, h2, h3, h4, h5, h6, h7, h8, h9, h10, h11⟩ := h
  exact ⟨sv, tv, rs, h1.ext x, h2.ext x, h3.ext x, h4.ext x, h5.ext x, h6.ext x, h7.trans x, h8, h9, h10, Nat.le_trans h11 (Below.size x)⟩
theorem SMem.base (h : SMem wb w I Bo LB S LS GT B bs bt bg gv n f s ws) : Ext wb w := by
  obtain ⟨sv, tv, rs, h1, h2, h3, h4, h5, h6, h7, h8⟩ := h
  exact h7
end
theorem Wid.one {w : World} {B n : Nat} {e : TypeId} {v : Value} {rows : List (List Value)} (h : Wid w B e n v rows) : v.oneCell' = true := by
  rcases h.cases with ⟨rfl, _⟩ | ⟨g, cap, cs, rfl, _⟩ <;> rfl
section
variable {f : Int → Int → Int} {s : Int} {L : List Int} {G : Int → Bool}
end
section maps
variable {α β : Type} [DecidableEq α] [DecidableEq β] {f : α → Int → α} {s : α} {L : List Int} {f' : β → Int → β} {g : α → β} {P : α → Prop}
end maps
end Go.Proofs.YtdkdpmmfebdeaaaDoor
set_option linter.unusedSimpArgs false
set_option linter.unusedVariables false
namespace Go.Proofs.YtdkdpmmfebdeaaaDoor
open Go.RowKit
section
variable {w w' : World} {B n : Nat} {e : TypeId} {v : Value} {rows : List (List Value)}
theorem Wid.rowAt (h : Wid w B e n v rows) {i : Int} (h0 : 0 ≤ i) {r : List Value} (hr : rows[i.toNat]? = some r) : ∃ g c, v = .slice (some ⟨g, 0, none⟩) rows.length c ∧ i.toNat < rows.length := by
  have hi := (List.getElem?_eq_some_iff.1 hr).1
  obtain ⟨g, c, hv, _⟩ := h.at h0 (by omega)
  exact ⟨g, c, hv, hi⟩
end
def NetA (w : World) (AU SI I Bo : TypeId) (av : Value) (aas : List A) : Prop :=
  ∃ B rows, Wid w B AU 3 av rows ∧ rows.length = aas.length ∧ ∀ (j : Nat) (a : A), aas[j]? = some a → ∃ nx ac, rows[j]? = some [.int .i64 a.al, nx, ac] ∧ Rows w SI I nx a.next ∧ Bools w Bo ac a.acc
theorem NetA.ext {w w' : World} {AU SI I Bo : TypeId} {av : Value} {aas : List A} (h : NetA w AU SI I Bo av aas) (x : Ext w w') : NetA w' AU SI I Bo av aas := by
  obtain ⟨B, rows, h1, h2, h3⟩ := h
  refine ⟨B, rows, h1.ext x, h2, fun j a ha => ?_⟩
  obtain ⟨nx, ac, g1, g2, g3⟩ := h3 j a ha
  exact ⟨nx, ac, g1, g2.ext x, g3.ext x⟩
theorem NetA.one {w : World} {AU SI I Bo : TypeId} {av : Value} {aas : List A} (h : NetA w AU SI I Bo av aas) : av.oneCell' = true := by
  obtain ⟨B, rows, h1, _⟩ := h
  exact h1.one
def Cell1 (w : World) (p : Addr) (u : Value) : Prop := w.cell? p = some u
theorem Cell1.ext {w w' : World} {p : Addr} {u : Value} (h : Cell1 w p u) (x : Ext w w') : Cell1 w' p u := by
  have hb := World.block_lt_of_cell? w p h
  unfold Cell1 at *
  rw [← h]
  unfold World.cell?
  rw [x.block p.block hb]
theorem at_getD {α : Type} {l : List α} {k : Nat} {d : α} (h : k < l.length) : l[k]? = some (l.getD k d) := by
  rw [List.getD_eq_getElem?_getD, List.getElem?_eq_getElem h]; rfl
def Read3 (w : World) (e3 e2 e1 : TypeId) (v : Value) (xsss : List (List (List Int))) : Prop := ∃ rs, Row w e3 v rs ∧ rs.length = xsss.length ∧ ∀ (i : Nat) (r : Value), rs[i]? = some r → Rows w e2 e1 r (xsss.getD i [])
def RowU (w : World) (U : Nat) (e : TypeId) (v : Value) (vs : List Value) : Prop := Row w e v vs ∧ ∀ k, v.ownBlock = some k → k < U
def RowsU (w : World) (U : Nat) (e e' : TypeId) (v : Value) (xss : List (List Int)) : Prop := ∃ rs, RowU w U e v rs ∧ rs.length = xss.length ∧ ∀ (i : Nat) (r : Value), rs[i]? = some r → RowU w U e' r ((xss.getD i []).map (Value.int .i64))
def Own3 (w : World) (B U : Nat) (e3 e2 e1 : TypeId) (v : Value) (xsss : List (List (List Int))) : Prop := ∃ rs, Own w B e3 v rs ∧ rs.length = xsss.length ∧ ∀ (i : Nat) (r : Value), rs[i]? = some r → RowsU w U e2 e1 r (xsss.getD i [])
section
variable {w w' : World} {B U : Nat} {e e' e1 e2 e3 : TypeId} {v : Value} {vs : List Value} {xss : List (List Int)} {xsss : List (List (List Int))}
theorem RowU.ext (h : RowU w U e v vs) (x : Ext w w') : RowU w' U e v vs := ⟨h.1.ext x, h.2⟩
theorem RowU.apart {g : Nat} (h : RowU w U e v vs) (hg : w.grownBy w' (some g)) (hU : U ≤ g) : RowU w' U e v vs := by
  refine ⟨?_, h.2⟩
  rcases h.1 with h1 | ⟨b, o, c, cur, fr, hv, hb, hx⟩
  · exact .inl h1
  · refine .inr ⟨b, o, c, cur, fr, hv, ?_, hx⟩
    have hlt := h.2 b (by rw [hv]; rfl)
    rw [hg.block b (lt_of_block hb) (fun h => by injection h with h; omega)]
    exact hb
theorem RowU.other {B' : Nat} {t : TypeId} {u : Value} {us : List Value} (h : RowU w U e v vs) (ho : Own w B' t u us) (hg : w.grownBy w' u.ownBlock) (hne : t ≠ e) : RowU w' U e v vs := ⟨h.1.owned ho hg hne, h.2⟩
theorem RowsU.ext (h : RowsU w U e e' v xss) (x : Ext w w') : RowsU w' U e e' v xss := by
  obtain ⟨rs, h1, h2, h3⟩ := h
  exact ⟨rs, h1.ext x, h2, fun i r hr => (h3 i r hr).ext x⟩
theorem RowsU.apart {g : Nat} (h : RowsU w U e e' v xss) (hg : w.grownBy w' (some g)) (hU : U ≤ g) : RowsU w' U e e' v xss := by
  obtain ⟨rs, h1, h2, h3⟩ := h
  exact ⟨rs, h1.apart hg hU, h2, fun i r hr => (h3 i r hr).apart hg hU⟩
theorem RowsU.other {B' : Nat} {t : TypeId} {u : Value} {us : List Value} (h : RowsU w U e e' v xss) (ho : Own w B' t u us) (hg : w.grownBy w' u.ownBlock) (hne : t ≠ e) (hne' : t ≠ e') : RowsU w' U e e' v xss := by
  obtain ⟨rs, h1, h2, h3⟩ := h
  exact ⟨rs, h1.other ho hg hne, h2, fun i r hr => (h3 i r hr).other ho hg hne'⟩
theorem RowsU.up {U' : Nat} (h : RowsU w U e e' v xss) (hU : U ≤ U') : RowsU w U' e e' v xss := by
  obtain ⟨rs, h1, h2, h3⟩ := h
  exact ⟨rs, ⟨h1.1, fun k hk => Nat.lt_of_lt_of_le (h1.2 k hk) hU⟩, h2, fun i r hr => ⟨(h3 i r hr).1, fun k hk => Nat.lt_of_lt_of_le ((h3 i r hr).2 k hk) hU⟩⟩
theorem RowsU.rows (h : RowsU w U e e' v xss) : Rows w e e' v xss := by
  obtain ⟨rs, h1, h2, h3⟩ := h
  exact ⟨rs, h1.1, h2, fun i r hr => (h3 i r hr).1⟩
theorem RowsU.of (h : OwnRows w B w.heap.size e e' v xss) : RowsU w w.heap.size e e' v xss := by
  obtain ⟨rs, h1, h2, h3, h4⟩ := h
  exact ⟨rs, ⟨h1.row, fun k hk => (h1.lt k hk).2⟩, h2, fun i r hr => ⟨(h3 i r hr).1.row, (h3 i r hr).2⟩⟩
theorem Own3.nil (w : World) (B U : Nat) (e3 e2 e1 : TypeId) {v : Value} (h : Own w B e3 v []) : Own3 w B U e3 e2 e1 v [] := ⟨[], h, rfl, by simp⟩
theorem Own3.now (h : Own3 w B U e3 e2 e1 v xsss) (hU : U ≤ w.heap.size := by omega) : Own3 w B w.heap.size e3 e2 e1 v xsss := by
  obtain ⟨rs, h1, h2, h3⟩ := h
  exact ⟨rs, h1, h2, fun i r hr => (h3 i r hr).up hU⟩
theorem Own3.ext (h : Own3 w B U e3 e2 e1 v xsss) (x : Ext w w') : Own3 w' B U e3 e2 e1 v xsss := by
  obtain ⟨rs, h1, h2, h3⟩ := h
  exact ⟨rs, h1.ext x, h2, fun i r hr => (h3 i r hr).ext x⟩
theorem Own3.apart {B' : Nat} {t : TypeId} {u : Value} {us : List Value} (h : Own3 w B U e3 e2 e1 v xsss) (ho : Own w B' t u us) (hg : w.grownBy w' u.ownBlock) (hB : U ≤ B') (hne : t ≠ e3) : Own3 w' B U e3 e2 e1 v xsss := by
  obtain ⟨rs, h1, h2, h3⟩ := h
  refine ⟨rs, h1.owned ho hg hne, h2, fun i r hr => ?_⟩
  rcases ho.cases with ⟨rfl, rfl⟩ | ⟨g, cap, cs, rfl, hg', hb, _⟩
  · exact (h3 i r hr).ext (Ext.of_grown hg)
  · exact (h3 i r hr).apart (g := g) hg (Nat.le_trans hB hg')
theorem Own3.open (h : Own3 w B U e3 e2 e1 v xsss) (hne : e3 ≠ e2) (hne' : e3 ≠ e1) : ∃ rs, Own w B e3 v rs ∧ rs.length = xsss.length ∧
    ∀ r xss w1 v' w', Ext w w1 → RowsU w1 w1.heap.size e2 e1 r xss → U ≤ w1.heap.size → Own w' B e3 v' (rs ++ [r]) → w1.grownBy w' v.ownBlock → Own3 w' B w'.heap.size e3 e2 e1 v' (xsss ++ [xss]) := by
  obtain ⟨rs, h1, h2, h3⟩ := h
  refine ⟨rs, h1, h2, fun r xss w1 v' w' x hr hU hv hg => ?_⟩
  have hv1 := h1.ext x
  have hsz := World.grownBy.size hg
  refine ⟨rs ++ [r], hv, by simp [h2], fun i q hq => ?_⟩
  rcases Nat.lt_or_ge i rs.length with hi | hi
  · rw [List.getElem?_append_left hi] at hq
    have e4 : (xsss ++ [xss]).getD i [] = xsss.getD i [] := by
      rw [List.getD_eq_getElem?_getD, List.getElem?_append_left (by omega), ← List.getD_eq_getElem?_getD]
    rw [e4]
    exact (((h3 i q hq).ext x).other hv1 hg hne hne').up (by omega)
  · have hi2 := (List.getElem?_eq_some_iff.1 hq).1
    rw [List.length_append, List.length_singleton] at hi2
    obtain rfl : i = rs.length := by omega
    rw [List.getElem?_append_right (Nat.le_refl _), Nat.sub_self] at hq
    have hq' : r = q := by simpa using hq
    subst hq'
    have e4 : (xsss ++ [xss]).getD rs.length [] = xss := by
      rw [h2, List.getD_eq_getElem?_getD, List.getElem?_append_right (Nat.le_refl _), Nat.sub_self]; rfl
    rw [e4]
    exact (hr.other hv1 hg hne hne').up hsz
theorem Read3.ext (h : Read3 w e3 e2 e1 v xsss) (x : Ext w w') : Read3 w' e3 e2 e1 v xsss := by
  obtain ⟨rs, h1, h2, h3⟩ := h
  exact ⟨rs, h1.ext x, h2, fun i r hr => (h3 i r hr).ext x⟩
theorem Read3.at (h : Read3 w e3 e2 e1 v xsss) {i : Int} (hi : 0 ≤ i) (hlt : i.toNat < xsss.length) : ∃ p r, At w e3 v i p r ∧ Rows w e2 e1 r (xsss.getD i.toNat []) := by
  obtain ⟨rs, h1, h2, h3⟩ := h
  have hl : i.toNat < rs.length := by omega
  obtain ⟨p, hp⟩ := h1.at hi hl
  exact ⟨p, rs[i.toNat], hp, h3 _ _ (List.getElem?_eq_getElem hl)⟩
end
section
variable {f : Int → Int → Int} {L : List Int} {G : Int → Bool} {n : Nat}
end
section
variable {w : World} {B : Nat} {AU SI I Bo : TypeId} {v nx ac nx' ac' : Value} {a b : A}
end
end Go.Proofs.YtdkdpmmfebdeaaaDoor
set_option linter.unusedSimpArgs false
set_option linter.unusedVariables false
namespace Go.Proofs.YtdkdpmmfebdeaaaDoor
def IsFirst (L : List Int) (G : List Int → Bool) : Option (List Int) → Prop
  | some w => (∀ x ∈ w, x ∈ L) ∧ G w = true ∧ ∀ v : List Int, (∀ x ∈ v, x ∈ L) → G v = true → sle w v
  | none => ∀ v : List Int, (∀ x ∈ v, x ∈ L) → G v = false
theorem IsFirst.isSome {L : List Int} {G : List Int → Bool} {o : Option (List Int)} (h : IsFirst L G o) : o.isSome = true ↔ ∃ v : List Int, (∀ x ∈ v, x ∈ L) ∧ G v = true := by
  cases o with
  | none => exact ⟨fun h' => (by cases h'), fun ⟨v, hv, hg⟩ => by rw [h v hv] at hg; cases hg⟩
  | some w => exact ⟨fun _ => ⟨w, h.1, h.2.1⟩, fun _ => rfl⟩
theorem IsFirst.isNone {L : List Int} {G : List Int → Bool} {o : Option (List Int)} (h : IsFirst L G o) : o.isSome = false ↔ ∀ v : List Int, (∀ x ∈ v, x ∈ L) → G v = false := by
  cases o with
  | none => exact ⟨fun _ => h, fun _ => rfl⟩
  | some w => exact ⟨fun h' => (by cases h'), fun h' => by have := h' w h.1; rw [h.2.1] at this; cases this⟩
section
variable {a b : A}
end
end Go.Proofs.YtdkdpmmfebdeaaaDoor
set_option linter.unusedSimpArgs false
set_option linter.unusedVariables false
namespace Go.Proofs.YtdkdpmmfebdeaaaDoor
section
variable {a b : A}
end
section
open Classical
variable {α : Type} {f : α → Int → α} {L : List Int} {G : α → Bool} {U : List α}
def Alike (f : α → Int → α) (L : List Int) (G : α → Bool) (k : Nat) (x y : α) : Prop := ∀ w : List Int, w.length < k → (∀ l ∈ w, l ∈ L) → G (nodeOf f x w) = G (nodeOf f y w)
theorem Alike.refl (k : Nat) (x : α) : Alike f L G k x x := fun _ _ _ => rfl
theorem Alike.symm {k : Nat} {x y : α} (h : Alike f L G k x y) : Alike f L G k y x := fun w h1 h2 => (h w h1 h2).symm
theorem Alike.trans {k : Nat} {x y z : α} (h : Alike f L G k x y) (h' : Alike f L G k y z) : Alike f L G k x z := fun w h1 h2 => (h w h1 h2).trans (h' w h1 h2)
end
section
variable {a b : A}
end
end Go.Proofs.YtdkdpmmfebdeaaaDoor
set_option linter.unusedSimpArgs false
set_option linter.unusedVariables false
namespace Go.Proofs.YtdkdpmmfebdeaaaDoor
section
variable {κ μ : Type} [DecidableEq κ] [DecidableEq μ] {xs : List κ}
def dd (xs : List κ) : List κ := addAll [] xs
def canon (xs : List κ) : List Int := xs.map fun x => (idxG (dd xs) x : Int)
theorem mem_dd {x : κ} : x ∈ dd xs ↔ x ∈ xs := by unfold dd; rw [mem_addAll]; simp
theorem dd_nodup : (dd xs).Nodup := nodup_addAll List.nodup_nil
theorem dd_snoc (xs : List κ) (x : κ) : dd (xs ++ [x]) = addNode (dd xs) x := addAll_snoc _ _ _
theorem dd_le (xs : List κ) : (dd xs).length ≤ xs.length := by have := addAll_le xs ([] : List κ); simpa [dd] using this
theorem dd_map {g : κ → μ} (hg : ∀ x ∈ xs, ∀ y ∈ xs, g x = g y → x = y) : dd (xs.map g) = (dd xs).map g := by
  have := addAll_map (P := (· ∈ xs)) (g := g) (fun a b ha hb => hg a ha b hb) (xs := xs) (ns := []) (by simp) (fun a h => h)
  exact this
theorem canon_map {g : κ → μ} (hg : ∀ x ∈ xs, ∀ y ∈ xs, g x = g y → x = y) : canon (xs.map g) = canon xs := by
  unfold canon
  rw [dd_map hg, List.map_map]
  refine List.map_congr_left fun x hx => ?_
  show (((dd xs).map g).idxOf (g x) : Int) = ((dd xs).idxOf x : Int)
  rw [idx_map (P := (· ∈ xs)) (fun a b ha hb => hg a ha b hb) (fun a ha => mem_dd.1 ha) hx]
theorem canon_length (xs : List κ) : (canon xs).length = xs.length := List.length_map _
theorem idx_inj {ns : List κ} {x y : κ} (hx : x ∈ ns) (hy : y ∈ ns) (e : ns.idxOf x = ns.idxOf y) : x = y := by
  have h1 := getElem_idx hx
  rw [e, getElem_idx hy] at h1
  exact (Option.some.inj h1).symm
theorem idxI_inj : ∀ x ∈ xs, ∀ y ∈ xs, (idxG (dd xs) x : Int) = (idxG (dd xs) y : Int) → x = y := fun x hx y hy e => idx_inj (mem_dd.2 hx) (mem_dd.2 hy) (by unfold idxG at e; omega)
theorem canon_canon : canon (canon xs) = canon xs := canon_map idxI_inj
theorem dd_canon_length : (dd (canon xs)).length = (dd xs).length := by unfold canon; rw [dd_map idxI_inj, List.length_map]
theorem all_new : ∀ {xs ns : List κ}, (addAll ns xs).length = ns.length + xs.length → xs.Nodup ∧ ∀ x ∈ xs, x ∉ ns
  | [], _, _ => ⟨List.nodup_nil, by simp⟩
  | x :: xs, ns, h => by
    rw [addAll_cons, List.length_cons] at h
    by_cases hx : x ∈ ns
    · rw [addNode_T hx] at h
      have := addAll_le xs ns
      omega
    · rw [addNode_F hx] at h
      have h2 := all_new (xs := xs) (ns := ns ++ [x]) (by rw [h, List.length_append]; simp; omega)
      refine ⟨List.nodup_cons.2 ⟨fun hc => h2.2 x hc (by simp), h2.1⟩, fun y hy => ?_⟩
      rcases List.mem_cons.1 hy with rfl | hy
      · exact hx
      · exact fun hc => h2.2 y hy (by simp [hc])
theorem dd_map_le (g : κ → μ) : (dd (xs.map g)).length ≤ (dd xs).length := by
  have h : ∀ y ∈ dd (xs.map g), y ∈ (dd xs).map g := fun y hy => by
    obtain ⟨x, hx, rfl⟩ := List.mem_map.1 (mem_dd.1 hy)
    exact List.mem_map.2 ⟨x, mem_dd.2 hx, rfl⟩
  have := nodup_len dd_nodup h
  rwa [List.length_map] at this
omit [DecidableEq κ] [DecidableEq μ] in
theorem inj_of_nodup {g : κ → μ} : ∀ {l : List κ}, (l.map g).Nodup → ∀ x ∈ l, ∀ y ∈ l, g x = g y → x = y
  | [], _, x, hx, _, _, _ => by cases hx
  | z :: l, h, x, hx, y, hy, e => by
    rw [List.map_cons, List.nodup_cons] at h
    rcases List.mem_cons.1 hx with h1 | h1 <;> rcases List.mem_cons.1 hy with h2 | h2
    · rw [h1, h2]
    · exact absurd (List.mem_map.2 ⟨y, h2, by rw [← e, h1]⟩) h.1
    · exact absurd (List.mem_map.2 ⟨x, h1, by rw [e, h2]⟩) h.1
    · exact inj_of_nodup h.2 x h1 y h2 e
theorem dd_map_inj {g : κ → μ} (h : (dd (xs.map g)).length = (dd xs).length) : ∀ x ∈ xs, ∀ y ∈ xs, g x = g y → x = y := by
  have h1 : ∀ y ∈ dd (xs.map g), y ∈ addAll [] ((dd xs).map g) := fun y hy => by
    obtain ⟨x, hx, rfl⟩ := List.mem_map.1 (mem_dd.1 hy)
    exact mem_addAll.2 (.inr (List.mem_map.2 ⟨x, mem_dd.2 hx, rfl⟩))
  have h2 := nodup_len dd_nodup h1
  have h3 := addAll_le ((dd xs).map g) ([] : List μ)
  have h4 := (all_new (xs := (dd xs).map g) (ns := []) (by rw [List.length_map, List.length_nil] at *; omega)).1
  intro x hx y hy e
  exact inj_of_nodup h4 x (mem_dd.2 hx) y (mem_dd.2 hy) e
theorem dd_prefix (xs : List κ) (k : Nat) : dd (xs.take k) <+: dd xs := by
  conv => rhs; rw [← List.take_append_drop k xs]
  unfold dd addAll
  rw [List.foldl_append]
  exact addAll_prefix _ _
theorem dd_step {k : Nat} (hk : k < xs.length) : dd (xs.take (k + 1)) = addNode (dd (xs.take k)) xs[k] := by
  rw [List.take_succ_eq_append_getElem hk, dd_snoc]
theorem idx_old {k : Nat} {x : κ} (hx : x ∈ dd (xs.take k)) : idxG (dd xs) x = idxG (dd (xs.take k)) x := idx_prefix (dd_prefix xs k) hx
theorem idx_fresh {k : Nat} (hk : k < xs.length) (hx : xs[k] ∉ dd (xs.take k)) : idxG (dd xs) xs[k] = (dd (xs.take k)).length := by
  have h1 : xs[k] ∈ dd (xs.take (k + 1)) := by rw [dd_step hk]; exact mem_addNode.2 (.inr rfl)
  rw [idx_old h1, dd_step hk]
  exact idx_new hx
end
section
variable {a : A}
def keyQ (a : A) (cs : List Int) (q : Nat) : List Int := cs.getD q 0 :: (a.next.getD q []).map fun t => cs.getD t.toNat 0
def keys (a : A) (cs : List Int) : List (List Int) := (List.range a.next.length).map (keyQ a cs)
def refine' (a : A) (cs : List Int) : List Int := canon (keys a cs)
def cls0 (a : A) : List Int := a.acc.map fun b => if b then 1 else 0
def clsN (a : A) : Nat → List Int
  | 0 => cls0 a
  | r + 1 => refine' a (clsN a r)
def mN (a : A) : Nat → Nat
  | 0 => 0
  | r + 1 => (dd (keys a (clsN a r))).length
def classes (a : A) : List Int := clsN a (a.next.length + 1)
theorem keys_length (cs : List Int) : (keys a cs).length = a.next.length := by simp [keys]
theorem keys_at {cs : List Int} {q : Nat} (h : q < a.next.length) : (keys a cs)[q]? = some (keyQ a cs q) := by
  rw [keys, List.getElem?_map, List.getElem?_range h]; rfl
theorem clsN_length (hv : validA a = true) : ∀ r, (clsN a r).length = a.next.length
  | 0 => by rw [clsN, cls0, List.length_map]; exact (validA_spec.1 hv).2.2.1
  | r + 1 => by rw [clsN, refine', canon_length, keys_length]
theorem clsN_at {r q : Nat} (h : q < a.next.length) : (clsN a (r + 1)).getD q 0 = (idxG (dd (keys a (clsN a r))) (keyQ a (clsN a r) q) : Int) := by
  rw [clsN, refine', canon, List.getD_eq_getElem?_getD, List.getElem?_map, keys_at h]; rfl
theorem keyQ_mem {cs : List Int} {q : Nat} (h : q < a.next.length) : keyQ a cs q ∈ keys a cs := List.mem_map.2 ⟨q, List.mem_range.2 h, rfl⟩
theorem heads (hv : validA a = true) (r : Nat) : (keys a (clsN a r)).map (fun k => k.headD 0) = clsN a r := by
  have hl := clsN_length hv r
  apply List.ext_getElem?
  intro i
  rw [List.getElem?_map]
  rcases Nat.lt_or_ge i a.next.length with h | h
  · rw [keys_at h]
    show some ((clsN a r).getD i 0) = _
    rw [List.getD_eq_getElem?_getD, List.getElem?_eq_getElem (by omega)]; rfl
  · rw [List.getElem?_eq_none (by rw [keys_length]; exact h), List.getElem?_eq_none (by omega)]; rfl
theorem mN_cls (r : Nat) : (dd (clsN a (r + 1))).length = mN a (r + 1) := dd_canon_length
theorem mN_mono (hv : validA a = true) : ∀ r, mN a r ≤ mN a (r + 1)
  | 0 => Nat.zero_le _
  | r + 1 => by
    have := dd_map_le (xs := keys a (clsN a (r + 1))) (fun k : List Int => k.headD 0)
    rw [heads hv, mN_cls] at this
    exact this
theorem mN_le (r : Nat) : mN a r ≤ a.next.length := by
  cases r with
  | zero => exact Nat.zero_le _
  | succ r => have := dd_le (keys a (clsN a r)); rw [keys_length] at this; exact this
theorem mN_one (hv : validA a = true) : 1 ≤ mN a 1 := List.length_pos_of_mem (mem_dd.2 (keyQ_mem (q := 0) (by have := (validA_spec.1 hv).2.1; omega)))
theorem stop_one (hv : validA a = true) {r : Nat} (h : mN a (r + 2) = mN a (r + 1)) : clsN a (r + 2) = clsN a (r + 1) := by
  have e : (dd ((keys a (clsN a (r + 1))).map fun k : List Int => k.headD 0)).length = (dd (keys a (clsN a (r + 1)))).length := by rw [heads hv, mN_cls]; exact h.symm
  have e2 := canon_map (dd_map_inj e)
  rw [heads hv] at e2
  show canon (keys a (clsN a (r + 1))) = _
  rw [← e2]
  exact canon_canon
theorem stop_all {s : Nat} (h : clsN a (s + 1) = clsN a s) : ∀ d, clsN a (s + d) = clsN a s
  | 0 => rfl
  | d + 1 => by
    show refine' a (clsN a (s + d)) = _
    rw [stop_all h d]
    exact h
theorem stops (hv : validA a = true) : ∃ s, 1 ≤ s ∧ s ≤ a.next.length ∧ clsN a (s + 1) = clsN a s := by
  refine Classical.byContradiction fun hc => ?_
  have h : ∀ r, r ≤ a.next.length → r + 1 ≤ mN a (r + 1) := fun r => by
    induction r with
    | zero => intro _; exact mN_one hv
    | succ r ih =>
      intro hr
      have h1 := ih (by omega)
      have h2 := mN_mono hv (r + 1)
      rcases Nat.lt_or_ge (mN a (r + 1)) (mN a (r + 2)) with h3 | h3
      · show r + 1 + 1 ≤ mN a (r + 2); omega
      · exact absurd ⟨r + 1, by omega, hr, stop_one hv (by show mN a (r + 2) = _; have : mN a (r + 1 + 1) = mN a (r + 2) := rfl; omega)⟩ hc
  have h1 := h a.next.length (Nat.le_refl _)
  have h2 := mN_le (a := a) (a.next.length + 1)
  omega
theorem classes_stop (hv : validA a = true) {s : Nat} (h : clsN a (s + 1) = clsN a s) : clsN a s = classes a := by
  obtain ⟨t, _, ht, hs⟩ := stops hv
  have h1 := stop_all h (a.next.length + 1)
  have h2 := stop_all hs (s + a.next.length + 1 - t)
  have h3 := stop_all hs (a.next.length + 1 - t)
  rw [show t + (s + a.next.length + 1 - t) = s + (a.next.length + 1) by omega] at h2
  rw [show t + (a.next.length + 1 - t) = a.next.length + 1 by omega] at h3
  unfold classes
  rw [h3, ← h2, h1]
theorem classes_found (hv : validA a = true) {r : Nat} (h : mN a (r + 1) = mN a r) : clsN a (r + 1) = classes a := by
  cases r with
  | zero => have h1 := mN_one hv; have h0 : mN a 1 = 0 := h; omega
  | succ r =>
    have h1 := stop_one hv h
    rw [h1]
    exact classes_stop hv h1
theorem classes_length (hv : validA a = true) : (classes a).length = a.next.length := clsN_length hv _
end
end Go.Proofs.YtdkdpmmfebdeaaaDoor
set_option linter.unusedSimpArgs false
set_option linter.unusedVariables false
namespace Go.Proofs.YtdkdpmmfebdeaaaDoor
def rowQ (a : A) (cs : List Int) (q : Nat) : List Int := (a.next.getD q []).map fun t => cs.getD t.toNat 0
def quo (a : A) (cs : List Int) : A := ⟨a.al, (dd cs).map fun c => rowQ a cs (cs.idxOf c), (dd cs).map fun c => a.acc.getD (cs.idxOf c) false⟩
section
variable {a b : A}
def nCls (a : A) : Nat := (dd (classes a)).length
def rep (a : A) (c : Nat) : Nat := (classes a).idxOf (c : Int)
end
section
variable {α β : Type} [DecidableEq α] [DecidableEq β] {f : α → Int → α} {s : α} {L : List Int} {f' : β → Int → β} {g : α → β}
def pick (f' : β → Int → β) (s' : β) (us : List (List Int)) (ws : List (List Int)) : List (List Int) := ws.foldl (fun us w => wadd f' s' us w) us
end
section
variable {a : A}
end
end Go.Proofs.YtdkdpmmfebdeaaaDoor
set_option linter.unusedSimpArgs false
set_option linter.unusedVariables false
namespace Go.Proofs.YtdkdpmmfebdeaaaDoor
open Go.RowKit
section
variable {P : Program} {N : Nat} {ops : Array Oper} {Q : Exit → Act → World → Prop} {rest : List Oper} {l : Slots} {w : World}
variable {d : Nat} {ty : TypeId} {pos : String} {after : Array Edge} {g : Option (Nat × Bool)}
end
def encS (s : ByteArray) : Value := .string s
theorem keyS {P : Program} {t kt et : TypeId} (h1 : P.underlying t = some (.map kt et)) (h2 : P.underlying kt = some .string) (h3 : ∀ w, (zeroValue et).run P w = .ok (.int .i64 0) w) : KeyT P t encS :=
  ⟨kt, et, .string, h1, h2, fun x y => by
    simp only [Instr.sameNow, encS]
    congr 1
    rw [Bool.eq_iff_iff, MapKept.bytes_beq, decide_eq_true_iff], h3, fun x => trivial⟩
section
variable {a b : A}
end
end Go.Proofs.YtdkdpmmfebdeaaaDoor
set_option linter.unusedSimpArgs false
set_option linter.unusedVariables false
namespace Go.Proofs.YtdkdpmmfebdeaaaDoor
instance memKeys (x : ByteArray) (l : List ByteArray) : Decidable (x ∈ l) := @List.instDecidableMemOfLawfulBEq ByteArray (@instBEqOfDecidableEq ByteArray _) _ x l
def itoa (x : Int) : ByteArray := if x < 10 then ⟨#[UInt8.ofNat (48 + x.toNat)]⟩ else ⟨#[UInt8.ofNat (48 + x.toNat / 10), UInt8.ofNat (48 + x.toNat % 10)]⟩
def digS : ByteArray := ⟨#[48, 49, 50, 51, 52, 53, 54, 55, 56, 57, 97, 98, 99, 100, 101, 102, 103, 104, 105, 106, 107, 108, 109, 110, 111, 112, 113, 114, 115, 116, 117, 118, 119, 120, 121, 122]⟩
def smallS : ByteArray := ⟨#[48, 48, 48, 49, 48, 50, 48, 51, 48, 52, 48, 53, 48, 54, 48, 55, 48, 56, 48, 57, 49, 48, 49, 49, 49, 50, 49, 51, 49, 52, 49, 53, 49, 54, 49, 55, 49, 56, 49, 57, 50, 48, 50, 49, 50, 50, 50, 51, 50, 52, 50, 53, 50, 54, 50, 55, 50, 56, 50, 57, 51, 48, 51, 49, 51, 50, 51, 51, 51, 52, 51, 53, 51, 54, 51, 55, 51, 56, 51, 57, 52, 48, 52, 49, 52, 50, 52, 51, 52, 52, 52, 53, 52, 54, 52, 55, 52, 56, 52, 57, 53, 48, 53, 49, 53, 50, 53, 51, 53, 52, 53, 53, 53, 54, 53, 55, 53, 56, 53, 57, 54, 48, 54, 49, 54, 50, 54, 51, 54, 52, 54, 53, 54, 54, 54, 55, 54, 56, 54, 57, 55, 48, 55, 49, 55, 50, 55, 51, 55, 52, 55, 53, 55, 54, 55, 55, 55, 56, 55, 57, 56, 48, 56, 49, 56, 50, 56, 51, 56, 52, 56, 53, 56, 54, 56, 55, 56, 56, 56, 57, 57, 48, 57, 49, 57, 50, 57, 51, 57, 52, 57, 53, 57, 54, 57, 55, 57, 56, 57, 57]⟩
theorem dig_cut : ∀ x : Fin 10, (digS.extract x.val (x.val + 1)).data.toList = (itoa (x.val : Int)).data.toList := by decide +kernel
theorem small_cut : ∀ x : Fin 100, 10 ≤ x.val → (smallS.extract (x.val * 2) (x.val * 2 + 2)).data.toList = (itoa (x.val : Int)).data.toList := by decide +kernel
theorem bytes_ext {s t : ByteArray} (h : s.data.toList = t.data.toList) : s = t := ByteArray.ext (Array.toList_inj.1 h)
theorem dig_lt {x : Int} (h0 : 0 ≤ x) (h : x < 10) : digS.extract x.toNat (x + 1).toNat = itoa x := by
  have := dig_cut ⟨x.toNat, by omega⟩
  simp only at this
  rw [show (x + 1).toNat = x.toNat + 1 by omega]
  rw [Int.toNat_of_nonneg h0] at this
  exact bytes_ext this
theorem small_lt {x : Int} (h0 : ¬ x < 10) (h : x < 100) : smallS.extract (x * 2).toNat (x * 2 + 2).toNat = itoa x := by
  have := small_cut ⟨x.toNat, by omega⟩ (by show 10 ≤ x.toNat; omega)
  simp only at this
  rw [show (x * 2 + 2).toNat = x.toNat * 2 + 2 by omega, show (x * 2).toNat = x.toNat * 2 by omega]
  rw [Int.toNat_of_nonneg (by omega)] at this
  exact bytes_ext this
def itL (x : Int) : List UInt8 := (itoa x).data.toList
theorem itL_eq (x : Int) : itL x = if x < 10 then [UInt8.ofNat (48 + x.toNat)] else [UInt8.ofNat (48 + x.toNat / 10), UInt8.ofNat (48 + x.toNat % 10)] := by
  unfold itL itoa
  split <;> rfl
theorem u8_ofNat_inj {m n : Nat} (hm : m < 256) (hn : n < 256) (h : UInt8.ofNat m = UInt8.ofNat n) : m = n := by
  have := congrArg UInt8.toNat h
  simp only [UInt8.toNat_ofNat'] at this
  omega
theorem itL_inj {x y : Int} (hx : 0 ≤ x ∧ x < 100) (hy : 0 ≤ y ∧ y < 100) (h : itL x = itL y) : x = y := by
  rw [itL_eq, itL_eq] at h
  by_cases h1 : x < 10 <;> by_cases h2 : y < 10
  · rw [if_pos h1, if_pos h2] at h
    have := u8_ofNat_inj (by omega) (by omega) (List.cons.inj h).1
    omega
  · rw [if_pos h1, if_neg h2] at h; simp at h
  · rw [if_neg h1, if_pos h2] at h; simp at h
  · rw [if_neg h1, if_neg h2] at h
    have e1 := u8_ofNat_inj (by omega) (by omega) (List.cons.inj h).1
    have e2 := u8_ofNat_inj (by omega) (by omega) (List.cons.inj (List.cons.inj h).2).1
    omega
theorem itL_comma {x : Int} (hx : 0 ≤ x ∧ x < 100) : (44 : UInt8) ∉ itL x := by
  rw [itL_eq]
  intro hc
  have one : ∀ n : Nat, n < 10 → (44 : UInt8) ≠ UInt8.ofNat (48 + n) := fun n hn hc => by
    have := u8_ofNat_inj (m := 44) (n := 48 + n) (by omega) (by omega) hc
    omega
  split at hc
  · rw [List.mem_singleton] at hc; exact one _ (by omega) hc
  · rcases List.mem_cons.1 hc with hc | hc
    · exact one _ (by omega) hc
    · rw [List.mem_singleton] at hc; exact one _ (by omega) hc
theorem itoa_size (x : Int) : (itoa x).size ≤ 2 := by
  unfold itoa
  split
  · exact (show 1 ≤ 2 by decide)
  · exact (show 2 ≤ 2 by decide)
def keyTx : List Int → ByteArray
  | [] => ⟨#[]⟩
  | x :: l => l.foldl (fun s y => s ++ ((⟨#[44]⟩ : ByteArray) ++ itoa y)) (itoa x)
theorem keyTx_snoc (x : Int) (l : List Int) (y : Int) : keyTx ((x :: l) ++ [y]) = keyTx (x :: l) ++ ((⟨#[44]⟩ : ByteArray) ++ itoa y) := by
  show List.foldl _ _ (l ++ [y]) = _
  rw [List.foldl_append]; rfl
theorem keyTx_size : ∀ (n : Nat) (l : List Int), l.length = n → (keyTx l).size ≤ 3 * n
  | 0, l, h => by rw [List.eq_nil_of_length_eq_zero h]; exact Nat.le_refl _
  | n + 1, l, h => by
    rcases List.eq_nil_or_concat l with rfl | ⟨l', y, rfl⟩
    · simp at h
    · rw [List.concat_eq_append] at h ⊢
      cases l' with
      | nil => have := itoa_size y; show (itoa y).size ≤ _; omega
      | cons x l' =>
        rw [keyTx_snoc]
        have := keyTx_size n (x :: l') (by simpa using h)
        have := itoa_size y
        simp only [ByteArray.size_append]
        have : (⟨#[44]⟩ : ByteArray).size = 1 := rfl
        omega
theorem split_last {A B u v : List UInt8} (hu : (44 : UInt8) ∉ u) (hv : (44 : UInt8) ∉ v) (h : A ++ 44 :: u = B ++ 44 :: v) : A = B ∧ u = v := by
  rcases List.append_eq_append_iff.1 h with ⟨c, h1, h2⟩ | ⟨c, h1, h2⟩
  · cases c with
    | nil => simp at h1 h2; exact ⟨h1.symm, h2⟩
    | cons z c =>
      rw [List.cons_append, List.cons.injEq] at h2
      exact absurd (by rw [h2.2]; simp) hu
  · cases c with
    | nil => simp at h1 h2; exact ⟨h1, h2.symm⟩
    | cons z c =>
      rw [List.cons_append, List.cons.injEq] at h2
      exact absurd (by rw [h2.2]; simp) hv
theorem keyTx_inj : ∀ (n : Nat) (l m : List Int), l.length = n → m.length = n → (∀ x ∈ l, 0 ≤ x ∧ x < 100) → (∀ x ∈ m, 0 ≤ x ∧ x < 100) → keyTx l = keyTx m → l = m
  | 0, l, m, hl, hm, _, _, _ => by rw [List.eq_nil_of_length_eq_zero hl, List.eq_nil_of_length_eq_zero hm]
  | n + 1, l, m, hl, hm, bl, bm, h => by
    rcases List.eq_nil_or_concat l with rfl | ⟨l', y, rfl⟩
    · simp at hl
    · rcases List.eq_nil_or_concat m with rfl | ⟨m', z, rfl⟩
      · simp at hm
      · simp only [List.concat_eq_append] at hl hm bl bm h ⊢
        have hy := bl y (by simp)
        have hz := bm z (by simp)
        cases l' with
        | nil =>
          have : n = 0 := by simpa using hl.symm
          subst this
          have : m' = [] := by cases m' with | nil => rfl | cons a b => simp at hm
          subst this
          have : itL y = itL z := by show (keyTx [y]).data.toList = (keyTx [z]).data.toList; rw [show [y] = [] ++ [y] from rfl, h]; rfl
          rw [itL_inj hy hz this]
        | cons x l' =>
          cases m' with
          | nil => simp at hl hm; omega
          | cons x' m' =>
            rw [keyTx_snoc, keyTx_snoc] at h
            have h2 := congrArg (fun s : ByteArray => s.data.toList) h
            simp only [ByteArray.data_append, Array.toList_append] at h2
            have h3 := split_last (itL_comma hy) (itL_comma hz) (A := (keyTx (x :: l')).data.toList) (B := (keyTx (x' :: m')).data.toList) h2
            have ih := keyTx_inj n (x :: l') (x' :: m') (by simpa using hl) (by simpa using hm) (fun w hw => bl w (List.mem_append_left _ hw)) (fun w hw => bm w (List.mem_append_left _ hw)) (bytes_ext h3.1)
            rw [ih, itL_inj hy hz h3.2]
section
variable {a : A}
theorem clsN_bd (hv : validA a = true) : ∀ (r q : Nat), 0 ≤ (clsN a r).getD q 0 ∧ (clsN a r).getD q 0 ≤ 12
  | 0, q => by
    rw [clsN, cls0, List.getD_eq_getElem?_getD, List.getElem?_map]
    cases a.acc[q]? with
    | none => simp
    | some b => cases b <;> simp
  | r + 1, q => by
    rcases Nat.lt_or_ge q a.next.length with h | h
    · rw [clsN_at h]
      have h1 := idxG_lt (mem_dd.2 (keyQ_mem (a := a) (cs := clsN a r) h))
      have h2 := dd_le (keys a (clsN a r))
      rw [keys_length] at h2
      have h3 := (validA_spec.1 hv).2.1
      omega
    · rw [List.getD_eq_getElem?_getD, List.getElem?_eq_none (by rw [clsN_length hv]; exact h)]; simp
theorem keyQ_bd (hv : validA a = true) (r q : Nat) : ∀ x ∈ keyQ a (clsN a r) q, 0 ≤ x ∧ x < 100 := fun x hx => by
  rcases List.mem_cons.1 hx with rfl | hx
  · have := clsN_bd hv r q; omega
  · obtain ⟨t, _, rfl⟩ := List.mem_map.1 hx
    have := clsN_bd hv r t.toNat; omega
theorem keyQ_len (hv : validA a = true) (cs : List Int) {q : Nat} (h : q < a.next.length) : (keyQ a cs q).length = (letters a.al).length + 1 := by
  have := valid_row hv h
  unfold keyQ
  rw [List.length_cons, List.length_map, this]
theorem keyTx_keys (hv : validA a = true) (r : Nat) : ∀ x ∈ keys a (clsN a r), ∀ y ∈ keys a (clsN a r), keyTx x = keyTx y → x = y := fun x hx y hy e => by
  obtain ⟨i, hi, rfl⟩ := List.mem_map.1 hx
  obtain ⟨j, hj, rfl⟩ := List.mem_map.1 hy
  exact keyTx_inj _ _ _ (keyQ_len hv _ (List.mem_range.1 hi)) (keyQ_len hv _ (List.mem_range.1 hj)) (keyQ_bd hv r i) (keyQ_bd hv r j) e
def keyTo (a : A) (cs : List Int) (q j : Nat) : ByteArray := keyTx ((keyQ a cs q).take (j + 1))
theorem keyTo_succ {cs : List Int} {q j : Nat} (h : j < (a.next.getD q []).length) : keyTo a cs q (j + 1) = keyTo a cs q j ++ ((⟨#[44]⟩ : ByteArray) ++ itoa (cs.getD ((a.next.getD q []).getD j 0).toNat 0)) := by
  unfold keyTo keyQ
  rw [List.take_succ_cons, List.take_succ_cons, take_snoc (d := 0) (by rw [List.length_map]; exact h), ← List.cons_append, keyTx_snoc]
  congr 3
  rw [List.getD_eq_getElem?_getD, List.getElem?_map, at_getD (d := 0) h]; rfl
theorem keyTo_done {cs : List Int} {q j : Nat} (h : (a.next.getD q []).length ≤ j) : keyTo a cs q j = keyTx (keyQ a cs q) := by
  unfold keyTo
  rw [List.take_of_length_le (by unfold keyQ; rw [List.length_cons, List.length_map]; omega)]
theorem keyTo_size (hv : validA a = true) {cs : List Int} {q : Nat} (hq : q < a.next.length) (j : Nat) : (keyTo a cs q j).size ≤ 21 := by
  have h := keyTx_size _ ((keyQ a cs q).take (j + 1)) rfl
  have h2 := keyQ_len hv cs hq
  have h3 := letters_len6 a.al
  rw [List.length_take] at h
  unfold keyTo
  omega
def nextTo (a : A) (cs : List Int) (q : Nat) : List Int := (List.range a.next.length).map fun (i : Nat) => if i < q then (idxG (dd (keys a cs)) (keyQ a cs i) : Int) else 0
def keysTo (a : A) (cs : List Int) (q : Nat) : List ByteArray := (dd ((keys a cs).take q)).map keyTx
theorem nextTo_zero (cs : List Int) : nextTo a cs 0 = List.replicate a.next.length 0 := by
  unfold nextTo
  apply List.ext_getElem?
  intro i
  rw [List.getElem?_map, List.getElem?_replicate]
  by_cases h : i < a.next.length
  · rw [List.getElem?_range h]; simp [h]
  · rw [List.getElem?_eq_none (by simpa using h)]; simp [h]
theorem nextTo_length (cs : List Int) (q : Nat) : (nextTo a cs q).length = a.next.length := by simp [nextTo]
theorem nextTo_set {cs : List Int} {q : Nat} {x : Int} (h : q < a.next.length) (hx : x = (idxG (dd (keys a cs)) (keyQ a cs q) : Int)) : (nextTo a cs q).set q x = nextTo a cs (q + 1) := by
  apply List.ext_getElem?
  intro i
  unfold nextTo
  rw [List.getElem?_set]
  rcases Nat.lt_or_ge i a.next.length with hi | hi
  · by_cases e : q = i
    · subst e
      rw [if_pos rfl, if_pos (by simpa using h), List.getElem?_map, List.getElem?_range hi, hx]
      simp
    · rw [if_neg e, List.getElem?_map, List.getElem?_map, List.getElem?_range hi]
      simp only [Option.map_some]
      by_cases h1 : i < q
      · rw [if_pos h1, if_pos (by omega)]
      · rw [if_neg h1, if_neg (by omega)]
  · rw [if_neg (by omega), List.getElem?_eq_none (by simpa using hi), List.getElem?_eq_none (by simpa using hi)]
theorem nextTo_all {cs : List Int} {q : Nat} (h : a.next.length ≤ q) : nextTo a cs q = refine' a cs := by
  unfold nextTo refine' canon keys
  rw [List.map_map]
  refine List.map_congr_left fun i hi => ?_
  rw [if_pos (by have := List.mem_range.1 hi; omega)]; rfl
theorem keys_get {cs : List Int} {q : Nat} (h : q < a.next.length) : (keys a cs)[q]'(by rw [keys_length]; exact h) = keyQ a cs q := by
  have := keys_at (cs := cs) h
  rw [List.getElem?_eq_getElem (by rw [keys_length]; exact h)] at this
  exact Option.some.inj this
theorem keysTo_mem (hv : validA a = true) {r q : Nat} (h : q < a.next.length) : keyTx (keyQ a (clsN a r) q) ∈ keysTo a (clsN a r) q ↔ keyQ a (clsN a r) q ∈ dd ((keys a (clsN a r)).take q) := by
  unfold keysTo
  rw [List.mem_map]
  constructor
  · rintro ⟨x, hx, e⟩
    have hx' : x ∈ keys a (clsN a r) := List.mem_of_mem_take (mem_dd.1 hx)
    rw [← keyTx_keys hv r x hx' _ (keyQ_mem h) e]
    exact hx
  · exact fun hx => ⟨_, hx, rfl⟩
theorem next_in (hv : validA a = true) {r q : Nat} (h : q < a.next.length) (hin : keyTx (keyQ a (clsN a r) q) ∈ keysTo a (clsN a r) q) : ((idxG (keysTo a (clsN a r) q) (keyTx (keyQ a (clsN a r) q)) : Nat) : Int) = (idxG (dd (keys a (clsN a r))) (keyQ a (clsN a r) q) : Int) ∧ keysTo a (clsN a r) (q + 1) = keysTo a (clsN a r) q := by
  have hm := (keysTo_mem hv h).1 hin
  have hk : q < (keys a (clsN a r)).length := by rw [keys_length]; exact h
  refine ⟨?_, ?_⟩
  · rw [idx_old hm]
    unfold keysTo idxG
    rw [idx_map (P := (· ∈ keys a (clsN a r))) (fun x y hx hy => keyTx_keys hv r x hx y hy) (fun x hx => List.mem_of_mem_take (mem_dd.1 hx)) (keyQ_mem h)]
  · unfold keysTo
    rw [dd_step hk, keys_get h, addNode_T hm]
theorem next_out (hv : validA a = true) {r q : Nat} (h : q < a.next.length) (hin : keyTx (keyQ a (clsN a r) q) ∉ keysTo a (clsN a r) q) : (((keysTo a (clsN a r) q).length : Nat) : Int) = (idxG (dd (keys a (clsN a r))) (keyQ a (clsN a r) q) : Int) ∧ keysTo a (clsN a r) (q + 1) = keysTo a (clsN a r) q ++ [keyTx (keyQ a (clsN a r) q)] := by
  have hm : keyQ a (clsN a r) q ∉ dd ((keys a (clsN a r)).take q) := fun hc => hin ((keysTo_mem hv h).2 hc)
  have hk : q < (keys a (clsN a r)).length := by rw [keys_length]; exact h
  have hf := idx_fresh hk (by rw [keys_get h]; exact hm)
  rw [keys_get h] at hf
  refine ⟨?_, ?_⟩
  · rw [hf]; unfold keysTo; rw [List.length_map]
  · unfold keysTo
    rw [dd_step hk, keys_get h, addNode_F hm, List.map_append]; rfl
theorem keysTo_all {r q : Nat} (h : a.next.length ≤ q) : ((keysTo a (clsN a r) q).length : Nat) = mN a (r + 1) := by
  unfold keysTo
  rw [List.length_map, List.take_of_length_le (by rw [keys_length]; exact h)]; rfl
def initTo (a : A) (k : Nat) : List Int := (List.range a.next.length).map fun (i : Nat) => if i < k ∧ a.acc.getD i false = true then 1 else 0
theorem initTo_zero : initTo a 0 = List.replicate a.next.length 0 := by
  unfold initTo
  apply List.ext_getElem?
  intro i
  rw [List.getElem?_map, List.getElem?_replicate]
  by_cases h : i < a.next.length
  · rw [List.getElem?_range h]; simp [h]
  · rw [List.getElem?_eq_none (by simpa using h)]; simp [h]
theorem initTo_length (k : Nat) : (initTo a k).length = a.next.length := by simp [initTo]
theorem initTo_T {k : Nat} (h : k < a.next.length) (hac : a.acc.getD k false = true) : (initTo a k).set k 1 = initTo a (k + 1) := by
  apply List.ext_getElem?
  intro i
  unfold initTo
  rw [List.getElem?_set]
  rcases Nat.lt_or_ge i a.next.length with hi | hi
  · by_cases e : k = i
    · subst e
      rw [if_pos rfl, if_pos (by simpa using h), List.getElem?_map, List.getElem?_range hi]
      simp only [Option.map_some]
      rw [if_pos ⟨by omega, hac⟩]
    · rw [if_neg e, List.getElem?_map, List.getElem?_map, List.getElem?_range hi]
      simp only [Option.map_some]
      have : (i < k ∧ a.acc.getD i false = true) ↔ (i < k + 1 ∧ a.acc.getD i false = true) := ⟨fun h => ⟨by omega, h.2⟩, fun h => ⟨by omega, h.2⟩⟩
      simp only [this]
  · rw [if_neg (by omega), List.getElem?_eq_none (by simpa using hi), List.getElem?_eq_none (by simpa using hi)]
theorem initTo_F {k : Nat} (hac : a.acc.getD k false = false) : initTo a (k + 1) = initTo a k := by
  unfold initTo
  refine List.map_congr_left fun i _ => ?_
  have : (i < k + 1 ∧ a.acc.getD i false = true) ↔ (i < k ∧ a.acc.getD i false = true) := ⟨fun h => ⟨by
    rcases Nat.lt_or_ge i k with h1 | h1
    · exact h1
    · rw [show i = k by omega, hac] at h; exact absurd h.2 (by decide), h.2⟩, fun h => ⟨by omega, h.2⟩⟩
  simp only [this]
theorem initTo_all (hv : validA a = true) {k : Nat} (h : a.next.length ≤ k) : initTo a k = clsN a 0 := by
  have hl := (validA_spec.1 hv).2.2.1
  unfold initTo
  rw [clsN, cls0]
  apply List.ext_getElem?
  intro i
  rw [List.getElem?_map, List.getElem?_map]
  rcases Nat.lt_or_ge i a.next.length with hi | hi
  · rw [List.getElem?_range hi, at_getD (d := false) (by omega : i < a.acc.length)]
    simp only [Option.map_some]
    cases hb : a.acc.getD i false with
    | true => rw [if_pos ⟨by omega, rfl⟩]; rfl
    | false => rw [if_neg (by simp)]; rfl
  · rw [List.getElem?_eq_none (by simpa using hi), List.getElem?_eq_none (by omega)]; rfl
theorem getD_take {α : Type} {l : List α} {d : α} {k j : Nat} (h : j < k) : (l.take k).getD j d = l.getD j d := by
  rw [List.getD_eq_getElem?_getD, List.getD_eq_getElem?_getD, List.getElem?_take, if_pos h]
theorem keyQ_iff (hv : validA a = true) {cs : List Int} {i j : Nat} (hi : i < a.next.length) (hj : j < a.next.length) : keyQ a cs i = keyQ a cs j ↔ cs.getD i 0 = cs.getD j 0 ∧ ∀ m, m < (a.next.getD i []).length → cs.getD ((a.next.getD i []).getD m 0).toNat 0 = cs.getD ((a.next.getD j []).getD m 0).toNat 0 := by
  have h1 := valid_row hv hi
  have h2 := valid_row hv hj
  unfold keyQ
  rw [List.cons.injEq]
  refine and_congr_right fun _ => ⟨fun h m hm => ?_, fun h => ?_⟩
  · have := congrArg (fun l : List Int => l[m]?) h
    simp only [List.getElem?_map] at this
    rw [at_getD (d := 0) hm, at_getD (d := 0) (by omega)] at this
    exact Option.some.inj this
  · apply List.ext_getElem?
    intro m
    rw [List.getElem?_map, List.getElem?_map]
    rcases Nat.lt_or_ge m (a.next.getD i []).length with hm | hm
    · rw [at_getD (d := 0) hm, at_getD (d := 0) (by omega)]
      simp only [Option.map_some, h m hm]
    · rw [List.getElem?_eq_none hm, List.getElem?_eq_none (by omega)]
theorem ref_at {cs : List Int} {j : Nat} (h : j < a.next.length) : (refine' a cs).getD j 0 = (idxG (dd (keys a cs)) (keyQ a cs j) : Int) := by
  rw [refine', canon, List.getD_eq_getElem?_getD, List.getElem?_map, keys_at h]; rfl
theorem ref_length (cs : List Int) : (refine' a cs).length = a.next.length := by rw [refine', canon_length, keys_length]
def cntK (a : A) (cs : List Int) (i : Nat) : Nat := (dd ((keys a cs).take i)).length
theorem cntK_le (cs : List Int) (i : Nat) : cntK a cs i ≤ i := by
  have := dd_le ((keys a cs).take i)
  rw [List.length_take] at this
  unfold cntK
  omega
theorem cntK_all (cs : List Int) {i : Nat} (h : a.next.length ≤ i) : cntK a cs i = (dd (keys a cs)).length := by
  unfold cntK
  rw [List.take_of_length_le (by rw [keys_length]; exact h)]
theorem mem_before {cs : List Int} {i : Nat} (h : i < a.next.length) : keyQ a cs i ∈ dd ((keys a cs).take i) ↔ ∃ m, m < i ∧ keyQ a cs m = keyQ a cs i := by
  rw [mem_dd, List.mem_iff_getElem]
  constructor
  · rintro ⟨m, hm, e⟩
    rw [List.length_take] at hm
    refine ⟨m, by omega, ?_⟩
    rw [List.getElem_take, keys_get (by omega)] at e
    exact e
  · rintro ⟨m, hm, e⟩
    refine ⟨m, by rw [List.length_take, keys_length]; omega, ?_⟩
    rw [List.getElem_take, keys_get (by omega), e]
theorem ref_old {cs : List Int} {i m : Nat} (h : i < a.next.length) (hm : m < i) (e : keyQ a cs i = keyQ a cs m) : (refine' a cs).getD m 0 = (refine' a cs).getD i 0 ∧ cntK a cs (i + 1) = cntK a cs i := by
  refine ⟨by rw [ref_at h, ref_at (by omega), e], ?_⟩
  unfold cntK
  rw [dd_step (by rw [keys_length]; exact h), keys_get h, addNode_T ((mem_before h).2 ⟨m, hm, e.symm⟩)]
theorem ref_new {cs : List Int} {i : Nat} (h : i < a.next.length) (e : ∀ m, m < i → keyQ a cs i ≠ keyQ a cs m) : (refine' a cs).getD i 0 = (cntK a cs i : Int) ∧ cntK a cs (i + 1) = cntK a cs i + 1 := by
  have hn : keyQ a cs i ∉ dd ((keys a cs).take i) := fun hc => by
    obtain ⟨m, hm, hq⟩ := (mem_before h).1 hc
    exact e m hm hq.symm
  have hk : i < (keys a cs).length := by rw [keys_length]; exact h
  have hf := idx_fresh hk (by rw [keys_get h]; exact hn)
  rw [keys_get h] at hf
  refine ⟨by rw [ref_at h, hf]; rfl, ?_⟩
  unfold cntK
  rw [dd_step hk, keys_get h, addNode_F hn, List.length_append]; rfl
theorem cls0_at {k : Nat} (h : k < a.acc.length) : (cls0 a).getD k 0 = if a.acc.getD k false = true then 1 else 0 := by
  rw [cls0, List.getD_eq_getElem?_getD, List.getElem?_map, at_getD (d := false) h]
  cases a.acc.getD k false <;> rfl
theorem cls0_length : (cls0 a).length = a.acc.length := by rw [cls0, List.length_map]
def clsA (a : A) : List Int := if validA a = true then classes a else []
theorem clsA_yes (hv : validA a = true) : clsA a = classes a := if_pos hv
theorem clsA_no (hv : validA a = false) : clsA a = [] := if_neg (by rw [hv]; decide)
theorem clsA_small : (clsA a).length ≤ 12 := by
  unfold clsA
  split
  · rename_i hv
    rw [classes_length hv]
    exact (validA_spec.1 hv).2.1.2
  · exact Nat.zero_le _
end
end Go.Proofs.YtdkdpmmfebdeaaaDoor
set_option linter.unusedSimpArgs false
set_option linter.unusedVariables false
namespace Go.Proofs.YtdkdpmmfebdeaaaDoor
set_option maxRecDepth 100000
theorem mixed : Tryd.prog.follows .mixedOrders = true := Tryd.checked.mixed
theorem fn5 : Fn Tryd.prog 5 Tryd.f5 := ⟨Tryd.func5, rfl, by kernel_rfl⟩
theorem fn6 : Fn Tryd.prog 6 Tryd.f6 := ⟨Tryd.func6, rfl, by kernel_rfl⟩
theorem fn7 : Fn Tryd.prog 7 Tryd.f7 := ⟨Tryd.func7, rfl, by kernel_rfl⟩
theorem fn8 : Fn Tryd.prog 8 Tryd.f8 := ⟨Tryd.func8, rfl, by kernel_rfl⟩
theorem fn9 : Fn Tryd.prog 9 Tryd.f9 := ⟨Tryd.func9, rfl, by kernel_rfl⟩
theorem fn10 : Fn Tryd.prog 10 Tryd.f10 := ⟨Tryd.func10, rfl, by kernel_rfl⟩
theorem fn11 : Fn Tryd.prog 11 Tryd.f11 := ⟨Tryd.func11, rfl, by kernel_rfl⟩
theorem fn12 : Fn Tryd.prog 12 Tryd.f12 := ⟨Tryd.func12, rfl, by kernel_rfl⟩
theorem fn13 : Fn Tryd.prog 13 Tryd.f13 := ⟨Tryd.func13, rfl, by kernel_rfl⟩
theorem fn16 : Fn Tryd.prog 16 Tryd.f16 := ⟨Tryd.func16, rfl, by kernel_rfl⟩
theorem fn17 : Fn Tryd.prog 17 Tryd.f17 := ⟨Tryd.func17, rfl, by kernel_rfl⟩
theorem fn18 : Fn Tryd.prog 18 Tryd.f18 := ⟨Tryd.func18, rfl, by kernel_rfl⟩
theorem fn19 : Fn Tryd.prog 19 Tryd.f19 := ⟨Tryd.func19, rfl, by kernel_rfl⟩
theorem fn20 : Fn Tryd.prog 20 Tryd.f20 := ⟨Tryd.func20, rfl, by kernel_rfl⟩
theorem fn21 : Fn Tryd.prog 21 Tryd.f21 := ⟨Tryd.func21, rfl, by kernel_rfl⟩
theorem fn22 : Fn Tryd.prog 22 Tryd.f22 := ⟨Tryd.func22, rfl, by kernel_rfl⟩
theorem fn23 : Fn Tryd.prog 23 Tryd.f23 := ⟨Tryd.func23, rfl, by kernel_rfl⟩
theorem fn24 : Fn Tryd.prog 24 Tryd.f24 := ⟨Tryd.func24, rfl, by kernel_rfl⟩
theorem fn25 : Fn Tryd.prog 25 Tryd.f25 := ⟨Tryd.func25, rfl, by kernel_rfl⟩
theorem fn26 : Fn Tryd.prog 26 Tryd.f26 := ⟨Tryd.func26, rfl, by kernel_rfl⟩
theorem fn27 : Fn Tryd.prog 27 Tryd.f27 := ⟨Tryd.func27, rfl, by kernel_rfl⟩
theorem fn30 : Fn Tryd.prog 30 Tryd.f30 := ⟨Tryd.func30, rfl, by kernel_rfl⟩
theorem fn31 : Fn Tryd.prog 31 Tryd.f31 := ⟨Tryd.func31, rfl, by kernel_rfl⟩
theorem fn32 : Fn Tryd.prog 32 Tryd.f32 := ⟨Tryd.func32, rfl, by kernel_rfl⟩
theorem fn33 : Fn Tryd.prog 33 Tryd.f33 := ⟨Tryd.func33, rfl, by kernel_rfl⟩
theorem fn34 : Fn Tryd.prog 34 Tryd.f34 := ⟨Tryd.func34, rfl, by kernel_rfl⟩
theorem fn35 : Fn Tryd.prog 35 Tryd.f35 := ⟨Tryd.func35, rfl, by kernel_rfl⟩
theorem fn36 : Fn Tryd.prog 36 Tryd.f36 := ⟨Tryd.func36, rfl, by kernel_rfl⟩
theorem fn37 : Fn Tryd.prog 37 Tryd.f37 := ⟨Tryd.func37, rfl, by kernel_rfl⟩
theorem fn38 : Fn Tryd.prog 38 Tryd.f38 := ⟨Tryd.func38, rfl, by kernel_rfl⟩
theorem fn42 : Fn Tryd.prog 42 Tryd.f42 := ⟨Tryd.func42, rfl, by kernel_rfl⟩
theorem fn43 : Fn Tryd.prog 43 Tryd.f43 := ⟨Tryd.func43, rfl, by kernel_rfl⟩
theorem fn44 : Fn Tryd.prog 44 Tryd.f44 := ⟨Tryd.func44, rfl, by kernel_rfl⟩
theorem fn45 : Fn Tryd.prog 45 Tryd.f45 := ⟨Tryd.func45, rfl, by kernel_rfl⟩
theorem fn50 : Fn Tryd.prog 50 Tryd.f50 := ⟨Tryd.func50, rfl, by kernel_rfl⟩
theorem fn52 : Fn Tryd.prog 52 Tryd.f52 := ⟨Tryd.func52, rfl, by kernel_rfl⟩
theorem one3 : One Tryd.prog 3 := ⟨fun _ => by kernel_rfl, fun _ => by kernel_rfl⟩
theorem zero3 : ∀ w, (zeroValue 3).run Tryd.prog w = .ok (.int .i64 0) w := fun _ => by kernel_rfl
theorem one4 : One Tryd.prog 4 := ⟨fun _ => by kernel_rfl, fun _ => by kernel_rfl⟩
theorem one22 : One Tryd.prog 22 := ⟨fun _ => by kernel_rfl, fun _ => by kernel_rfl⟩
theorem one23 : One Tryd.prog 23 := ⟨fun _ => by kernel_rfl, fun _ => by kernel_rfl⟩
theorem one27 : One Tryd.prog 27 := ⟨fun _ => by kernel_rfl, fun _ => by kernel_rfl⟩
theorem und4 : Tryd.prog.underlying 4 = some .bool := by kernel_rfl
theorem und9 : Tryd.prog.underlying 9 = some .string := by kernel_rfl
theorem sl22 : SlT Tryd.prog 22 27 (.slice none 0 0) := ⟨by kernel_rfl, ⟨_, rfl, by kernel_rfl, by kernel_rfl, by decide⟩, rfl⟩
theorem und22 : Tryd.prog.underlying 22 = some (.slice (Tryd.prog.elem 22)) := by kernel_rfl
theorem sl23 : SlT Tryd.prog 23 4 (.bool false) := ⟨by kernel_rfl, ⟨_, rfl, by kernel_rfl, by kernel_rfl, by decide⟩, rfl⟩
theorem und23 : Tryd.prog.underlying 23 = some (.slice (Tryd.prog.elem 23)) := by kernel_rfl
theorem sl27 : SlT Tryd.prog 27 3 (.int .i64 0) := ⟨by kernel_rfl, ⟨_, rfl, by kernel_rfl, by kernel_rfl, by decide⟩, rfl⟩
theorem und27 : Tryd.prog.underlying 27 = some (.slice (Tryd.prog.elem 27)) := by kernel_rfl
theorem agg25 : Agg Tryd.prog 25 3 := ⟨fun _ => by kernel_rfl, fun _ => by kernel_rfl⟩
theorem fld25_0 : Fld Tryd.prog 25 0 0 := fun _ _ _ => by kernel_rfl
theorem fld25_1 : Fld Tryd.prog 25 1 1 := fun _ _ _ => by kernel_rfl
theorem fld25_2 : Fld Tryd.prog 25 2 2 := fun _ _ _ => by kernel_rfl
theorem agg29 : Agg Tryd.prog 29 3 := ⟨fun _ => by kernel_rfl, fun _ => by kernel_rfl⟩
theorem zero29 : ∀ w, (zeroValue 29).run Tryd.prog w = .ok (.agg [.int .i64 0, .slice none 0 0, .slice none 0 0].toArray) w := fun _ => by kernel_rfl
theorem fld29_0 : Fld Tryd.prog 29 0 0 := fun _ _ _ => by kernel_rfl
theorem fld29_1 : Fld Tryd.prog 29 1 1 := fun _ _ _ => by kernel_rfl
theorem fld29_2 : Fld Tryd.prog 29 2 2 := fun _ _ _ => by kernel_rfl
theorem conv3_62 : Cnv Tryd.prog 3 62 .u64 := Cnv.of (by kernel_rfl) (by kernel_rfl)
def OwnA (w : World) (B : Nat) (v : Value) (a : A) : Prop := ∃ nx ac, v = .agg #[.int .i64 a.al, nx, ac] ∧ OwnRows w B w.heap.size 27 3 nx a.next ∧ Own w B 4 ac (a.acc.map Value.bool)
end Go.Proofs.YtdkdpmmfebdeaaaDoor
set_option linter.unusedSimpArgs false
set_option linter.unusedVariables false
namespace Go.Proofs.YtdkdpmmfebdeaaaDoor
set_option maxRecDepth 100000
theorem key51 : KeyT Tryd.prog 51 encS := keyS (kt := 9) (et := 3) (by kernel_rfl) (by kernel_rfl) zero3
theorem undm51 : Tryd.prog.underlying 51 = some (.map 9 3) := by kernel_rfl
end Go.Proofs.YtdkdpmmfebdeaaaDoor
set_option linter.unusedSimpArgs false
set_option linter.unusedVariables false
namespace Go.Proofs.YtdkdpmmfebdeaaaDoor
open Go.RowKit
set_option maxRecDepth 100000 in
theorem has_c (s n : Int) (h : 0 ≤ s ∧ s ≤ 9223372036854775807) (w0 : World) : Ret Tryd.prog 44 #[Value.int .i64 s, Value.int .i64 n] w0 (fun v w => v = .bool (hs s n) ∧ w0 = w) := by
  refine Ret.of (args := [Value.int .i64 s, Value.int .i64 n]) Tryd.func44 rfl rfl rfl ?_
  rintro _ rfl
  show Cq _ _ _ _ [(0, Value.int .i64 s), (1, Value.int .i64 n)] _
  refine Cq.seq ?_
  refine Cq.region ?_
  refine Sq.assign .plain rfl rfl ?_
  refine Sq.nil ?_
  refine Eq.next ?_
  refine Cq.seq ?_
  refine Cq.region ?_
  refine Sq.move .plain rfl rfl ?_
  refine Sq.geq .plain rfl rfl rfl ?_
  refine Sq.part (fun h0 => ?_) (fun h0 => ?_)
  · refine Sq.move .plain rfl rfl ?_
    refine Sq.move (.met rfl rfl rfl) rfl rfl ?_
    refine Sq.move (.met rfl rfl rfl) rfl rfl ?_
    refine Sq.shr (.met rfl rfl rfl) rfl rfl rfl (by omega) ?_
    refine Sq.and1 (.met rfl rfl rfl) rfl rfl (by first | omega | exact shr_ok (by omega)) ?_
    refine Sq.eql (.met rfl rfl rfl) rfl rfl rfl ?_
    refine Sq.pickT .plain rfl rfl rfl ?_
    refine Sq.assign .plain rfl rfl ?_
    refine Sq.nil ?_
    refine Eq.next ?_
    refine Cq.ret ?_
    refine Eq.ret1 rfl rfl ?_
    exact ⟨by rw [hs_shift s n h.1 h.2 h0], rfl⟩
  refine Sq.move .plain rfl rfl ?_
  refine Sq.off rfl rfl rfl rfl rfl rfl ?_
  refine Sq.off rfl rfl rfl rfl rfl rfl ?_
  refine Sq.off rfl rfl rfl rfl rfl rfl ?_
  refine Sq.off rfl rfl rfl rfl rfl rfl ?_
  refine Sq.off rfl rfl rfl rfl rfl rfl ?_
  refine Sq.pickF .plain rfl rfl rfl ?_
  refine Sq.assign .plain rfl rfl ?_
  refine Sq.nil ?_
  refine Eq.next ?_
  refine Cq.ret ?_
  refine Eq.ret1 rfl rfl ?_
  exact ⟨by simp [hs, h0], rfl⟩
set_option maxRecDepth 100000 in
theorem l1Has_c (s n : Int) (h : 0 ≤ s ∧ s ≤ 9223372036854775807) (hn : 0 ≤ n ∧ n ≤ 9223372036854775807) (w0 : World) : Ret Tryd.prog 42 #[Value.int .i64 s, Value.int .i64 n] w0 (fun v w => v = .bool (hs s n) ∧ w0 = w) := by
  refine Ret.of (args := [Value.int .i64 s, Value.int .i64 n]) Tryd.func42 rfl rfl rfl ?_
  rintro _ rfl
  show Cq _ _ _ _ [(0, Value.int .i64 s), (1, Value.int .i64 n)] _
  refine Cq.seq ?_
  refine Cq.region ?_
  refine Sq.assign .plain rfl rfl ?_
  refine Sq.nil ?_
  refine Eq.next ?_
  refine Cq.seq ?_
  refine Cq.region ?_
  refine Sq.move .plain rfl rfl ?_
  refine Sq.move .plain rfl rfl ?_
  refine Sq.convU conv3_62 .plain rfl rfl (by omega) ?_
  refine Sq.shr .plain rfl rfl rfl (by omega) ?_
  refine Sq.and1 .plain rfl rfl (by first | omega | exact shr_ok (by omega)) ?_
  refine Sq.eql .plain rfl rfl rfl ?_
  refine Sq.assign .plain rfl rfl ?_
  refine Sq.nil ?_
  refine Eq.next ?_
  refine Cq.ret ?_
  refine Eq.ret1 rfl rfl ?_
  exact ⟨by rw [hs_shift s n h.1 h.2 hn.1], rfl⟩
set_option maxRecDepth 100000 in
theorem isAlphabet_c (n : Int) (w0 : World) : Ret Tryd.prog 36 #[Value.int .i64 n] w0 (fun v w => v = .bool (decide (0 ≤ n ∧ n ≤ 63)) ∧ w0 = w) := by
  refine Ret.of (args := [Value.int .i64 n]) Tryd.func36 rfl rfl rfl ?_
  rintro _ rfl
  show Cq _ _ _ _ [(0, Value.int .i64 n)] _
  refine Cq.seq ?_
  refine Cq.region ?_
  refine Sq.assign .plain rfl rfl ?_
  refine Sq.nil ?_
  refine Eq.next ?_
  refine Cq.seq ?_
  refine Cq.region ?_
  refine Sq.move .plain rfl rfl ?_
  refine Sq.geq .plain rfl rfl rfl ?_
  refine Sq.part (fun c1 => ?_) (fun c1 => ?_)
  · refine Sq.move .plain rfl rfl ?_
    refine Sq.move (.met rfl rfl rfl) rfl rfl ?_
    refine Sq.leq (.met rfl rfl rfl) rfl rfl rfl ?_
    refine Sq.pickT .plain rfl rfl rfl ?_
    refine Sq.assign .plain rfl rfl ?_
    refine Sq.nil ?_
    refine Eq.next ?_
    refine Cq.ret ?_
    refine Eq.ret1 rfl rfl ?_
    exact ⟨by simp; omega, rfl⟩
  refine Sq.move .plain rfl rfl ?_
  refine Sq.off rfl rfl rfl rfl rfl rfl ?_
  refine Sq.off rfl rfl rfl rfl rfl rfl ?_
  refine Sq.pickF .plain rfl rfl rfl ?_
  refine Sq.assign .plain rfl rfl ?_
  refine Sq.nil ?_
  refine Eq.next ?_
  refine Cq.ret ?_
  refine Eq.ret1 rfl rfl ?_
  exact ⟨by simp; omega, rfl⟩
set_option maxRecDepth 100000 in
theorem l1Alphabet_c (n : Int) (w0 : World) : Ret Tryd.prog 31 #[Value.int .i64 n] w0 (fun v w => v = .bool (decide (0 ≤ n ∧ n ≤ 63)) ∧ w0 = w) := by
  refine Ret.of (args := [Value.int .i64 n]) Tryd.func31 rfl rfl rfl ?_
  rintro _ rfl
  show Cq _ _ _ _ [(0, Value.int .i64 n)] _
  refine Cq.seq ?_
  refine Cq.region ?_
  refine Sq.assign .plain rfl rfl ?_
  refine Sq.nil ?_
  refine Eq.next ?_
  refine Cq.seq ?_
  refine Cq.region ?_
  refine Sq.move .plain rfl rfl ?_
  refine Sq.geq .plain rfl rfl rfl ?_
  refine Sq.part (fun c1 => ?_) (fun c1 => ?_)
  · refine Sq.move .plain rfl rfl ?_
    refine Sq.move (.met rfl rfl rfl) rfl rfl ?_
    refine Sq.leq (.met rfl rfl rfl) rfl rfl rfl ?_
    refine Sq.pickT .plain rfl rfl rfl ?_
    refine Sq.assign .plain rfl rfl ?_
    refine Sq.nil ?_
    refine Eq.next ?_
    refine Cq.ret ?_
    refine Eq.ret1 rfl rfl ?_
    exact ⟨by simp; omega, rfl⟩
  refine Sq.move .plain rfl rfl ?_
  refine Sq.off rfl rfl rfl rfl rfl rfl ?_
  refine Sq.off rfl rfl rfl rfl rfl rfl ?_
  refine Sq.pickF .plain rfl rfl rfl ?_
  refine Sq.assign .plain rfl rfl ?_
  refine Sq.nil ?_
  refine Eq.next ?_
  refine Cq.ret ?_
  refine Eq.ret1 rfl rfl ?_
  exact ⟨by simp; omega, rfl⟩
set_option maxRecDepth 100000 in
theorem lettersOf_c (al : Int) (h : 0 ≤ al ∧ al ≤ 63) (w0 : World) : Ret Tryd.prog 37 #[Value.int .i64 al] w0 (fun v w => Own w w0.heap.size 3 v ((letters al).map (Value.int .i64)) ∧ Ext w0 w) := by
  have E := Ext.refl w0
  refine Ret.of (args := [Value.int .i64 al]) Tryd.func37 rfl rfl rfl ?_
  rintro _ rfl
  show Cq _ _ _ _ [(0, Value.int .i64 al)] _
  refine Cq.seq ?_
  refine Cq.region ?_
  refine Sq.assign .plain rfl rfl ?_
  refine Sq.nil ?_
  refine Eq.next ?_
  refine Cq.seq ?_
  refine Cq.region ?_
  refine Sq.assign .plain rfl rfl ?_
  refine Sq.nil ?_
  refine Eq.next ?_
  refine Cq.seq ?_
  refine Cq.seq ?_
  refine Cq.region ?_
  refine Sq.move .plain rfl rfl ?_
  refine Sq.nil ?_
  refine Eq.next ?_
  refine Cq.block ?_
  refine Cq.loop (fun nn w ls => ∃ (k : Int), ∃ (v : Value), ls = [(0, Value.int .i64 al), (3, v), (5, Value.int .i64 k)] ∧ (0 ≤ k ∧ k ≤ 6) ∧ Own w w0.heap.size 3 v ((lettersTo al k.toNat).map (Value.int .i64)) ∧ Ext w0 w ∧ nn = (6 - k).toNat) _ _ ⟨0, _, rfl, by omega, Own.nil _ _ _, E, rfl⟩ (.cons rfl (.cons rfl (.cons rfl (.nil)))) ?_
  rintro nn wl1 ls ⟨k, v, rfl, hk, ho, E, rfl⟩
  have hs1 := Below.size E
  have hl := lettersTo_length al k.toNat
  refine Cq.seq ?_
  refine Cq.region ?_
  refine Sq.lss .plain rfl rfl rfl ?_
  refine Sq.part (fun c2 => ?_) (fun c2 => ?_)
  · refine Sq.nil ?_
    refine Eq.next ?_
    refine Cq.seq ?_
    refine Cq.thn rfl ?_
    refine Cq.skip ?_
    refine Eq.next ?_
    refine Cq.seq ?_
    refine Cq.block ?_
    refine Cq.seq ?_
    refine Cq.region ?_
    refine Sq.move .plain rfl rfl ?_
    refine Sq.assign .plain rfl rfl ?_
    refine Sq.nil ?_
    refine Eq.next ?_
    refine Cq.seq ?_
    refine Cq.region ?_
    refine Sq.move .plain rfl rfl ?_
    refine Sq.move .plain rfl rfl ?_
    refine Sq.call fn44 .plain rfl rfl (has_c _ _ (by omega) _) ?_
    rintro _ _ ⟨rfl, rfl⟩
    refine Sq.partB (fun hb => ?_) (fun hb => ?_)
    · refine Sq.nil ?_
      refine Eq.next ?_
      refine Cq.thn rfl ?_
      refine Cq.region ?_
      refine Sq.move .plain rfl rfl ?_
      refine Sq.move .plain rfl rfl ?_
      refine Sq.app1 sl27 ho (by omega) (by simp; omega) .plain rfl rfl rfl rfl rfl rfl rfl (fun v3 w4 ho6 g5 _ => ?_)
      have hs7 := g5.size
      replace E := E.owned ho g5 (by omega)
      refine Sq.assign .plain rfl rfl ?_
      refine Sq.nil ?_
      refine Eq.end ?_
      refine Eq.next ?_
      refine Cq.region ?_
      refine Sq.add .plain rfl rfl rfl (by omega) ?_
      refine Sq.move .plain rfl rfl ?_
      refine Sq.nil ?_
      have e1 := toNat_succ hk.1
      refine Eq.round _ _ ⟨k + 1, _, rfl, by omega, (by rw [e1, lettersTo_T (by rw [Int.toNat_of_nonneg hk.1]; exact hb)]; simpa [Int.toNat_of_nonneg hk.1] using ho6), E, rfl⟩ (by omega) (.cons rfl (.cons rfl (.cons rfl (.nil))))
    refine Sq.nil ?_
    refine Eq.next ?_
    refine Cq.els rfl ?_
    refine Cq.skip ?_
    refine Eq.end ?_
    refine Eq.next ?_
    refine Cq.region ?_
    refine Sq.add .plain rfl rfl rfl (by omega) ?_
    refine Sq.move .plain rfl rfl ?_
    refine Sq.nil ?_
    have e1 := toNat_succ hk.1
    refine Eq.round _ _ ⟨k + 1, _, rfl, by omega, (by rw [e1, lettersTo_F (by rw [Int.toNat_of_nonneg hk.1]; exact hb)]; exact ho), E, rfl⟩ (by omega) (.cons rfl (.cons rfl (.cons rfl (.nil))))
  refine Sq.nil ?_
  refine Eq.next ?_
  refine Cq.seq ?_
  refine Cq.els rfl ?_
  refine Cq.exit ?_
  refine Eq.past ?_
  refine Eq.past ?_
  refine Eq.hit ?_
  refine Eq.next ?_
  refine Cq.seq ?_
  refine Cq.region ?_
  refine Sq.move .plain rfl rfl ?_
  refine Sq.assign .plain rfl rfl ?_
  refine Sq.nil ?_
  refine Eq.next ?_
  refine Cq.ret ?_
  refine Eq.ret1 rfl rfl ?_
  obtain rfl : k = 6 := by omega
  exact ⟨ho, E⟩
set_option maxRecDepth 100000 in
theorem l1Letters_c (al : Int) (h : 0 ≤ al ∧ al ≤ 63) (w0 : World) : Ret Tryd.prog 33 #[Value.int .i64 al] w0 (fun v w => Own w w0.heap.size 3 v ((letters al).map (Value.int .i64)) ∧ Ext w0 w) := by
  have E := Ext.refl w0
  refine Ret.of (args := [Value.int .i64 al]) Tryd.func33 rfl rfl rfl ?_
  rintro _ rfl
  show Cq _ _ _ _ [(0, Value.int .i64 al)] _
  refine Cq.seq ?_
  refine Cq.region ?_
  refine Sq.assign .plain rfl rfl ?_
  refine Sq.nil ?_
  refine Eq.next ?_
  refine Cq.seq ?_
  refine Cq.region ?_
  refine Sq.lit sl27 rfl rfl .plain rfl rfl one_nil (fun b1 w2 e3 hlo4 ho5 _ => ?_)
  replace ho5 := ho5 w0.heap.size (Nat.le_refl _)
  have hs7 := Below.size e3
  replace E := E.trans e3
  refine Sq.assign .plain rfl rfl ?_
  refine Sq.nil ?_
  refine Eq.next ?_
  refine Cq.seq ?_
  refine Cq.seq ?_
  refine Cq.region ?_
  refine Sq.assign .plain rfl rfl ?_
  refine Sq.nil ?_
  refine Eq.next ?_
  refine Cq.block ?_
  refine Cq.loop (fun nn w ls => ∃ (k : Int), ∃ (v : Value), ls = [(0, Value.int .i64 al), (3, v), (4, Value.int .i64 k)] ∧ (0 ≤ k ∧ k ≤ 6) ∧ Own w w0.heap.size 3 v ((lettersTo al k.toNat).map (Value.int .i64)) ∧ Ext w0 w ∧ nn = (6 - k).toNat) _ _ ⟨0, _, rfl, by omega, Own.mono ho5 (by omega), E, rfl⟩ (.cons rfl (.cons rfl (.cons rfl (.nil)))) ?_
  rintro nn wl1 ls ⟨k, v, rfl, hk, ho, E, rfl⟩
  have hs8 := Below.size E
  have hl := lettersTo_length al k.toNat
  refine Cq.seq ?_
  refine Cq.seq ?_
  refine Cq.region ?_
  refine Sq.move .plain rfl rfl ?_
  refine Sq.lss .plain rfl rfl rfl ?_
  refine Sq.part (fun c9 => ?_) (fun c9 => ?_)
  · refine Sq.nil ?_
    refine Eq.next ?_
    refine Cq.thn rfl ?_
    refine Cq.skip ?_
    refine Eq.next ?_
    refine Cq.seq ?_
    refine Cq.block ?_
    refine Cq.seq ?_
    refine Cq.region ?_
    refine Sq.move .plain rfl rfl ?_
    refine Sq.move .plain rfl rfl ?_
    refine Sq.call fn42 .plain rfl rfl (l1Has_c _ _ (by omega) (by omega) _) ?_
    rintro _ _ ⟨rfl, rfl⟩
    refine Sq.partB (fun hb => ?_) (fun hb => ?_)
    · refine Sq.nil ?_
      refine Eq.next ?_
      refine Cq.thn rfl ?_
      refine Cq.region ?_
      refine Sq.move .plain rfl rfl ?_
      refine Sq.move .plain rfl rfl ?_
      refine Sq.app1 sl27 ho (by omega) (by simp; omega) .plain rfl rfl rfl rfl rfl rfl rfl (fun v10 w11 ho13 g12 _ => ?_)
      have hs14 := g12.size
      replace E := E.owned ho g12 (by omega)
      refine Sq.assign .plain rfl rfl ?_
      refine Sq.nil ?_
      refine Eq.end ?_
      refine Eq.next ?_
      refine Cq.region ?_
      refine Sq.move .plain rfl rfl ?_
      refine Sq.add .plain rfl rfl rfl (by omega) ?_
      refine Sq.assign .plain rfl rfl ?_
      refine Sq.nil ?_
      have e1 := toNat_succ hk.1
      refine Eq.round _ _ ⟨k + 1, _, rfl, by omega, (by rw [e1, lettersTo_T (by rw [Int.toNat_of_nonneg hk.1]; exact hb)]; simpa [Int.toNat_of_nonneg hk.1] using ho13), E, rfl⟩ (by omega) (.cons rfl (.cons rfl (.cons rfl (.nil))))
    refine Sq.nil ?_
    refine Eq.next ?_
    refine Cq.els rfl ?_
    refine Cq.skip ?_
    refine Eq.end ?_
    refine Eq.next ?_
    refine Cq.region ?_
    refine Sq.move .plain rfl rfl ?_
    refine Sq.add .plain rfl rfl rfl (by omega) ?_
    refine Sq.assign .plain rfl rfl ?_
    refine Sq.nil ?_
    have e1 := toNat_succ hk.1
    refine Eq.round _ _ ⟨k + 1, _, rfl, by omega, (by rw [e1, lettersTo_F (by rw [Int.toNat_of_nonneg hk.1]; exact hb)]; exact ho), E, rfl⟩ (by omega) (.cons rfl (.cons rfl (.cons rfl (.nil))))
  refine Sq.nil ?_
  refine Eq.next ?_
  refine Cq.els rfl ?_
  refine Cq.exit ?_
  refine Eq.past ?_
  refine Eq.past ?_
  refine Eq.hit ?_
  refine Eq.next ?_
  refine Cq.seq ?_
  refine Cq.region ?_
  refine Sq.move .plain rfl rfl ?_
  refine Sq.assign .plain rfl rfl ?_
  refine Sq.nil ?_
  refine Eq.next ?_
  refine Cq.ret ?_
  refine Eq.ret1 rfl rfl ?_
  obtain rfl : k = 6 := by omega
  exact ⟨ho, E⟩
set_option maxRecDepth 100000 in
theorem l3Row_c (w0 : World) (xs : List Int) (r : Value) (hr : Ints w0 3 r xs) (m n : Int) (hm : m ≤ 1000000) : Ret Tryd.prog 32 #[r, Value.int .i64 m, Value.int .i64 n] w0 (fun v w => v = .bool (rowOk m n xs) ∧ w0 = w) := by
  refine Ret.of (args := [r, Value.int .i64 m, Value.int .i64 n]) Tryd.func32 rfl rfl rfl ?_
  rintro _ rfl
  show Cq _ _ _ _ [(0, r), (1, Value.int .i64 m), (2, Value.int .i64 n)] _
  refine Cq.seq ?_
  refine Cq.region ?_
  refine Sq.assign .plain rfl rfl ?_
  refine Sq.nil ?_
  refine Eq.next ?_
  refine Cq.seq ?_
  refine Cq.seq ?_
  refine Cq.region ?_
  refine Sq.move .plain rfl rfl ?_
  refine Sq.lenInts hr .plain rfl und27 rfl ?_
  refine Sq.move .plain rfl rfl ?_
  refine Sq.neq .plain rfl rfl rfl ?_
  refine Sq.part (fun c1 => ?_) (fun c1 => ?_)
  · refine Sq.nil ?_
    refine Eq.next ?_
    refine Cq.thn rfl ?_
    refine Cq.seq ?_
    refine Cq.region ?_
    refine Sq.assign .plain rfl rfl ?_
    refine Sq.nil ?_
    refine Eq.next ?_
    refine Cq.ret ?_
    refine Eq.pastRet ?_
    refine Eq.ret1 rfl rfl ?_
    exact ⟨by first | rw [rowOk_len (by omega)] | rw [rowOk_bad (by omega) (k := k.toNat) (by omega) (inB_F (by omega))] | rw [rowOk_good (by omega) hp (by omega)], rfl⟩
  refine Sq.nil ?_
  refine Eq.next ?_
  refine Cq.els rfl ?_
  refine Cq.skip ?_
  refine Eq.next ?_
  refine Cq.seq ?_
  refine Cq.seq ?_
  refine Cq.region ?_
  refine Sq.assign .plain rfl rfl ?_
  refine Sq.nil ?_
  refine Eq.next ?_
  refine Cq.block ?_
  refine Cq.loop (fun nn w ls => ∃ (k : Int), ls = [(0, r), (2, Value.int .i64 n), (7, Value.int .i64 k)] ∧ w0 = w ∧ (0 ≤ k ∧ k ≤ xs.length) ∧ (xs.take k.toNat).all (inB n) = true ∧ nn = ((xs.length : Int) - k).toNat) _ _ ⟨0, rfl, rfl, by omega, rfl, rfl⟩ (.cons rfl (.cons rfl (.cons rfl (.nil)))) ?_
  rintro n1 w ls ⟨k, rfl, rfl, hk, hp, rfl⟩
  refine Cq.seq ?_
  refine Cq.seq ?_
  refine Cq.region ?_
  refine Sq.move .plain rfl rfl ?_
  refine Sq.move .plain rfl rfl ?_
  refine Sq.lenInts hr .plain rfl und27 rfl ?_
  refine Sq.lss .plain rfl rfl rfl ?_
  refine Sq.part (fun c2 => ?_) (fun c2 => ?_)
  · refine Sq.nil ?_
    refine Eq.next ?_
    refine Cq.thn rfl ?_
    refine Cq.skip ?_
    refine Eq.next ?_
    refine Cq.seq ?_
    refine Cq.block ?_
    refine Cq.seq ?_
    refine Cq.region ?_
    refine Sq.move .plain rfl rfl ?_
    refine Sq.move .plain rfl rfl ?_
    refine Sq.idxInts sl27 one3 hr .plain rfl rfl rfl .plain rfl rfl (by omega) (by omega) ?_
    refine Sq.lss .plain rfl rfl rfl ?_
    refine Sq.part (fun c3 => ?_) (fun c3 => ?_)
    · refine Sq.move .plain rfl rfl ?_
      refine Sq.off rfl rfl rfl rfl rfl rfl ?_
      refine Sq.off rfl rfl rfl rfl rfl rfl ?_
      refine Sq.off rfl rfl rfl rfl rfl rfl ?_
      refine Sq.off rfl rfl rfl rfl rfl rfl ?_
      refine Sq.off rfl rfl rfl rfl rfl rfl ?_
      refine Sq.off rfl rfl rfl rfl rfl rfl ?_
      refine Sq.pickT .plain rfl rfl rfl ?_
      refine Sq.nil ?_
      refine Eq.next ?_
      refine Cq.thn rfl ?_
      refine Cq.seq ?_
      refine Cq.region ?_
      refine Sq.assign .plain rfl rfl ?_
      refine Sq.nil ?_
      refine Eq.next ?_
      refine Cq.ret ?_
      refine Eq.outRet ?_
      refine Eq.pastRet ?_
      refine Eq.pastRet ?_
      refine Eq.outRet ?_
      refine Eq.pastRet ?_
      refine Eq.ret1 rfl rfl ?_
      exact ⟨by first | rw [rowOk_len (by omega)] | rw [rowOk_bad (by omega) (k := k.toNat) (by omega) (inB_F (by omega))] | rw [rowOk_good (by omega) hp (by omega)], rfl⟩
    refine Sq.move .plain rfl rfl ?_
    refine Sq.move (.met rfl rfl rfl) rfl rfl ?_
    refine Sq.move (.met rfl rfl rfl) rfl rfl ?_
    refine Sq.idxInts sl27 one3 hr (.met rfl rfl rfl) rfl rfl rfl (.met rfl rfl rfl) rfl rfl (by omega) (by omega) ?_
    refine Sq.move (.met rfl rfl rfl) rfl rfl ?_
    refine Sq.geq (.met rfl rfl rfl) rfl rfl rfl ?_
    refine Sq.part (fun c4 => ?_) (fun c4 => ?_)
    · refine Sq.pickF .plain rfl rfl rfl ?_
      refine Sq.nil ?_
      refine Eq.next ?_
      refine Cq.thn rfl ?_
      refine Cq.seq ?_
      refine Cq.region ?_
      refine Sq.assign .plain rfl rfl ?_
      refine Sq.nil ?_
      refine Eq.next ?_
      refine Cq.ret ?_
      refine Eq.outRet ?_
      refine Eq.pastRet ?_
      refine Eq.pastRet ?_
      refine Eq.outRet ?_
      refine Eq.pastRet ?_
      refine Eq.ret1 rfl rfl ?_
      exact ⟨by first | rw [rowOk_len (by omega)] | rw [rowOk_bad (by omega) (k := k.toNat) (by omega) (inB_F (by omega))] | rw [rowOk_good (by omega) hp (by omega)], rfl⟩
    refine Sq.pickF .plain rfl rfl rfl ?_
    refine Sq.nil ?_
    refine Eq.next ?_
    refine Cq.els rfl ?_
    refine Cq.skip ?_
    refine Eq.end ?_
    refine Eq.next ?_
    refine Cq.region ?_
    refine Sq.move .plain rfl rfl ?_
    refine Sq.add .plain rfl rfl rfl (by omega) ?_
    refine Sq.assign .plain rfl rfl ?_
    refine Sq.nil ?_
    have e1 := toNat_succ hk.1
    refine Eq.round _ _ ⟨k + 1, rfl, rfl, by omega, by rw [e1]; exact all_snoc (d := 0) hp (by omega) (inB_T (by omega)), rfl⟩ (by omega) (.cons rfl (.cons rfl (.cons rfl (.nil))))
  refine Sq.nil ?_
  refine Eq.next ?_
  refine Cq.els rfl ?_
  refine Cq.exit ?_
  refine Eq.past ?_
  refine Eq.past ?_
  refine Eq.hit ?_
  refine Eq.next ?_
  refine Cq.seq ?_
  refine Cq.region ?_
  refine Sq.assign .plain rfl rfl ?_
  refine Sq.nil ?_
  refine Eq.next ?_
  refine Cq.ret ?_
  refine Eq.ret1 rfl rfl ?_
  exact ⟨by first | rw [rowOk_len (by omega)] | rw [rowOk_bad (by omega) (k := k.toNat) (by omega) (inB_F (by omega))] | rw [rowOk_good (by omega) hp (by omega)], rfl⟩
end Go.Proofs.YtdkdpmmfebdeaaaDoor
set_option linter.unusedSimpArgs false
set_option linter.unusedVariables false
namespace Go.Proofs.YtdkdpmmfebdeaaaDoor
open Go.RowKit
set_option maxRecDepth 100000 in
theorem sValid_c (w0 : World) (a : A) (nx ac : Value) (hnx : Rows w0 27 3 nx a.next) (hac : Bools w0 4 ac a.acc) : Ret Tryd.prog 18 #[Value.agg #[Value.int .i64 a.al, nx, ac]] w0 (fun v w => v = .bool (validA a) ∧ Ext w0 w) := by
  have E := Ext.refl w0
  refine Ret.of (args := [Value.agg #[Value.int .i64 a.al, nx, ac]]) Tryd.func18 rfl rfl rfl ?_
  rintro _ rfl
  show Cq _ _ _ _ [(0, Value.agg #[Value.int .i64 a.al, nx, ac])] _
  refine Cq.seq ?_
  refine Cq.region ?_
  refine Sq.box .plain rfl rfl (fun b1 w2 e3 hB4 hlo5 => ?_)
  have hd6 := Nat.le_trans (Below.size E) hlo5
  have hs7 := Below.size e3
  replace E := E.trans e3
  refine Sq.assign .plain rfl rfl ?_
  refine Sq.nil ?_
  refine Eq.next ?_
  refine Cq.seq ?_
  refine Cq.region ?_
  refine Sq.fieldAddr fld29_1 .plain rfl rfl ?_
  refine Sq.loadB one22 .plain rfl rfl hB4 rfl ?_
  refine Sq.lenRows (hnx.ext E) .plain rfl und22 rfl ?_
  refine Sq.assign .plain rfl rfl ?_
  refine Sq.nil ?_
  refine Eq.next ?_
  refine Cq.seq ?_
  refine Cq.seq ?_
  refine Cq.region ?_
  refine Sq.fieldAddr fld29_0 .plain rfl rfl ?_
  refine Sq.loadB one3 .plain rfl rfl hB4 rfl ?_
  refine Sq.call fn31 .plain rfl rfl (l1Alphabet_c _ _) ?_
  rintro _ _ ⟨rfl, rfl⟩
  refine Sq.part (fun c8 => ?_) (fun c8 => ?_)
  · refine Sq.notT .plain rfl rfl ?_
    refine Sq.move .plain rfl rfl ?_
    refine Sq.move (.met rfl rfl rfl) rfl rfl ?_
    refine Sq.lss (.met rfl rfl rfl) rfl rfl rfl ?_
    refine Sq.part (fun c9 => ?_) (fun c9 => ?_)
    · refine Sq.pickF .plain rfl rfl rfl ?_
      refine Sq.move .plain rfl rfl ?_
      refine Sq.off rfl rfl rfl rfl rfl rfl ?_
      refine Sq.off rfl rfl rfl rfl rfl rfl ?_
      refine Sq.pickT .plain rfl rfl rfl ?_
      refine Sq.move .plain rfl rfl ?_
      refine Sq.off rfl rfl rfl rfl rfl rfl ?_
      refine Sq.off rfl rfl rfl rfl rfl rfl ?_
      refine Sq.off rfl rfl rfl rfl rfl rfl ?_
      refine Sq.off rfl rfl rfl rfl rfl rfl ?_
      refine Sq.off rfl rfl rfl rfl rfl rfl ?_
      refine Sq.pickT .plain rfl rfl rfl ?_
      refine Sq.nil ?_
      refine Eq.next ?_
      refine Cq.thn rfl ?_
      refine Cq.seq ?_
      refine Cq.region ?_
      refine Sq.assign .plain rfl rfl ?_
      refine Sq.nil ?_
      refine Eq.next ?_
      refine Cq.ret ?_
      refine Eq.pastRet ?_
      refine Eq.ret1 rfl rfl ?_
      exact ⟨by first | rw [validA_al (by omega)] | rw [validA_n (by omega)] | rw [validA_acc (by omega)] | rw [validA_row (k := k.toNat) (by omega) hrow] | rw [validA_good (k := k.toNat) (by omega) (by omega) (by omega) hp (by omega)], E⟩
    refine Sq.pickF .plain rfl rfl rfl ?_
    refine Sq.move .plain rfl rfl ?_
    refine Sq.move (.met rfl rfl rfl) rfl rfl ?_
    refine Sq.gtr (.met rfl rfl rfl) rfl rfl rfl ?_
    refine Sq.part (fun c10 => ?_) (fun c10 => ?_)
    · refine Sq.pickF .plain rfl rfl rfl ?_
      refine Sq.move .plain rfl rfl ?_
      refine Sq.off rfl rfl rfl rfl rfl rfl ?_
      refine Sq.off rfl rfl rfl rfl rfl rfl ?_
      refine Sq.off rfl rfl rfl rfl rfl rfl ?_
      refine Sq.off rfl rfl rfl rfl rfl rfl ?_
      refine Sq.off rfl rfl rfl rfl rfl rfl ?_
      refine Sq.pickT .plain rfl rfl rfl ?_
      refine Sq.nil ?_
      refine Eq.next ?_
      refine Cq.thn rfl ?_
      refine Cq.seq ?_
      refine Cq.region ?_
      refine Sq.assign .plain rfl rfl ?_
      refine Sq.nil ?_
      refine Eq.next ?_
      refine Cq.ret ?_
      refine Eq.pastRet ?_
      refine Eq.ret1 rfl rfl ?_
      exact ⟨by first | rw [validA_al (by omega)] | rw [validA_n (by omega)] | rw [validA_acc (by omega)] | rw [validA_row (k := k.toNat) (by omega) hrow] | rw [validA_good (k := k.toNat) (by omega) (by omega) (by omega) hp (by omega)], E⟩
    refine Sq.pickF .plain rfl rfl rfl ?_
    refine Sq.move .plain rfl rfl ?_
    refine Sq.fieldAddr fld29_2 (.met rfl rfl rfl) rfl rfl ?_
    refine Sq.loadB one23 (.met rfl rfl rfl) rfl rfl hB4 rfl ?_
    refine Sq.lenBools (hac.ext E) (.met rfl rfl rfl) rfl und23 rfl ?_
    refine Sq.move (.met rfl rfl rfl) rfl rfl ?_
    refine Sq.neq (.met rfl rfl rfl) rfl rfl rfl ?_
    refine Sq.part (fun c11 => ?_) (fun c11 => ?_)
    · refine Sq.pickF .plain rfl rfl rfl ?_
      refine Sq.nil ?_
      refine Eq.next ?_
      refine Cq.thn rfl ?_
      refine Cq.seq ?_
      refine Cq.region ?_
      refine Sq.assign .plain rfl rfl ?_
      refine Sq.nil ?_
      refine Eq.next ?_
      refine Cq.ret ?_
      refine Eq.pastRet ?_
      refine Eq.ret1 rfl rfl ?_
      exact ⟨by first | rw [validA_al (by omega)] | rw [validA_n (by omega)] | rw [validA_acc (by omega)] | rw [validA_row (k := k.toNat) (by omega) hrow] | rw [validA_good (k := k.toNat) (by omega) (by omega) (by omega) hp (by omega)], E⟩
    refine Sq.pickF .plain rfl rfl rfl ?_
    refine Sq.nil ?_
    refine Eq.next ?_
    refine Cq.els rfl ?_
    refine Cq.skip ?_
    refine Eq.next ?_
    refine Cq.seq ?_
    refine Cq.seq ?_
    refine Cq.region ?_
    refine Sq.assign .plain rfl rfl ?_
    refine Sq.nil ?_
    refine Eq.next ?_
    refine Cq.block ?_
    refine Cq.loop (fun nn w ls => ∃ (k : Int), ls = [(1, Value.pointer (some ⟨b1, 0, none⟩)), (3, Value.int .i64 (List.length a.next : Int)), (4, Value.int .i64 k)] ∧ (0 ≤ k ∧ k ≤ a.next.length) ∧ (a.next.take k.toNat).all (rowOk (letters a.al).length a.next.length) = true ∧ Ext w0 w ∧ Blk w b1 29 [Value.int .i64 a.al, nx, ac] ∧ nn = ((a.next.length : Int) - k).toNat) _ _ ⟨0, rfl, by omega, rfl, E, hB4, rfl⟩ (.cons rfl (.cons rfl (.cons rfl (.nil)))) ?_
    rintro nn wl1 ls ⟨k, rfl, hk, hp, E, hB4, rfl⟩
    have hs12 := Below.size E
    refine Cq.seq ?_
    refine Cq.seq ?_
    refine Cq.region ?_
    refine Sq.move .plain rfl rfl ?_
    refine Sq.move .plain rfl rfl ?_
    refine Sq.lss .plain rfl rfl rfl ?_
    refine Sq.part (fun c13 => ?_) (fun c13 => ?_)
    · refine Sq.nil ?_
      refine Eq.next ?_
      refine Cq.thn rfl ?_
      refine Cq.skip ?_
      refine Eq.next ?_
      refine Cq.seq ?_
      refine Cq.block ?_
      refine Cq.seq ?_
      refine Cq.draw 12 none mixed (fun w14 e15 => ?_)
      have hs16 := Below.size e15
      replace E := E.trans e15
      replace hB4 := hB4.ext e15
      have E_w14 := E
      have hB4_w14 := hB4
      refine Gq.st 0 rfl (by kernel_rfl) rfl .plain rfl (fun _ _ _ h => h) (World.grownBy.refl w14 _) (fun w' x => Still.fieldAddr fld29_1 rfl) ?_
      refine Gq.st 1 rfl (by kernel_rfl) rfl .plain rfl (fun _ _ _ h => h) (World.grownBy.refl w14 _) (fun w' x => Still.loadB one22 rfl (hB4_w14.ext (Ext.of_grown x)) rfl) ?_
      refine Gq.st 2 rfl (by kernel_rfl) rfl .plain rfl (fun _ _ _ h => h) (World.grownBy.refl w14 _) (fun w' x => Still.move rfl) ?_
      obtain ⟨p17, r19, hp18_w14, hr20⟩ := Rows.at hnx (i := k) (by omega) (by omega)
      refine Gq.st 3 rfl (by kernel_rfl) rfl .plain rfl (fun _ _ _ h => h) (World.grownBy.refl w14 _) (fun w' x => Still.at' sl22 hp18_w14 rfl rfl) ?_
      refine Gq.st 4 rfl (by kernel_rfl) rfl .plain rfl (fun _ _ _ h => h) (World.grownBy.refl w14 _) (fun w' x => Still.loadA one27 rfl (hp18_w14.ext (E_w14.trans (Ext.of_grown x))).1) ?_
      refine Gq.st 5 rfl (by kernel_rfl) rfl .plain rfl (fun _ _ _ h => h) (World.grownBy.refl w14 _) (fun w' x => Still.fieldAddr fld29_0 rfl) ?_
      refine Gq.st 6 rfl (by kernel_rfl) rfl .plain rfl (fun _ _ _ h => h) (World.grownBy.refl w14 _) (fun w' x => Still.loadB one3 rfl (hB4_w14.ext (Ext.of_grown x)) rfl) ?_
      refine Gq.st 9 rfl (by kernel_rfl) rfl .plain rfl (fun _ _ _ h => h) (World.grownBy.refl w14 _) (fun w' x => Still.move rfl) ?_
      refine Gq.one 7 rfl (by kernel_rfl) ?_
      have hd25 := hB4.lt
      refine Sq.call fn33 .plain rfl rfl (l1Letters_c a.al (by omega) _) ?_
      rintro v21 w22 ⟨hl24, e23⟩
      have hs26 := Below.size E
      have hs27 := Below.size e23
      replace E := E.trans e23
      replace hB4 := hB4.ext e23
      refine Sq.nil ?_
      refine Eq.goes (fun _ => (grown_trans (World.grownBy.refl w14 _) (Ext.to_grown e23 _))) ?_
      refine Gq.one 8 rfl (by kernel_rfl) ?_
      refine Sq.lenInts (Own.row hl24) .plain rfl und27 rfl ?_
      refine Sq.nil ?_
      refine Eq.goes (fun _ => (grown_trans (World.grownBy.refl w14 _) (Ext.to_grown e23 _))) ?_
      refine Gq.one 10 rfl (by kernel_rfl) ?_
      refine Sq.call fn32 .plain rfl rfl (l3Row_c _ _ _ (hr20.ext E) _ _ (by have := letters_len6 a.al; omega)) ?_
      rintro _ _ ⟨rfl, rfl⟩
      refine Sq.partB (fun hrow => ?_) (fun hrow => ?_)
      · refine Sq.nil ?_
        refine Eq.goes (fun _ => (grown_trans (World.grownBy.refl w14 _) (Ext.to_grown e23 _))) ?_
        refine Gq.st 11 rfl (by kernel_rfl) rfl .plain rfl (fun _ _ _ h => h) (grown_trans (World.grownBy.refl w14 _) (Ext.to_grown e23 _)) (fun w' x => Still.notT rfl) ?_
        refine Gq.done (by kernel_rfl) ?_
        refine Eq.next ?_
        refine Cq.els rfl ?_
        refine Cq.skip ?_
        refine Eq.end ?_
        refine Eq.next ?_
        refine Cq.region ?_
        refine Sq.move .plain rfl rfl ?_
        refine Sq.add .plain rfl rfl rfl (by omega) ?_
        refine Sq.assign .plain rfl rfl ?_
        refine Sq.nil ?_
        have e1 := toNat_succ hk.1
        refine Eq.round _ _ ⟨k + 1, rfl, by omega, by rw [e1]; exact all_snoc (d := []) hp (by omega) hrow, E, hB4, rfl⟩ (by omega) (.cons rfl (.cons rfl (.cons rfl (.nil))))
      refine Sq.nil ?_
      refine Eq.goes (fun _ => (grown_trans (World.grownBy.refl w14 _) (Ext.to_grown e23 _))) ?_
      refine Gq.st 11 rfl (by kernel_rfl) rfl .plain rfl (fun _ _ _ h => h) (grown_trans (World.grownBy.refl w14 _) (Ext.to_grown e23 _)) (fun w' x => Still.notF rfl) ?_
      refine Gq.done (by kernel_rfl) ?_
      refine Eq.next ?_
      refine Cq.thn rfl ?_
      refine Cq.seq ?_
      refine Cq.region ?_
      refine Sq.assign .plain rfl rfl ?_
      refine Sq.nil ?_
      refine Eq.next ?_
      refine Cq.ret ?_
      refine Eq.outRet ?_
      refine Eq.pastRet ?_
      refine Eq.pastRet ?_
      refine Eq.outRet ?_
      refine Eq.pastRet ?_
      refine Eq.ret1 rfl rfl ?_
      exact ⟨by first | rw [validA_al (by omega)] | rw [validA_n (by omega)] | rw [validA_acc (by omega)] | rw [validA_row (k := k.toNat) (by omega) hrow] | rw [validA_good (k := k.toNat) (by omega) (by omega) (by omega) hp (by omega)], E⟩
    refine Sq.nil ?_
    refine Eq.next ?_
    refine Cq.els rfl ?_
    refine Cq.exit ?_
    refine Eq.past ?_
    refine Eq.past ?_
    refine Eq.hit ?_
    refine Eq.next ?_
    refine Cq.seq ?_
    refine Cq.region ?_
    refine Sq.assign .plain rfl rfl ?_
    refine Sq.nil ?_
    refine Eq.next ?_
    refine Cq.ret ?_
    refine Eq.ret1 rfl rfl ?_
    exact ⟨by first | rw [validA_al (by omega)] | rw [validA_n (by omega)] | rw [validA_acc (by omega)] | rw [validA_row (k := k.toNat) (by omega) hrow] | rw [validA_good (k := k.toNat) (by omega) (by omega) (by omega) hp (by omega)], E⟩
  refine Sq.notF .plain rfl rfl ?_
  refine Sq.move .plain rfl rfl ?_
  refine Sq.off rfl rfl rfl rfl rfl rfl ?_
  refine Sq.off rfl rfl rfl rfl rfl rfl ?_
  refine Sq.pickT .plain rfl rfl rfl ?_
  refine Sq.move .plain rfl rfl ?_
  refine Sq.off rfl rfl rfl rfl rfl rfl ?_
  refine Sq.off rfl rfl rfl rfl rfl rfl ?_
  refine Sq.pickT .plain rfl rfl rfl ?_
  refine Sq.move .plain rfl rfl ?_
  refine Sq.off rfl rfl rfl rfl rfl rfl ?_
  refine Sq.off rfl rfl rfl rfl rfl rfl ?_
  refine Sq.off rfl rfl rfl rfl rfl rfl ?_
  refine Sq.off rfl rfl rfl rfl rfl rfl ?_
  refine Sq.off rfl rfl rfl rfl rfl rfl ?_
  refine Sq.pickT .plain rfl rfl rfl ?_
  refine Sq.nil ?_
  refine Eq.next ?_
  refine Cq.thn rfl ?_
  refine Cq.seq ?_
  refine Cq.region ?_
  refine Sq.assign .plain rfl rfl ?_
  refine Sq.nil ?_
  refine Eq.next ?_
  refine Cq.ret ?_
  refine Eq.pastRet ?_
  refine Eq.ret1 rfl rfl ?_
  exact ⟨by first | rw [validA_al (by omega)] | rw [validA_n (by omega)] | rw [validA_acc (by omega)] | rw [validA_row (k := k.toNat) (by omega) hrow] | rw [validA_good (k := k.toNat) (by omega) (by omega) (by omega) hp (by omega)], E⟩
set_option maxRecDepth 100000 in
theorem valid_c (w0 : World) (a : A) (nx ac : Value) (hnx : Rows w0 27 3 nx a.next) (hac : Bools w0 4 ac a.acc) : Ret Tryd.prog 22 #[Value.agg #[Value.int .i64 a.al, nx, ac]] w0 (fun v w => v = .bool (validA a) ∧ Ext w0 w) := by
  have E := Ext.refl w0
  refine Ret.of (args := [Value.agg #[Value.int .i64 a.al, nx, ac]]) Tryd.func22 rfl rfl rfl ?_
  rintro _ rfl
  show Cq _ _ _ _ [(0, Value.agg #[Value.int .i64 a.al, nx, ac])] _
  refine Cq.seq ?_
  refine Cq.region ?_
  refine Sq.box .plain rfl rfl (fun b1 w2 e3 hB4 hlo5 => ?_)
  have hd6 := Nat.le_trans (Below.size E) hlo5
  have hs7 := Below.size e3
  replace E := E.trans e3
  refine Sq.assign .plain rfl rfl ?_
  refine Sq.nil ?_
  refine Eq.next ?_
  refine Cq.seq ?_
  refine Cq.seq ?_
  refine Cq.region ?_
  refine Sq.fieldAddr fld29_0 .plain rfl rfl ?_
  refine Sq.loadB one3 .plain rfl rfl hB4 rfl ?_
  refine Sq.call fn36 .plain rfl rfl (isAlphabet_c _ _) ?_
  rintro _ _ ⟨rfl, rfl⟩
  refine Sq.part (fun c8 => ?_) (fun c8 => ?_)
  · refine Sq.notT .plain rfl rfl ?_
    refine Sq.move .plain rfl rfl ?_
    refine Sq.fieldAddr fld29_1 (.met rfl rfl rfl) rfl rfl ?_
    refine Sq.loadB one22 (.met rfl rfl rfl) rfl rfl hB4 rfl ?_
    refine Sq.lenRows (hnx.ext E) (.met rfl rfl rfl) rfl und22 rfl ?_
    refine Sq.lss (.met rfl rfl rfl) rfl rfl rfl ?_
    refine Sq.part (fun c9 => ?_) (fun c9 => ?_)
    · refine Sq.pickF .plain rfl rfl rfl ?_
      refine Sq.move .plain rfl rfl ?_
      refine Sq.off rfl rfl rfl rfl rfl rfl ?_
      refine Sq.off rfl rfl rfl rfl rfl rfl ?_
      refine Sq.off rfl rfl rfl rfl rfl rfl ?_
      refine Sq.off rfl rfl rfl rfl rfl rfl ?_
      refine Sq.pickT .plain rfl rfl rfl ?_
      refine Sq.move .plain rfl rfl ?_
      refine Sq.off rfl rfl rfl rfl rfl rfl ?_
      refine Sq.off rfl rfl rfl rfl rfl rfl ?_
      refine Sq.off rfl rfl rfl rfl rfl rfl ?_
      refine Sq.off rfl rfl rfl rfl rfl rfl ?_
      refine Sq.off rfl rfl rfl rfl rfl rfl ?_
      refine Sq.off rfl rfl rfl rfl rfl rfl ?_
      refine Sq.off rfl rfl rfl rfl rfl rfl ?_
      refine Sq.pickT .plain rfl rfl rfl ?_
      refine Sq.nil ?_
      refine Eq.next ?_
      refine Cq.thn rfl ?_
      refine Cq.seq ?_
      refine Cq.region ?_
      refine Sq.assign .plain rfl rfl ?_
      refine Sq.nil ?_
      refine Eq.next ?_
      refine Cq.ret ?_
      refine Eq.pastRet ?_
      refine Eq.ret1 rfl rfl ?_
      exact ⟨by first | rw [validA_al (by omega)] | rw [validA_n (by omega)] | rw [validA_acc (by omega)] | rw [validA_row (k := k.toNat) (by omega) (rowOk_len (by omega))] | rw [validA_row (k := k.toNat) (by omega) (rowOk_bad (by omega) (k := j.toNat) (by omega) (inB_F (by omega)))] | rw [validA_good (k := k.toNat) (by omega) (by omega) (by omega) hp (by omega)], E⟩
    refine Sq.pickF .plain rfl rfl rfl ?_
    refine Sq.move .plain rfl rfl ?_
    refine Sq.fieldAddr fld29_1 (.met rfl rfl rfl) rfl rfl ?_
    refine Sq.loadB one22 (.met rfl rfl rfl) rfl rfl hB4 rfl ?_
    refine Sq.lenRows (hnx.ext E) (.met rfl rfl rfl) rfl und22 rfl ?_
    refine Sq.gtr (.met rfl rfl rfl) rfl rfl rfl ?_
    refine Sq.part (fun c10 => ?_) (fun c10 => ?_)
    · refine Sq.pickF .plain rfl rfl rfl ?_
      refine Sq.move .plain rfl rfl ?_
      refine Sq.off rfl rfl rfl rfl rfl rfl ?_
      refine Sq.off rfl rfl rfl rfl rfl rfl ?_
      refine Sq.off rfl rfl rfl rfl rfl rfl ?_
      refine Sq.off rfl rfl rfl rfl rfl rfl ?_
      refine Sq.off rfl rfl rfl rfl rfl rfl ?_
      refine Sq.off rfl rfl rfl rfl rfl rfl ?_
      refine Sq.off rfl rfl rfl rfl rfl rfl ?_
      refine Sq.pickT .plain rfl rfl rfl ?_
      refine Sq.nil ?_
      refine Eq.next ?_
      refine Cq.thn rfl ?_
      refine Cq.seq ?_
      refine Cq.region ?_
      refine Sq.assign .plain rfl rfl ?_
      refine Sq.nil ?_
      refine Eq.next ?_
      refine Cq.ret ?_
      refine Eq.pastRet ?_
      refine Eq.ret1 rfl rfl ?_
      exact ⟨by first | rw [validA_al (by omega)] | rw [validA_n (by omega)] | rw [validA_acc (by omega)] | rw [validA_row (k := k.toNat) (by omega) (rowOk_len (by omega))] | rw [validA_row (k := k.toNat) (by omega) (rowOk_bad (by omega) (k := j.toNat) (by omega) (inB_F (by omega)))] | rw [validA_good (k := k.toNat) (by omega) (by omega) (by omega) hp (by omega)], E⟩
    refine Sq.pickF .plain rfl rfl rfl ?_
    refine Sq.move .plain rfl rfl ?_
    refine Sq.fieldAddr fld29_2 (.met rfl rfl rfl) rfl rfl ?_
    refine Sq.loadB one23 (.met rfl rfl rfl) rfl rfl hB4 rfl ?_
    refine Sq.lenBools (hac.ext E) (.met rfl rfl rfl) rfl und23 rfl ?_
    refine Sq.fieldAddr fld29_1 (.met rfl rfl rfl) rfl rfl ?_
    refine Sq.loadB one22 (.met rfl rfl rfl) rfl rfl hB4 rfl ?_
    refine Sq.lenRows (hnx.ext E) (.met rfl rfl rfl) rfl und22 rfl ?_
    refine Sq.neq (.met rfl rfl rfl) rfl rfl rfl ?_
    refine Sq.part (fun c11 => ?_) (fun c11 => ?_)
    · refine Sq.pickF .plain rfl rfl rfl ?_
      refine Sq.nil ?_
      refine Eq.next ?_
      refine Cq.thn rfl ?_
      refine Cq.seq ?_
      refine Cq.region ?_
      refine Sq.assign .plain rfl rfl ?_
      refine Sq.nil ?_
      refine Eq.next ?_
      refine Cq.ret ?_
      refine Eq.pastRet ?_
      refine Eq.ret1 rfl rfl ?_
      exact ⟨by first | rw [validA_al (by omega)] | rw [validA_n (by omega)] | rw [validA_acc (by omega)] | rw [validA_row (k := k.toNat) (by omega) (rowOk_len (by omega))] | rw [validA_row (k := k.toNat) (by omega) (rowOk_bad (by omega) (k := j.toNat) (by omega) (inB_F (by omega)))] | rw [validA_good (k := k.toNat) (by omega) (by omega) (by omega) hp (by omega)], E⟩
    refine Sq.pickF .plain rfl rfl rfl ?_
    refine Sq.nil ?_
    refine Eq.next ?_
    refine Cq.els rfl ?_
    refine Cq.skip ?_
    refine Eq.next ?_
    refine Cq.seq ?_
    refine Cq.region ?_
    refine Sq.fieldAddr fld29_0 .plain rfl rfl ?_
    refine Sq.loadB one3 .plain rfl rfl hB4 rfl ?_
    have hd16 := hB4.lt
    refine Sq.call fn37 .plain rfl rfl (lettersOf_c a.al (by omega) _) ?_
    rintro v12 w13 ⟨hl15, e14⟩
    have hs17 := Below.size E
    have hs18 := Below.size e14
    replace E := E.trans e14
    replace hB4 := hB4.ext e14
    refine Sq.lenInts (Own.row hl15) .plain rfl und27 rfl ?_
    refine Sq.assign .plain rfl rfl ?_
    refine Sq.nil ?_
    refine Eq.next ?_
    refine Cq.seq ?_
    refine Cq.seq ?_
    refine Cq.region ?_
    refine Sq.fieldAddr fld29_1 .plain rfl rfl ?_
    refine Sq.loadB one22 .plain rfl rfl hB4 rfl ?_
    refine Sq.lenRows (hnx.ext E) .plain rfl und22 rfl ?_
    refine Sq.move .plain rfl rfl ?_
    refine Sq.nil ?_
    refine Eq.next ?_
    refine Cq.block ?_
    refine Cq.loop (fun nn w ls => ∃ (k : Int), ls = [(1, Value.pointer (some ⟨b1, 0, none⟩)), (3, Value.int .i64 ((List.length (letters a.al) : Int))), (38, nx), (39, Value.int .i64 (List.length a.next : Int)), (40, Value.int .i64 k)] ∧ (0 ≤ k ∧ k ≤ a.next.length) ∧ (a.next.take k.toNat).all (rowOk (letters a.al).length a.next.length) = true ∧ Ext w0 w ∧ Blk w b1 29 [Value.int .i64 a.al, nx, ac] ∧ nn = ((a.next.length : Int) - k).toNat) _ _ ⟨0, rfl, by omega, rfl, E, hB4, rfl⟩ (.cons rfl (.cons rfl (.cons rfl (.cons rfl (.cons rfl (.nil)))))) ?_
    rintro nn wl1 ls ⟨k, rfl, hk, hp, E, hB4, rfl⟩
    have hs19 := Below.size E
    refine Cq.seq ?_
    refine Cq.region ?_
    refine Sq.lss .plain rfl rfl rfl ?_
    refine Sq.part (fun c20 => ?_) (fun c20 => ?_)
    · refine Sq.nil ?_
      refine Eq.next ?_
      refine Cq.seq ?_
      refine Cq.thn rfl ?_
      refine Cq.skip ?_
      refine Eq.next ?_
      refine Cq.seq ?_
      refine Cq.block ?_
      refine Cq.seq ?_
      refine Cq.region ?_
      refine Sq.idxRows sl22 one27 (hnx.ext E) .plain rfl rfl rfl .plain rfl rfl (by omega) (by omega) (fun r21 hr22 => ?_)
      refine Sq.assign .plain rfl rfl ?_
      refine Sq.nil ?_
      refine Eq.next ?_
      refine Cq.seq ?_
      refine Cq.seq ?_
      refine Cq.region ?_
      refine Sq.move .plain rfl rfl ?_
      refine Sq.lenInts hr22 .plain rfl und27 rfl ?_
      refine Sq.move .plain rfl rfl ?_
      refine Sq.neq .plain rfl rfl rfl ?_
      refine Sq.part (fun c23 => ?_) (fun c23 => ?_)
      · refine Sq.nil ?_
        refine Eq.next ?_
        refine Cq.thn rfl ?_
        refine Cq.seq ?_
        refine Cq.region ?_
        refine Sq.assign .plain rfl rfl ?_
        refine Sq.nil ?_
        refine Eq.next ?_
        refine Cq.ret ?_
        refine Eq.pastRet ?_
        refine Eq.outRet ?_
        refine Eq.pastRet ?_
        refine Eq.pastRet ?_
        refine Eq.outRet ?_
        refine Eq.pastRet ?_
        refine Eq.ret1 rfl rfl ?_
        exact ⟨by first | rw [validA_al (by omega)] | rw [validA_n (by omega)] | rw [validA_acc (by omega)] | rw [validA_row (k := k.toNat) (by omega) (rowOk_len (by omega))] | rw [validA_row (k := k.toNat) (by omega) (rowOk_bad (by omega) (k := j.toNat) (by omega) (inB_F (by omega)))] | rw [validA_good (k := k.toNat) (by omega) (by omega) (by omega) hp (by omega)], E⟩
      refine Sq.nil ?_
      refine Eq.next ?_
      refine Cq.els rfl ?_
      refine Cq.skip ?_
      refine Eq.next ?_
      refine Cq.seq ?_
      refine Cq.region ?_
      refine Sq.move .plain rfl rfl ?_
      refine Sq.lenInts hr22 .plain rfl und27 rfl ?_
      refine Sq.move .plain rfl rfl ?_
      refine Sq.nil ?_
      refine Eq.next ?_
      refine Cq.block ?_
      refine Cq.loop (fun nn w ls => ∃ (j : Int), ls = [(1, Value.pointer (some ⟨b1, 0, none⟩)), (3, Value.int .i64 ((List.length (letters a.al) : Int))), (38, nx), (39, Value.int .i64 (List.length a.next : Int)), (40, Value.int .i64 k), (48, r21), (49, Value.int .i64 ((List.length (a.next.getD k.toNat []) : Int))), (50, Value.int .i64 j)] ∧ (0 ≤ j ∧ j ≤ (a.next.getD k.toNat []).length) ∧ ((a.next.getD k.toNat []).take j.toNat).all (inB a.next.length) = true ∧ Ext w0 w ∧ Blk w b1 29 [Value.int .i64 a.al, nx, ac] ∧ Ints w 3 r21 (a.next.getD k.toNat []) ∧ nn = (((a.next.getD k.toNat []).length : Int) - j).toNat) _ _ ⟨0, rfl, by omega, rfl, E, hB4, hr22, rfl⟩ (.cons rfl (.cons rfl (.cons rfl (.cons rfl (.cons rfl (.cons rfl (.cons rfl (.cons rfl (.nil))))))))) ?_
      rintro nn wl2 ls ⟨j, rfl, hj, hq, E, hB4, hr22, rfl⟩
      have hs24 := Below.size E
      have hl6 := letters_len6 a.al
      refine Cq.seq ?_
      refine Cq.region ?_
      refine Sq.lss .plain rfl rfl rfl ?_
      refine Sq.part (fun c25 => ?_) (fun c25 => ?_)
      · refine Sq.nil ?_
        refine Eq.next ?_
        refine Cq.seq ?_
        refine Cq.thn rfl ?_
        refine Cq.skip ?_
        refine Eq.next ?_
        refine Cq.seq ?_
        refine Cq.block ?_
        refine Cq.seq ?_
        refine Cq.region ?_
        refine Sq.idxInts sl27 one3 hr22 .plain rfl rfl rfl .plain rfl rfl (by omega) (by omega) ?_
        refine Sq.assign .plain rfl rfl ?_
        refine Sq.nil ?_
        refine Eq.next ?_
        refine Cq.seq ?_
        refine Cq.region ?_
        refine Sq.move .plain rfl rfl ?_
        refine Sq.lss .plain rfl rfl rfl ?_
        refine Sq.part (fun c26 => ?_) (fun c26 => ?_)
        · refine Sq.move .plain rfl rfl ?_
          refine Sq.off rfl rfl rfl rfl rfl rfl ?_
          refine Sq.off rfl rfl rfl rfl rfl rfl ?_
          refine Sq.off rfl rfl rfl rfl rfl rfl ?_
          refine Sq.off rfl rfl rfl rfl rfl rfl ?_
          refine Sq.off rfl rfl rfl rfl rfl rfl ?_
          refine Sq.pickT .plain rfl rfl rfl ?_
          refine Sq.nil ?_
          refine Eq.next ?_
          refine Cq.thn rfl ?_
          refine Cq.seq ?_
          refine Cq.region ?_
          refine Sq.assign .plain rfl rfl ?_
          refine Sq.nil ?_
          refine Eq.next ?_
          refine Cq.ret ?_
          refine Eq.outRet ?_
          refine Eq.pastRet ?_
          refine Eq.pastRet ?_
          refine Eq.outRet ?_
          refine Eq.outRet ?_
          refine Eq.pastRet ?_
          refine Eq.pastRet ?_
          refine Eq.outRet ?_
          refine Eq.pastRet ?_
          refine Eq.ret1 rfl rfl ?_
          exact ⟨by first | rw [validA_al (by omega)] | rw [validA_n (by omega)] | rw [validA_acc (by omega)] | rw [validA_row (k := k.toNat) (by omega) (rowOk_len (by omega))] | rw [validA_row (k := k.toNat) (by omega) (rowOk_bad (by omega) (k := j.toNat) (by omega) (inB_F (by omega)))] | rw [validA_good (k := k.toNat) (by omega) (by omega) (by omega) hp (by omega)], E⟩
        refine Sq.move .plain rfl rfl ?_
        refine Sq.move (.met rfl rfl rfl) rfl rfl ?_
        refine Sq.fieldAddr fld29_1 (.met rfl rfl rfl) rfl rfl ?_
        refine Sq.loadB one22 (.met rfl rfl rfl) rfl rfl hB4 rfl ?_
        refine Sq.lenRows (hnx.ext E) (.met rfl rfl rfl) rfl und22 rfl ?_
        refine Sq.geq (.met rfl rfl rfl) rfl rfl rfl ?_
        refine Sq.part (fun c27 => ?_) (fun c27 => ?_)
        · refine Sq.pickF .plain rfl rfl rfl ?_
          refine Sq.nil ?_
          refine Eq.next ?_
          refine Cq.thn rfl ?_
          refine Cq.seq ?_
          refine Cq.region ?_
          refine Sq.assign .plain rfl rfl ?_
          refine Sq.nil ?_
          refine Eq.next ?_
          refine Cq.ret ?_
          refine Eq.outRet ?_
          refine Eq.pastRet ?_
          refine Eq.pastRet ?_
          refine Eq.outRet ?_
          refine Eq.outRet ?_
          refine Eq.pastRet ?_
          refine Eq.pastRet ?_
          refine Eq.outRet ?_
          refine Eq.pastRet ?_
          refine Eq.ret1 rfl rfl ?_
          exact ⟨by first | rw [validA_al (by omega)] | rw [validA_n (by omega)] | rw [validA_acc (by omega)] | rw [validA_row (k := k.toNat) (by omega) (rowOk_len (by omega))] | rw [validA_row (k := k.toNat) (by omega) (rowOk_bad (by omega) (k := j.toNat) (by omega) (inB_F (by omega)))] | rw [validA_good (k := k.toNat) (by omega) (by omega) (by omega) hp (by omega)], E⟩
        refine Sq.pickF .plain rfl rfl rfl ?_
        refine Sq.nil ?_
        refine Eq.next ?_
        refine Cq.els rfl ?_
        refine Cq.skip ?_
        refine Eq.end ?_
        refine Eq.next ?_
        refine Cq.region ?_
        refine Sq.add .plain rfl rfl rfl (by omega) ?_
        refine Sq.move .plain rfl rfl ?_
        refine Sq.nil ?_
        have e2 := toNat_succ hj.1
        refine Eq.round _ _ ⟨j + 1, rfl, by omega, by rw [e2]; exact all_snoc (d := 0) hq (by omega) (inB_T (by omega)), E, hB4, hr22, rfl⟩ (by omega) (.cons rfl (.cons rfl (.cons rfl (.cons rfl (.cons rfl (.cons rfl (.cons rfl (.cons rfl (.nil)))))))))
      refine Sq.nil ?_
      refine Eq.next ?_
      refine Cq.seq ?_
      refine Cq.els rfl ?_
      refine Cq.exit ?_
      refine Eq.past ?_
      refine Eq.past ?_
      refine Eq.hit ?_
      refine Eq.end ?_
      refine Eq.next ?_
      refine Cq.region ?_
      refine Sq.add .plain rfl rfl rfl (by omega) ?_
      refine Sq.move .plain rfl rfl ?_
      refine Sq.nil ?_
      have e1 := toNat_succ hk.1
      refine Eq.round _ _ ⟨k + 1, rfl, by omega, by rw [e1]; exact all_snoc (d := []) hp (by omega) (rowOk_good (by omega) hq (by omega)), E, hB4, rfl⟩ (by omega) (.cons rfl (.cons rfl (.cons rfl (.cons rfl (.cons rfl (.nil))))))
    refine Sq.nil ?_
    refine Eq.next ?_
    refine Cq.seq ?_
    refine Cq.els rfl ?_
    refine Cq.exit ?_
    refine Eq.past ?_
    refine Eq.past ?_
    refine Eq.hit ?_
    refine Eq.next ?_
    refine Cq.seq ?_
    refine Cq.region ?_
    refine Sq.assign .plain rfl rfl ?_
    refine Sq.nil ?_
    refine Eq.next ?_
    refine Cq.ret ?_
    refine Eq.ret1 rfl rfl ?_
    exact ⟨by first | rw [validA_al (by omega)] | rw [validA_n (by omega)] | rw [validA_acc (by omega)] | rw [validA_row (k := k.toNat) (by omega) (rowOk_len (by omega))] | rw [validA_row (k := k.toNat) (by omega) (rowOk_bad (by omega) (k := j.toNat) (by omega) (inB_F (by omega)))] | rw [validA_good (k := k.toNat) (by omega) (by omega) (by omega) hp (by omega)], E⟩
  refine Sq.notF .plain rfl rfl ?_
  refine Sq.move .plain rfl rfl ?_
  refine Sq.off rfl rfl rfl rfl rfl rfl ?_
  refine Sq.off rfl rfl rfl rfl rfl rfl ?_
  refine Sq.off rfl rfl rfl rfl rfl rfl ?_
  refine Sq.off rfl rfl rfl rfl rfl rfl ?_
  refine Sq.pickT .plain rfl rfl rfl ?_
  refine Sq.move .plain rfl rfl ?_
  refine Sq.off rfl rfl rfl rfl rfl rfl ?_
  refine Sq.off rfl rfl rfl rfl rfl rfl ?_
  refine Sq.off rfl rfl rfl rfl rfl rfl ?_
  refine Sq.off rfl rfl rfl rfl rfl rfl ?_
  refine Sq.pickT .plain rfl rfl rfl ?_
  refine Sq.move .plain rfl rfl ?_
  refine Sq.off rfl rfl rfl rfl rfl rfl ?_
  refine Sq.off rfl rfl rfl rfl rfl rfl ?_
  refine Sq.off rfl rfl rfl rfl rfl rfl ?_
  refine Sq.off rfl rfl rfl rfl rfl rfl ?_
  refine Sq.off rfl rfl rfl rfl rfl rfl ?_
  refine Sq.off rfl rfl rfl rfl rfl rfl ?_
  refine Sq.off rfl rfl rfl rfl rfl rfl ?_
  refine Sq.pickT .plain rfl rfl rfl ?_
  refine Sq.nil ?_
  refine Eq.next ?_
  refine Cq.thn rfl ?_
  refine Cq.seq ?_
  refine Cq.region ?_
  refine Sq.assign .plain rfl rfl ?_
  refine Sq.nil ?_
  refine Eq.next ?_
  refine Cq.ret ?_
  refine Eq.pastRet ?_
  refine Eq.ret1 rfl rfl ?_
  exact ⟨by first | rw [validA_al (by omega)] | rw [validA_n (by omega)] | rw [validA_acc (by omega)] | rw [validA_row (k := k.toNat) (by omega) (rowOk_len (by omega))] | rw [validA_row (k := k.toNat) (by omega) (rowOk_bad (by omega) (k := j.toNat) (by omega) (inB_F (by omega)))] | rw [validA_good (k := k.toNat) (by omega) (by omega) (by omega) hp (by omega)], E⟩
end Go.Proofs.YtdkdpmmfebdeaaaDoor
set_option linter.unusedSimpArgs false
set_option linter.unusedVariables false
namespace Go.Proofs.YtdkdpmmfebdeaaaDoor
open Go.RowKit
set_option maxRecDepth 100000 in
theorem small_c (x : Int) (h : 0 ≤ x ∧ x < 100) (w0 : World) : Ret Tryd.prog 52 #[Value.int .i64 x] w0 (fun v w => v = .string (itoa x) ∧ w0 = w) := by
  refine Ret.of (args := [Value.int .i64 x]) Tryd.func52 rfl rfl rfl ?_
  rintro _ rfl
  show Cq _ _ _ _ [(0, Value.int .i64 x)] _
  refine Cq.seq ?_
  refine Cq.region ?_
  refine Sq.assign .plain rfl rfl ?_
  refine Sq.nil ?_
  refine Eq.next ?_
  refine Cq.seq ?_
  refine Cq.seq ?_
  refine Cq.region ?_
  refine Sq.move .plain rfl rfl ?_
  refine Sq.lss .plain rfl rfl rfl ?_
  refine Sq.part (fun h1 => ?_) (fun h1 => ?_)
  · refine Sq.nil ?_
    refine Eq.next ?_
    refine Cq.thn rfl ?_
    refine Cq.seq ?_
    refine Cq.region ?_
    refine Sq.move .plain rfl rfl ?_
    refine Sq.move .plain rfl rfl ?_
    refine Sq.add .plain rfl rfl rfl (by omega) ?_
    refine Sq.val .plain rfl rfl (Still.cutLH und9 rfl rfl rfl (by exact (show 0 ≤ x ∧ x ≤ (x + 1) ∧ (x + 1) ≤ ((36 : Nat) : Int) by omega))) ?_
    refine Sq.assign .plain rfl rfl ?_
    refine Sq.nil ?_
    refine Eq.next ?_
    refine Cq.ret ?_
    refine Eq.pastRet ?_
    refine Eq.ret1 rfl rfl ?_
    exact ⟨congrArg Value.string (dig_lt h.1 h1), rfl⟩
  refine Sq.nil ?_
  refine Eq.next ?_
  refine Cq.els rfl ?_
  refine Cq.skip ?_
  refine Eq.next ?_
  refine Cq.seq ?_
  refine Cq.region ?_
  refine Sq.move .plain rfl rfl ?_
  refine Sq.mul .plain rfl rfl rfl (by omega) ?_
  refine Sq.move .plain rfl rfl ?_
  refine Sq.mul .plain rfl rfl rfl (by omega) ?_
  refine Sq.add .plain rfl rfl rfl (by omega) ?_
  refine Sq.val .plain rfl rfl (Still.cutLH und9 rfl rfl rfl (by exact (show 0 ≤ (x * 2) ∧ (x * 2) ≤ (x * 2 + 2) ∧ (x * 2 + 2) ≤ ((200 : Nat) : Int) by omega))) ?_
  refine Sq.assign .plain rfl rfl ?_
  refine Sq.nil ?_
  refine Eq.next ?_
  refine Cq.ret ?_
  refine Eq.ret1 rfl rfl ?_
  exact ⟨congrArg Value.string (small_lt h1 h.2), rfl⟩
set_option maxRecDepth 100000 in
theorem fmtInt_c (x : Int) (h : 0 ≤ x ∧ x < 100) (w0 : World) : Ret Tryd.prog 50 #[Value.int .i64 x, Value.int .i64 10] w0 (fun v w => v = .string (itoa x) ∧ w0 = w) := by
  refine Ret.of (args := [Value.int .i64 x, Value.int .i64 10]) Tryd.func50 rfl rfl rfl ?_
  rintro _ rfl
  show Cq _ _ _ _ [(0, Value.int .i64 x), (1, Value.int .i64 10)] _
  refine Cq.seq ?_
  refine Cq.region ?_
  refine Sq.assign .plain rfl rfl ?_
  refine Sq.nil ?_
  refine Eq.next ?_
  refine Cq.seq ?_
  refine Cq.seq ?_
  refine Cq.region ?_
  refine Sq.move .plain rfl rfl ?_
  refine Sq.eql .plain rfl rfl rfl ?_
  refine Sq.isT (rfl) ?_
  refine Sq.nil ?_
  refine Eq.next ?_
  refine Cq.thn rfl ?_
  refine Cq.seq ?_
  refine Cq.seq ?_
  refine Cq.region ?_
  refine Sq.move .plain rfl rfl ?_
  refine Sq.leq .plain rfl rfl rfl ?_
  refine Sq.isT (by omega) ?_
  refine Sq.move .plain rfl rfl ?_
  refine Sq.move (.met rfl rfl rfl) rfl rfl ?_
  refine Sq.lss (.met rfl rfl rfl) rfl rfl rfl ?_
  refine Sq.isT (by omega) ?_
  refine Sq.pickT .plain rfl rfl rfl ?_
  refine Sq.nil ?_
  refine Eq.next ?_
  refine Cq.thn rfl ?_
  refine Cq.seq ?_
  refine Cq.region ?_
  refine Sq.move .plain rfl rfl ?_
  refine Sq.call fn52 .plain rfl rfl (small_c x (by omega) _) ?_
  rintro _ _ ⟨rfl, rfl⟩
  refine Sq.assign .plain rfl rfl ?_
  refine Sq.nil ?_
  refine Eq.next ?_
  refine Cq.ret ?_
  refine Eq.pastRet ?_
  refine Eq.pastRet ?_
  refine Eq.ret1 rfl rfl ?_
  exact ⟨rfl, rfl⟩
set_option maxRecDepth 100000 in
theorem itoaI_c (x : Int) (h : 0 ≤ x ∧ x < 100) (w0 : World) : Ret Tryd.prog 45 #[Value.int .i64 x] w0 (fun v w => v = .string (itoa x) ∧ w0 = w) := by
  refine Ret.of (args := [Value.int .i64 x]) Tryd.func45 rfl rfl rfl ?_
  rintro _ rfl
  show Cq _ _ _ _ [(0, Value.int .i64 x)] _
  refine Cq.seq ?_
  refine Cq.region ?_
  refine Sq.assign .plain rfl rfl ?_
  refine Sq.nil ?_
  refine Eq.next ?_
  refine Cq.seq ?_
  refine Cq.region ?_
  refine Sq.move .plain rfl rfl ?_
  refine Sq.call fn50 .plain rfl rfl (fmtInt_c x (by omega) _) ?_
  rintro _ _ ⟨rfl, rfl⟩
  refine Sq.assign .plain rfl rfl ?_
  refine Sq.nil ?_
  refine Eq.next ?_
  refine Cq.ret ?_
  refine Eq.ret1 rfl rfl ?_
  exact ⟨rfl, rfl⟩
set_option maxRecDepth 100000 in
theorem itoa_c (x : Int) (h : 0 ≤ x ∧ x < 100) (w0 : World) : Ret Tryd.prog 38 #[Value.int .i64 x] w0 (fun v w => v = .string (itoa x) ∧ w0 = w) := by
  refine Ret.of (args := [Value.int .i64 x]) Tryd.func38 rfl rfl rfl ?_
  rintro _ rfl
  show Cq _ _ _ _ [(0, Value.int .i64 x)] _
  refine Cq.seq ?_
  refine Cq.region ?_
  refine Sq.assign .plain rfl rfl ?_
  refine Sq.nil ?_
  refine Eq.next ?_
  refine Cq.seq ?_
  refine Cq.region ?_
  refine Sq.move .plain rfl rfl ?_
  refine Sq.call fn45 .plain rfl rfl (itoaI_c x (by omega) _) ?_
  rintro _ _ ⟨rfl, rfl⟩
  refine Sq.assign .plain rfl rfl ?_
  refine Sq.nil ?_
  refine Eq.next ?_
  refine Cq.ret ?_
  refine Eq.ret1 rfl rfl ?_
  exact ⟨rfl, rfl⟩
end Go.Proofs.YtdkdpmmfebdeaaaDoor
