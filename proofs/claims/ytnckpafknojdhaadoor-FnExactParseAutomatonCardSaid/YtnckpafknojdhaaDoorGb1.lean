/-
  The texts of this proof, joined (wip/merge.py): the calculus of slots, plain mathematics, walks.
-/
import Derived.WalkKit
import Derived.OrdersHeld
import Derived.Laws.AppendOwnNone
import Derived.Lib.SliceRun
import Derived.Laws.IdiomStrings
import Derived.Laws.DeepStrings4
import Derived.Laws.BytesArg
import Derived.MapKept
import Derived.Lib.Join
import Derived.Lib.SplitLaws
import Derived.Lib.IndexBytes
import Derived.Lib.IndexLaws
import Derived.Shelf.LaysC
import Derived.Shelf.Strconv.AtoiAll
import Derived.Shelf.Strings.Count
import Derived.Shelf.Strings.Search3
import Derived.Shelf.Strings.Split
import Derived.Test.YtnckpafknojdhaaDoorProg
import Derived.Test.YtnckpafknojdhaaDoorRows
import Derived.Eval
import Derived.RangeFuncIn
import Derived.RangeFuncRecord
import Derived.RangeFuncLeaves
import Derived.RangeFuncCalls
import Derived.OwnWalkIn
import Derived.WideLaws
import Derived.Laws.Entries
import Derived.Shelf.Strings.Builder2
import Derived.Shelf.Strings.OnBuilder
import Derived.Lib.SmallJoins
import Derived.ChangeArms
set_option linter.unusedSimpArgs false
set_option linter.unusedVariables false
namespace Go.Proofs.YtnckpafknojdhaaDoor
open Go.RowKit
abbrev Slots := List (Nat × Value)
def look : Slots → Nat → Option Value
  | [], _ => none
  | (k, v) :: r, t => cond (Nat.beq k t) (some v) (look r t)
structure St (N : Nat) (l : Slots) (a : Act) : Prop where
  size : a.tmps.size = N
  defers : a.defers = []
  slot : ∀ t v, look l t = some v → a.tmps.getD t undef = v
def ev (l : Slots) : Operand → Option Value
  | .tmp t => look l t
  | .const v => some v
  | .global g => some (.pointer (some ⟨g, 0, none⟩))
  | .func f => some (.func (.func f) #[] #[])
theorem St.ev {N : Nat} {l : Slots} {a : Act} {x : Operand} {v : Value} (h : St N l a) (hx : ev l x = some v) : a.eval x = v := by
  cases x with
  | tmp t => exact h.slot t v hx
  | const u => simpa [Act.eval, Go.Proofs.YtnckpafknojdhaaDoor.ev] using hx
  | global g => simpa [Act.eval, Go.Proofs.YtnckpafknojdhaaDoor.ev] using hx
  | func f => simpa [Act.eval, Go.Proofs.YtnckpafknojdhaaDoor.ev] using hx
theorem St.put {N : Nat} {l : Slots} {a : Act} {d : Nat} {v : Value} (h : St N l a) (hd : Nat.blt d N = true) : St N ((d, v) :: l) (a.put (some d) v) := by
  have hd' : d < N := Nat.lt_of_lt_of_le (Nat.lt_succ_self d) (Nat.le_of_ble_eq_true hd)
  refine ⟨by simp [Act.put, h.size], h.defers, fun t u hu => ?_⟩
  simp only [look] at hu
  cases hb : Nat.beq d t with
  | true =>
    obtain rfl := Nat.eq_of_beq_eq_true hb
    rw [hb] at hu
    simp at hu
    subst hu
    have : d < a.tmps.size := by rw [h.size]; exact hd'
    simp [Act.put, this]
  | false =>
    have hne : d ≠ t := Nat.ne_of_beq_eq_false hb
    rw [hb] at hu
    have := h.slot t u hu
    simp only [Act.put]
    rw [← this]
    simp [Array.getD_eq_getD_getElem?, hne]
theorem St.bool {N : Nat} {l : Slots} {a : Act} {t : Nat} {b : Bool} (h : St N l a) (hv : look l t = some (.bool b)) : a.tmps[t]? = some (.bool b) := by
  have := h.slot _ _ hv
  rw [Array.getD_eq_getD_getElem?] at this
  cases hx : a.tmps[t]? with
  | none => rw [hx] at this; simp [undef] at this
  | some v => rw [hx] at this; simpa using this
def Sub (l l' : Slots) : Prop := ∀ t v, look l' t = some v → look l t = some v
theorem Sub.nil {l : Slots} : Sub l [] := fun t v hv => by simp [Go.Proofs.YtnckpafknojdhaaDoor.look] at hv
theorem Sub.cons {l : Slots} {k : Nat} {v : Value} {r : Slots} (h : look l k = some v) (s : Sub l r) : Sub l ((k, v) :: r) := by
  intro t u hu
  simp only [Go.Proofs.YtnckpafknojdhaaDoor.look] at hu
  cases hb : Nat.beq k t with
  | true =>
    obtain rfl := Nat.eq_of_beq_eq_true hb
    rw [hb] at hu
    simp at hu
    subst hu
    exact h
  | false => rw [hb] at hu; exact s t u hu
theorem St.sub {N : Nat} {l l' : Slots} {a : Act} (h : St N l a) (s : Sub l l') : St N l' a := ⟨h.size, h.defers, fun t v hv => h.slot t v (s t v hv)⟩
def Sq (P : Program) (N : Nat) (ops : Array Oper) (Q : Exit → Act → World → Prop) (rest : List Oper) (l : Slots) (w : World) : Prop :=
  ∀ a, St N l a → wpList P ops Q rest a w
def Cq (P : Program) (N : Nat) (c : Code) (Q : Exit → Act → World → Prop) (l : Slots) (w : World) : Prop :=
  ∀ a, St N l a → c.wp P Q a w
def Eq (N : Nat) (Q : Exit → Act → World → Prop) (e : Exit) (l : Slots) (w : World) : Prop :=
  ∀ a, St N l a → Q e a w
section code
variable {P : Program} {N : Nat} {Q : Exit → Act → World → Prop} {l : Slots} {w : World}
theorem Cq.seq {x y : Code} (h : Cq P N x (Exit.then (y.wp P Q) Q) l w) : Cq P N (.seq x y) Q l w := fun a ha => wp_seq (h a ha)
theorem Cq.skip (h : Eq N Q .normal l w) : Cq P N .skip Q l w := fun a ha => wp_skip (h a ha)
theorem Cq.ret (h : Eq N Q .ret l w) : Cq P N .ret Q l w := fun a ha => wp_ret (h a ha)
theorem Cq.exit {id : Nat} (h : Eq N Q (.exit id) l w) : Cq P N (.exit id) Q l w := fun a ha => wp_exit (h a ha)
theorem Cq.block {id : Nat} {c : Code} (h : Cq P N c (Exit.inBlock id Q) l w) : Cq P N (.block id c) Q l w := fun a ha => wp_block (h a ha)
theorem Cq.thn {c : Operand} {x y : Code} (hc : ev l c = some (.bool true)) (h : Cq P N x Q l w) : Cq P N (.cond c x y) Q l w := fun a ha => wp_cond_true (ha.ev hc) (h a ha)
theorem Cq.els {c : Operand} {x y : Code} (hc : ev l c = some (.bool false)) (h : Cq P N y Q l w) : Cq P N (.cond c x y) Q l w := fun a ha => wp_cond_false (ha.ev hc) (h a ha)
theorem Cq.region {id : Nat} {ops : List Oper} (h : Sq P N ops.toArray Q ops l w) : Cq P N (.region id ops.toArray false) Q l w := fun a ha => wp_region_lit (h a ha)
theorem Cq.sub {c : Code} {l' : Slots} (s : Sub l l') (h : Cq P N c Q l' w) : Cq P N c Q l w := fun a ha => h a (ha.sub s)
theorem Eq.sub {e : Exit} {l' : Slots} (s : Sub l l') (h : Eq N Q e l' w) : Eq N Q e l w := fun a ha => h a (ha.sub s)
theorem Cq.mono {c : Code} {Q' : Exit → Act → World → Prop} (h : Cq P N c Q' l w) (hq : ∀ e a w, Q' e a w → Q e a w) : Cq P N c Q l w := fun a ha => wp_mono (h a ha) hq
theorem Eq.next {y : Code} (h : Cq P N y Q l w) : Eq N (Exit.then (y.wp P Q) Q) .normal l w := fun a ha => h a ha
theorem Eq.past {K : Act → World → Prop} {id : Nat} (h : Eq N Q (.exit id) l w) : Eq N (Exit.then K Q) (.exit id) l w := fun a ha => h a ha
theorem Eq.pastRet {K : Act → World → Prop} (h : Eq N Q .ret l w) : Eq N (Exit.then K Q) .ret l w := fun a ha => h a ha
theorem Eq.hit {id : Nat} (h : Eq N Q .normal l w) : Eq N (Exit.inBlock id Q) (.exit id) l w := fun a ha => by simpa [Exit.inBlock] using h a ha
theorem Eq.miss {id id' : Nat} (hne : Nat.beq id' id = false) (h : Eq N Q (.exit id') l w) : Eq N (Exit.inBlock id Q) (.exit id') l w := fun a ha => by
  simpa [Exit.inBlock, Nat.ne_of_beq_eq_false hne] using h a ha
theorem Eq.end {id : Nat} (h : Eq N Q .normal l w) : Eq N (Exit.inBlock id Q) .normal l w := fun a ha => h a ha
theorem Eq.outRet {id : Nat} (h : Eq N Q .ret l w) : Eq N (Exit.inBlock id Q) .ret l w := fun a ha => h a ha
def Round (N : Nat) (I : Nat → World → Slots → Prop) (n : Nat) (a : Act) (w : World) : Prop := ∃ m l, I m w l ∧ St N l a ∧ m < n
theorem Cq.loop {c : Code} (I : Nat → World → Slots → Prop) (n0 : Nat) (l0 : Slots) (h0 : I n0 w l0) (s0 : Sub l l0)
    (h : ∀ n w l, I n w l → Cq P N c (Exit.then (Round N I n) Q) l w) : Cq P N (.loop c) Q l w := by
  intro a ha
  let J : Act → World → Nat → Prop := fun a w n => ∃ l, I n w l ∧ St N l a
  classical
  have least : ∀ (p : Nat → Prop), (∃ n, p n) → ∃ n, p n ∧ ∀ k, p k → n ≤ k := by
    intro p ⟨n, hn⟩
    induction n using Nat.strongRecOn with
    | _ n ih =>
      by_cases hx : ∃ k, k < n ∧ p k
      · obtain ⟨k, hk, hpk⟩ := hx
        exact ih k hk hpk
      · exact ⟨n, hn, fun k hk => Nat.le_of_not_lt fun hlt => hx ⟨k, hlt, hk⟩⟩
  let μ : Act → World → Nat := fun a w => if h : ∃ n, J a w n then Classical.choose (least _ h) else 0
  have hμ : ∀ a w, (∃ n, J a w n) → J a w (μ a w) ∧ ∀ n, J a w n → μ a w ≤ n := by
    intro a w hx
    have hs := Classical.choose_spec (least _ hx)
    have e : μ a w = Classical.choose (least _ hx) := dif_pos hx
    rw [e]
    exact hs
  refine wp_loop (fun a w => ∃ n, J a w n) μ ⟨n0, l0, h0, ha.sub s0⟩ fun a w hx => ?_
  obtain ⟨l, hI, hl⟩ := (hμ a w hx).1
  refine wp_mono (h _ w l hI a hl) fun e a' w' hq => ?_
  cases e <;> try exact hq
  obtain ⟨m, l', hj, hl', hlt⟩ := hq
  refine ⟨⟨m, l', hj, hl'⟩, ?_⟩
  have := (hμ a' w' ⟨m, l', hj, hl'⟩).2 _ ⟨l', hj, hl'⟩
  omega
theorem Eq.round {I : Nat → World → Slots → Prop} {n : Nat} (m : Nat) (l' : Slots) (hI : I m w l') (hm : m < n) (s : Sub l l') :
    Eq N (Exit.then (Round N I n) Q) .normal l w := fun _ ha => ⟨m, l', hI, ha.sub s, hm⟩
def Left (N : Nat) (R : Slots → World → Prop) : Exit → Act → World → Prop
  | .normal, a, w => ∃ l, R l w ∧ St N l a
  | _, _, _ => False
theorem Eq.left {R : Slots → World → Prop} (l' : Slots) (h : R l' w) (s : Sub l l') : Eq N (Left N R) .normal l w := fun _ ha => ⟨l', h, ha.sub s⟩
end code
section ops
variable {P : Program} {N : Nat} {ops : Array Oper} {Q : Exit → Act → World → Prop} {rest : List Oper} {l : Slots} {w : World}
theorem Sq.nil (h : Eq N Q .normal l w) : Sq P N ops Q [] l w := fun a ha => wpList_nil (h a ha)
def On (ops : Array Oper) (l : Slots) : Option (Nat × Bool) → Prop
  | none => True
  | some (j, b) => ∃ o d, ops[j]? = some o ∧ o.dst = some d ∧ look l d = some (.bool b)
theorem On.plain : On ops l none := trivial
theorem On.met {j : Nat} {b : Bool} {o : Oper} {d : Nat} (ho : ops[j]? = some o) (hd : o.dst = some d) (hv : look l d = some (.bool b)) : On ops l (some (j, b)) := ⟨o, d, ho, hd, hv⟩
theorem On.wanted {a : Act} {o : Oper} (h : On ops l o.guard) (ha : St N l a) : Region.wanted o (yielded ops a.tmps) = true := by
  revert h
  cases hg : o.guard with
  | none => intro _; simp [Region.wanted, hg]
  | some g =>
    obtain ⟨j, b⟩ := g
    rintro ⟨o', d, ho, hd, hv⟩
    simp [Region.wanted, hg, yielded, ho, hd, ha.bool hv]
theorem Sq.off {o : Oper} {j d d' : Nat} {b : Bool} {o' : Oper} (hg : o.guard = some (j, b)) (ho : ops[j]? = some o') (hd : o'.dst = some d) (hv : look l d = some (.bool (!b)))
    (hd' : o.dst = some d') (hN : Nat.blt d' N = true) (h : Sq P N ops Q rest ((d', undef) :: l) w) : Sq P N ops Q (o :: rest) l w := by
  intro a ha
  refine wpList_skip (by simp [Region.wanted, hg, yielded, ho, hd, ha.bool hv]) ?_
  rw [hd']
  exact h _ (ha.put hN)
theorem St.undefd {N : Nat} {l : Slots} {a : Act} {t : Nat} (h : St N l a) (hv : look l t = some undef) (b : Bool) : a.tmps[t]? ≠ some (.bool b) := by
  have := h.slot _ _ hv
  intro hc
  rw [Array.getD_eq_getD_getElem?, hc] at this
  simp [undef] at this
theorem not_wanted {a : Act} {o o' : Oper} {j d : Nat} {b : Bool} (ha : St N l a) (hg : o.guard = some (j, b)) (ho : ops[j]? = some o') (hd : o'.dst = some d) (hv : look l d = some undef) : Region.wanted o (yielded ops a.tmps) = false := by
  simp only [Region.wanted, hg, yielded, ho, hd, Option.bind_some]
  have h1 := ha.undefd hv
  cases hx : a.tmps[d]? with
  | none => simp
  | some v =>
    cases v <;> simp
    rename_i c
    exact absurd hx (h1 c)
theorem Sq.offU {o : Oper} {j d d' : Nat} {b : Bool} {o' : Oper} (hg : o.guard = some (j, b)) (ho : ops[j]? = some o') (hd : o'.dst = some d) (hv : look l d = some undef)
    (hd' : o.dst = some d') (hN : Nat.blt d' N = true) (h : Sq P N ops Q rest ((d', undef) :: l) w) : Sq P N ops Q (o :: rest) l w := by
  intro a ha
  refine wpList_skip (by simp [not_wanted ha hg ho hd hv]) ?_
  rw [hd']
  exact h _ (ha.put hN)
theorem Sq.val {o : Oper} {d : Nat} {v : Value} {w' : World} (hg : On ops l o.guard) (hd : o.dst = some d) (hN : Nat.blt d N = true)
    (hrun : ∀ a, St N l a → (execOp a.eval o).run P w = .ok (.value v) w') (h : Sq P N ops Q rest ((d, v) :: l) w') : Sq P N ops Q (o :: rest) l w := by
  intro a ha
  refine wpList_step fun K hK => ?_
  rw [if_pos (hg.wanted ha)]
  unfold Oper.wp
  rw [hrun a ha, Oper.upon_value, hd]
  exact hK _ _ (h _ (ha.put hN))
def Still (P : Program) (N : Nat) (l : Slots) (o : Oper) (v : Value) (w : World) : Prop := ∀ a, St N l a → (execOp a.eval o).run P w = .ok (.value v) w
theorem Sq.unit {o : Oper} {w' : World} (hg : On ops l o.guard) (hd : o.dst = none)
    (hrun : ∀ a, St N l a → (execOp a.eval o).run P w = .ok .skip w') (h : Sq P N ops Q rest l w') : Sq P N ops Q (o :: rest) l w := by
  intro a ha
  refine wpList_step fun K hK => ?_
  rw [if_pos (hg.wanted ha)]
  unfold Oper.wp
  rw [hrun a ha, Oper.upon_skip, hd]
  exact hK _ _ (h _ ha)
section
variable {d : Nat} {ty : TypeId} {pos : String} {after : Array Edge} {g : Option (Nat × Bool)}
theorem Still.move {x : Operand} {v : Value} (hx : ev l x = some v) : Still P N l ⟨some d, .move x, ty, pos, after, g⟩ (v) w := fun a ha => by simp [execOp, ha.ev hx]
theorem Sq.move {x : Operand} {v : Value} (hg : On ops l g) (hN : Nat.blt d N = true) (hx : ev l x = some v) (h : Sq P N ops Q rest ((d, v) :: l) w) : Sq P N ops Q (⟨some d, .move x, ty, pos, after, g⟩ :: rest) l w := .val hg rfl hN (Still.move hx) h
theorem Still.assign {x : Operand} {v : Value} (hx : ev l x = some v) : Still P N l ⟨some d, .assign x, ty, pos, after, g⟩ (v) w := fun a ha => by simp [execOp, ha.ev hx]
theorem Sq.assign {x : Operand} {v : Value} (hg : On ops l g) (hN : Nat.blt d N = true) (hx : ev l x = some v) (h : Sq P N ops Q rest ((d, v) :: l) w) : Sq P N ops Q (⟨some d, .assign x, ty, pos, after, g⟩ :: rest) l w := .val hg rfl hN (Still.assign hx) h
theorem Still.pickT {c x y : Operand} {v : Value} (hc : ev l c = some (.bool true)) (hx : ev l x = some v) : Still P N l ⟨some d, .pick c x y, ty, pos, after, g⟩ (v) w := fun a ha => by simp [execOp, asBool, ha.ev hc, ha.ev hx]
theorem Sq.pickT {c x y : Operand} {v : Value} (hg : On ops l g) (hN : Nat.blt d N = true) (hc : ev l c = some (.bool true)) (hx : ev l x = some v) (h : Sq P N ops Q rest ((d, v) :: l) w) : Sq P N ops Q (⟨some d, .pick c x y, ty, pos, after, g⟩ :: rest) l w := .val hg rfl hN (Still.pickT hc hx) h
theorem Still.pickF {c x y : Operand} {v : Value} (hc : ev l c = some (.bool false)) (hx : ev l y = some v) : Still P N l ⟨some d, .pick c x y, ty, pos, after, g⟩ (v) w := fun a ha => by simp [execOp, asBool, ha.ev hc, ha.ev hx]
theorem Sq.pickF {c x y : Operand} {v : Value} (hg : On ops l g) (hN : Nat.blt d N = true) (hc : ev l c = some (.bool false)) (hx : ev l y = some v) (h : Sq P N ops Q rest ((d, v) :: l) w) : Sq P N ops Q (⟨some d, .pick c x y, ty, pos, after, g⟩ :: rest) l w := .val hg rfl hN (Still.pickF hc hx) h
theorem Still.pick {c x y : Operand} {b : Bool} {u v : Value} (hc : ev l c = some (.bool b)) (hx : ev l x = some u) (hy : ev l y = some v) : Still P N l ⟨some d, .pick c x y, ty, pos, after, g⟩ (if b then u else v) w := fun a ha => by simp [execOp, asBool, ha.ev hc, ha.ev hx, ha.ev hy]
theorem Sq.pick {c x y : Operand} {b : Bool} {u v : Value} (hg : On ops l g) (hN : Nat.blt d N = true) (hc : ev l c = some (.bool b)) (hx : ev l x = some u) (hy : ev l y = some v) (h : Sq P N ops Q rest ((d, if b then u else v) :: l) w) : Sq P N ops Q (⟨some d, .pick c x y, ty, pos, after, g⟩ :: rest) l w := .val hg rfl hN (Still.pick hc hx hy) h
theorem Still.add {xt yt : TypeId} {x y : Operand} {m n : Int} (hx : ev l x = some (.int .i64 m)) (hy : ev l y = some (.int .i64 n)) (hb : -9223372036854775808 ≤ m + n ∧ m + n ≤ 9223372036854775807) : Still P N l ⟨some d, .binOp .add xt x y yt, ty, pos, after, g⟩ (.int .i64 (m + n)) w := fun a ha => by simp [execOp, eqGuard, binOp, Op.intArith, ha.ev hx, ha.ev hy, IntWalk.i64_in _ hb]
theorem Sq.add {xt yt : TypeId} {x y : Operand} {m n : Int} (hg : On ops l g) (hN : Nat.blt d N = true) (hx : ev l x = some (.int .i64 m)) (hy : ev l y = some (.int .i64 n)) (hb : -9223372036854775808 ≤ m + n ∧ m + n ≤ 9223372036854775807) (h : Sq P N ops Q rest ((d, .int .i64 (m + n)) :: l) w) : Sq P N ops Q (⟨some d, .binOp .add xt x y yt, ty, pos, after, g⟩ :: rest) l w := .val hg rfl hN (Still.add hx hy hb) h
theorem Still.sub {xt yt : TypeId} {x y : Operand} {m n : Int} (hx : ev l x = some (.int .i64 m)) (hy : ev l y = some (.int .i64 n)) (hb : -9223372036854775808 ≤ m - n ∧ m - n ≤ 9223372036854775807) : Still P N l ⟨some d, .binOp .sub xt x y yt, ty, pos, after, g⟩ (.int .i64 (m - n)) w := fun a ha => by simp [execOp, eqGuard, binOp, Op.intArith, ha.ev hx, ha.ev hy, IntWalk.i64_in _ hb]
theorem Sq.sub {xt yt : TypeId} {x y : Operand} {m n : Int} (hg : On ops l g) (hN : Nat.blt d N = true) (hx : ev l x = some (.int .i64 m)) (hy : ev l y = some (.int .i64 n)) (hb : -9223372036854775808 ≤ m - n ∧ m - n ≤ 9223372036854775807) (h : Sq P N ops Q rest ((d, .int .i64 (m - n)) :: l) w) : Sq P N ops Q (⟨some d, .binOp .sub xt x y yt, ty, pos, after, g⟩ :: rest) l w := .val hg rfl hN (Still.sub hx hy hb) h
theorem Still.mul {xt yt : TypeId} {x y : Operand} {m n : Int} (hx : ev l x = some (.int .i64 m)) (hy : ev l y = some (.int .i64 n)) (hb : -9223372036854775808 ≤ m * n ∧ m * n ≤ 9223372036854775807) : Still P N l ⟨some d, .binOp .mul xt x y yt, ty, pos, after, g⟩ (.int .i64 (m * n)) w := fun a ha => by simp [execOp, eqGuard, binOp, Op.intArith, ha.ev hx, ha.ev hy, IntWalk.i64_in _ hb]
theorem Sq.mul {xt yt : TypeId} {x y : Operand} {m n : Int} (hg : On ops l g) (hN : Nat.blt d N = true) (hx : ev l x = some (.int .i64 m)) (hy : ev l y = some (.int .i64 n)) (hb : -9223372036854775808 ≤ m * n ∧ m * n ≤ 9223372036854775807) (h : Sq P N ops Q rest ((d, .int .i64 (m * n)) :: l) w) : Sq P N ops Q (⟨some d, .binOp .mul xt x y yt, ty, pos, after, g⟩ :: rest) l w := .val hg rfl hN (Still.mul hx hy hb) h
theorem Still.quo {xt yt : TypeId} {x y : Operand} {m n : Int} (hx : ev l x = some (.int .i64 m)) (hy : ev l y = some (.int .i64 n)) (hb : 0 ≤ m ∧ m ≤ 9223372036854775807 ∧ 1 ≤ n) : Still P N l ⟨some d, .binOp .quo xt x y yt, ty, pos, after, g⟩ (.int .i64 (m / n)) w := fun a ha => by
    have hn : ¬ n = 0 := by omega
    simp [execOp, eqGuard, binOp, Op.intDiv, ha.ev hx, ha.ev hy, IntWalk.i64_quo _ _ hb, hn]
theorem Sq.quo {xt yt : TypeId} {x y : Operand} {m n : Int} (hg : On ops l g) (hN : Nat.blt d N = true) (hx : ev l x = some (.int .i64 m)) (hy : ev l y = some (.int .i64 n)) (hb : 0 ≤ m ∧ m ≤ 9223372036854775807 ∧ 1 ≤ n) (h : Sq P N ops Q rest ((d, .int .i64 (m / n)) :: l) w) : Sq P N ops Q (⟨some d, .binOp .quo xt x y yt, ty, pos, after, g⟩ :: rest) l w := .val hg rfl hN (Still.quo hx hy hb) h
theorem Still.rem {xt yt : TypeId} {x y : Operand} {m n : Int} (hx : ev l x = some (.int .i64 m)) (hy : ev l y = some (.int .i64 n)) (hb : 0 ≤ m ∧ 1 ≤ n) : Still P N l ⟨some d, .binOp .rem xt x y yt, ty, pos, after, g⟩ (.int .i64 (m % n)) w := fun a ha => by
    have hn : ¬ n = 0 := by omega
    simp [execOp, eqGuard, binOp, Op.intDiv, ha.ev hx, ha.ev hy, hn, Int.tmod_eq_emod_of_nonneg hb.1]
theorem Sq.rem {xt yt : TypeId} {x y : Operand} {m n : Int} (hg : On ops l g) (hN : Nat.blt d N = true) (hx : ev l x = some (.int .i64 m)) (hy : ev l y = some (.int .i64 n)) (hb : 0 ≤ m ∧ 1 ≤ n) (h : Sq P N ops Q rest ((d, .int .i64 (m % n)) :: l) w) : Sq P N ops Q (⟨some d, .binOp .rem xt x y yt, ty, pos, after, g⟩ :: rest) l w := .val hg rfl hN (Still.rem hx hy hb) h
theorem Still.neg {xt : TypeId} {x : Operand} {m : Int} (hx : ev l x = some (.int .i64 m)) (hb : -9223372036854775808 ≤ 0 - m ∧ 0 - m ≤ 9223372036854775807) : Still P N l ⟨some d, .unOp .neg xt x, ty, pos, after, g⟩ (.int .i64 (0 - m)) w := fun a ha => by
    have := IntWalk.i64_in _ hb
    simp only [Int.zero_sub] at *
    simp [execOp, Op.unary, Op.intArith, ha.ev hx, this]
theorem Sq.neg {xt : TypeId} {x : Operand} {m : Int} (hg : On ops l g) (hN : Nat.blt d N = true) (hx : ev l x = some (.int .i64 m)) (hb : -9223372036854775808 ≤ 0 - m ∧ 0 - m ≤ 9223372036854775807) (h : Sq P N ops Q rest ((d, .int .i64 (0 - m)) :: l) w) : Sq P N ops Q (⟨some d, .unOp .neg xt x, ty, pos, after, g⟩ :: rest) l w := .val hg rfl hN (Still.neg hx hb) h
theorem Still.cmp {op : BinOp} {xt yt : TypeId} {x y : Operand} {k : IntKind} {m n : Int} {b : Bool} (hop : (Op.intCmp op m n) = pure (.bool b)) (hnot : (op matches .shl | .shr | .add | .sub | .mul | .quo | .rem | .and | .or | .xor | .andNot) = false) (hx : ev l x = some (.int k m)) (hy : ev l y = some (.int k n)) : Still P N l ⟨some d, .binOp op xt x y yt, ty, pos, after, g⟩ (.bool b) w := fun a ha => by
    have e : binOp op xt (.int k m) (.int k n) = Op.intCmp op m n := by cases op <;> simp_all [binOp]
    have e2 : eqGuard op xt x y (.int k m) (.int k n) = pure () := by unfold eqGuard; split <;> rfl
    simp [execOp, ha.ev hx, ha.ev hy, e, e2, hop]
theorem Sq.cmp {op : BinOp} {xt yt : TypeId} {x y : Operand} {k : IntKind} {m n : Int} {b : Bool} (hop : (Op.intCmp op m n) = pure (.bool b)) (hnot : (op matches .shl | .shr | .add | .sub | .mul | .quo | .rem | .and | .or | .xor | .andNot) = false) (hg : On ops l g) (hN : Nat.blt d N = true) (hx : ev l x = some (.int k m)) (hy : ev l y = some (.int k n)) (h : Sq P N ops Q rest ((d, .bool b) :: l) w) : Sq P N ops Q (⟨some d, .binOp op xt x y yt, ty, pos, after, g⟩ :: rest) l w := .val hg rfl hN (Still.cmp hop hnot hx hy) h
theorem Still.lss {xt yt : TypeId} {x y : Operand} {k : IntKind} {m n : Int} (hx : ev l x = some (.int k m)) (hy : ev l y = some (.int k n)) : Still P N l ⟨some d, .binOp .lss xt x y yt, ty, pos, after, g⟩ (.bool (decide (m < n))) w := Still.cmp rfl rfl hx hy
theorem Sq.lss {xt yt : TypeId} {x y : Operand} {k : IntKind} {m n : Int} (hg : On ops l g) (hN : Nat.blt d N = true) (hx : ev l x = some (.int k m)) (hy : ev l y = some (.int k n)) (h : Sq P N ops Q rest ((d, .bool (decide (m < n))) :: l) w) : Sq P N ops Q (⟨some d, .binOp .lss xt x y yt, ty, pos, after, g⟩ :: rest) l w := .val hg rfl hN (Still.lss hx hy) h
theorem Still.leq {xt yt : TypeId} {x y : Operand} {k : IntKind} {m n : Int} (hx : ev l x = some (.int k m)) (hy : ev l y = some (.int k n)) : Still P N l ⟨some d, .binOp .leq xt x y yt, ty, pos, after, g⟩ (.bool (decide (m ≤ n))) w := Still.cmp rfl rfl hx hy
theorem Sq.leq {xt yt : TypeId} {x y : Operand} {k : IntKind} {m n : Int} (hg : On ops l g) (hN : Nat.blt d N = true) (hx : ev l x = some (.int k m)) (hy : ev l y = some (.int k n)) (h : Sq P N ops Q rest ((d, .bool (decide (m ≤ n))) :: l) w) : Sq P N ops Q (⟨some d, .binOp .leq xt x y yt, ty, pos, after, g⟩ :: rest) l w := .val hg rfl hN (Still.leq hx hy) h
theorem Still.gtr {xt yt : TypeId} {x y : Operand} {k : IntKind} {m n : Int} (hx : ev l x = some (.int k m)) (hy : ev l y = some (.int k n)) : Still P N l ⟨some d, .binOp .gtr xt x y yt, ty, pos, after, g⟩ (.bool (decide (n < m))) w := Still.cmp rfl rfl hx hy
theorem Sq.gtr {xt yt : TypeId} {x y : Operand} {k : IntKind} {m n : Int} (hg : On ops l g) (hN : Nat.blt d N = true) (hx : ev l x = some (.int k m)) (hy : ev l y = some (.int k n)) (h : Sq P N ops Q rest ((d, .bool (decide (n < m))) :: l) w) : Sq P N ops Q (⟨some d, .binOp .gtr xt x y yt, ty, pos, after, g⟩ :: rest) l w := .val hg rfl hN (Still.gtr hx hy) h
theorem Still.geq {xt yt : TypeId} {x y : Operand} {k : IntKind} {m n : Int} (hx : ev l x = some (.int k m)) (hy : ev l y = some (.int k n)) : Still P N l ⟨some d, .binOp .geq xt x y yt, ty, pos, after, g⟩ (.bool (decide (n ≤ m))) w := Still.cmp rfl rfl hx hy
theorem Sq.geq {xt yt : TypeId} {x y : Operand} {k : IntKind} {m n : Int} (hg : On ops l g) (hN : Nat.blt d N = true) (hx : ev l x = some (.int k m)) (hy : ev l y = some (.int k n)) (h : Sq P N ops Q rest ((d, .bool (decide (n ≤ m))) :: l) w) : Sq P N ops Q (⟨some d, .binOp .geq xt x y yt, ty, pos, after, g⟩ :: rest) l w := .val hg rfl hN (Still.geq hx hy) h
theorem Still.eql {xt yt : TypeId} {x y : Operand} {k : IntKind} {m n : Int} (hx : ev l x = some (.int k m)) (hy : ev l y = some (.int k n)) : Still P N l ⟨some d, .binOp .eql xt x y yt, ty, pos, after, g⟩ (.bool (decide (m = n))) w := Still.cmp (by show pure (Value.bool (m == n)) = _; rw [show (m == n) = decide (m = n) from rfl]) rfl hx hy
theorem Sq.eql {xt yt : TypeId} {x y : Operand} {k : IntKind} {m n : Int} (hg : On ops l g) (hN : Nat.blt d N = true) (hx : ev l x = some (.int k m)) (hy : ev l y = some (.int k n)) (h : Sq P N ops Q rest ((d, .bool (decide (m = n))) :: l) w) : Sq P N ops Q (⟨some d, .binOp .eql xt x y yt, ty, pos, after, g⟩ :: rest) l w := .val hg rfl hN (Still.eql hx hy) h
theorem Still.neq {xt yt : TypeId} {x y : Operand} {k : IntKind} {m n : Int} (hx : ev l x = some (.int k m)) (hy : ev l y = some (.int k n)) : Still P N l ⟨some d, .binOp .neq xt x y yt, ty, pos, after, g⟩ (.bool (decide (m ≠ n))) w := Still.cmp (by show pure (Value.bool (m != n)) = _; rw [show (m != n) = decide (m ≠ n) from by by_cases h : m = n <;> simp [h]]) rfl hx hy
theorem Sq.neq {xt yt : TypeId} {x y : Operand} {k : IntKind} {m n : Int} (hg : On ops l g) (hN : Nat.blt d N = true) (hx : ev l x = some (.int k m)) (hy : ev l y = some (.int k n)) (h : Sq P N ops Q rest ((d, .bool (decide (m ≠ n))) :: l) w) : Sq P N ops Q (⟨some d, .binOp .neq xt x y yt, ty, pos, after, g⟩ :: rest) l w := .val hg rfl hN (Still.neq hx hy) h
theorem Sq.isT {p : Prop} [Decidable p] (hp : p) (h : Sq P N ops Q rest ((d, .bool true) :: l) w) : Sq P N ops Q rest ((d, .bool (decide p)) :: l) w := by rw [decide_eq_true hp]; exact h
theorem Sq.isF {p : Prop} [Decidable p] (hp : ¬ p) (h : Sq P N ops Q rest ((d, .bool false) :: l) w) : Sq P N ops Q rest ((d, .bool (decide p)) :: l) w := by rw [decide_eq_false hp]; exact h
theorem Sq.part {p : Prop} [Decidable p] (ht : p → Sq P N ops Q rest ((d, .bool true) :: l) w) (hf : ¬ p → Sq P N ops Q rest ((d, .bool false) :: l) w) : Sq P N ops Q rest ((d, .bool (decide p)) :: l) w := by
  by_cases hp : p
  · rw [decide_eq_true hp]; exact ht hp
  · rw [decide_eq_false hp]; exact hf hp
theorem Sq.partB {b : Bool} (ht : b = true → Sq P N ops Q rest ((d, .bool true) :: l) w) (hf : b = false → Sq P N ops Q rest ((d, .bool false) :: l) w) : Sq P N ops Q rest ((d, .bool b) :: l) w := by
  cases b
  · exact hf rfl
  · exact ht rfl
theorem Sq.beT {b : Bool} (e : b = true) (h : Sq P N ops Q rest ((d, .bool true) :: l) w) : Sq P N ops Q rest ((d, .bool b) :: l) w := by rw [e]; exact h
theorem Sq.beF {b : Bool} (e : b = false) (h : Sq P N ops Q rest ((d, .bool false) :: l) w) : Sq P N ops Q rest ((d, .bool b) :: l) w := by rw [e]; exact h
theorem Still.not {xt : TypeId} {x : Operand} {b : Bool} (hx : ev l x = some (.bool b)) : Still P N l ⟨some d, .unOp .not xt x, ty, pos, after, g⟩ (.bool (!b)) w := fun a ha => by simp [execOp, Op.unary, ha.ev hx]
theorem Sq.not {xt : TypeId} {x : Operand} {b : Bool} (hg : On ops l g) (hN : Nat.blt d N = true) (hx : ev l x = some (.bool b)) (h : Sq P N ops Q rest ((d, .bool (!b)) :: l) w) : Sq P N ops Q (⟨some d, .unOp .not xt x, ty, pos, after, g⟩ :: rest) l w := .val hg rfl hN (Still.not hx) h
theorem Still.notT {xt : TypeId} {x : Operand} (hx : ev l x = some (.bool true)) : Still P N l ⟨some d, .unOp .not xt x, ty, pos, after, g⟩ (.bool false) w := Still.not hx
theorem Sq.notT {xt : TypeId} {x : Operand} (hg : On ops l g) (hN : Nat.blt d N = true) (hx : ev l x = some (.bool true)) (h : Sq P N ops Q rest ((d, .bool false) :: l) w) : Sq P N ops Q (⟨some d, .unOp .not xt x, ty, pos, after, g⟩ :: rest) l w := .val hg rfl hN (Still.notT hx) h
theorem Still.notF {xt : TypeId} {x : Operand} (hx : ev l x = some (.bool false)) : Still P N l ⟨some d, .unOp .not xt x, ty, pos, after, g⟩ (.bool true) w := Still.not hx
theorem Sq.notF {xt : TypeId} {x : Operand} (hg : On ops l g) (hN : Nat.blt d N = true) (hx : ev l x = some (.bool false)) (h : Sq P N ops Q rest ((d, .bool true) :: l) w) : Sq P N ops Q (⟨some d, .unOp .not xt x, ty, pos, after, g⟩ :: rest) l w := .val hg rfl hN (Still.notF hx) h
def Ret (P : Program) (f : FuncId) (args : Array Value) (w : World) (R : Value → World → Prop) : Prop :=
  Calls P f args w fun e w' => ∃ v, e = .returned v ∧ R v w'
theorem Ret.mono {f : FuncId} {args : Array Value} {R R' : Value → World → Prop} (h : Ret P f args w R) (hr : ∀ v w', R v w' → R' v w') : Ret P f args w R' :=
  Calls.mono h fun _ _ ⟨v, he, hv⟩ => ⟨v, he, hr _ _ hv⟩
structure Fn (P : Program) (f : FuncId) (fn : Func) : Prop where
  get : P.funcs[f]? = some fn
  body : fn.body.isNone = false
  name : (fn.name == "runtime.NumGoroutine") = false
theorem run_callFunc {f : FuncId} {fn : Func} (hf : Fn P f fn) (args : Array Value) : (callFunc f args).run P w = .ok (.enter f args) w := by
  have h1 := hf.name
  have h2 := hf.body
  have h3 : fn.body ≠ none := by intro h; rw [h] at h2; cases h2
  have h4 : ¬ fn.name = "runtime.NumGoroutine" := by simpa using h1
  simp [callFunc, hf.get, h3, h4]
def evs (l : Slots) : List Operand → Option (List Value)
  | [] => some []
  | x :: r => match ev l x, evs l r with
    | some v, some vs => some (v :: vs)
    | _, _ => none
theorem St.evs {a : Act} (ha : St N l a) : ∀ {xs : List Operand} {vs : List Value}, evs l xs = some vs → xs.map a.eval = vs := by
  intro xs
  induction xs with
  | nil => intro vs h; simp [Go.Proofs.YtnckpafknojdhaaDoor.evs] at h; simp [h]
  | cons x r ih =>
    intro vs h
    simp only [Go.Proofs.YtnckpafknojdhaaDoor.evs] at h
    cases h1 : Go.Proofs.YtnckpafknojdhaaDoor.ev l x with
    | none => rw [h1] at h; simp at h
    | some v =>
      cases h2 : Go.Proofs.YtnckpafknojdhaaDoor.evs l r with
      | none => rw [h1, h2] at h; simp at h
      | some vs' =>
        rw [h1, h2] at h
        simp at h
        subst h
        simp [ha.ev h1, ih h2]
theorem Sq.call {f : FuncId} {fn : Func} {xs : List Operand} {ats : Array TypeId} {vs : List Value} {R : Value → World → Prop} (hf : Fn P f fn) (hg : On ops l g) (hN : Nat.blt d N = true)
    (hx : evs l xs = some vs) (hc : Ret P f vs.toArray w R) (h : ∀ v w', R v w' → Sq P N ops Q rest ((d, v) :: l) w') :
    Sq P N ops Q (⟨some d, .call ⟨.value (.func f), xs.toArray, ats⟩, ty, pos, after, g⟩ :: rest) l w := by
  intro a ha
  refine wpList_step fun K hK => ?_
  rw [if_pos (hg.wanted ha)]
  unfold Oper.wp
  rw [execOp_call_go, run_callFunc hf, Oper.upon_enter]
  have hargs : (#[] ++ xs.toArray.map a.eval ++ #[]) = vs.toArray := by
    rw [List.map_toArray, ha.evs hx]; simp
  rw [hargs]
  refine Calls.mono hc fun e w' he => ?_
  obtain ⟨v, rfl, hv⟩ := he
  exact hK _ _ (h v w' hv _ (ha.put hN))
theorem Still.extract {x : Operand} {i : Nat} {vs : Array Value} {v : Value} (hx : ev l x = some (.tuple vs)) (hv : vs[i]? = some v) : Still P N l ⟨some d, .extract x i, ty, pos, after, g⟩ (v) w := fun a ha => by simp [execOp, Instr.extract, ha.ev hx, hv]
theorem Sq.extract {x : Operand} {i : Nat} {vs : Array Value} {v : Value} (hg : On ops l g) (hN : Nat.blt d N = true) (hx : ev l x = some (.tuple vs)) (hv : vs[i]? = some v) (h : Sq P N ops Q rest ((d, v) :: l) w) : Sq P N ops Q (⟨some d, .extract x i, ty, pos, after, g⟩ :: rest) l w := .val hg rfl hN (Still.extract hx hv) h
end
end ops
theorem Ret.of {P : Program} {f : FuncId} {fn : Func} {c : Code} {N : Nat} {args : List Value} {w : World} {R : Value → World → Prop} (hf : P.funcs[f]? = some fn) (hb : fn.body = some c) (hN : fn.ntmps = N) (hle : Nat.ble args.length N = true)
    (h : ∀ l, l = args.zipIdx.map (fun p => (p.2, p.1)) → Cq P N c (bodyPost P fn fun e w' => ∃ v, e = .returned v ∧ R v w') l w) : Ret P f args.toArray w R := by
  refine calls_of_wp hf hb (h _ rfl _ ⟨?_, rfl, ?_⟩)
  · have := Nat.le_of_ble_eq_true hle
    simp [hN]
    omega
  · intro t v hv
    have key : ∀ (xs : List Value) (k : Nat), look ((xs.zipIdx k).map (fun p => (p.2, p.1))) t = some v → k ≤ t ∧ xs[t - k]? = some v := by
      intro xs
      induction xs with
      | nil => intro k h; simp [look] at h
      | cons x r ih =>
        intro k h
        simp only [List.zipIdx_cons, List.map_cons, look] at h
        cases hb : Nat.beq k t with
        | true =>
          obtain rfl := Nat.eq_of_beq_eq_true hb
          rw [hb] at h
          simp at h
          simp [h]
        | false =>
          rw [hb] at h
          obtain ⟨h1, h2⟩ := ih (k + 1) h
          have : t - k = (t - (k + 1)) + 1 := by omega
          exact ⟨by omega, by rw [this]; simpa using h2⟩
    obtain ⟨_, h2⟩ := key args 0 hv
    have h3 : args[t]? = some v := by simpa using h2
    have h4 : t < args.length := by
      rcases Nat.lt_or_ge t args.length with h | h
      · exact h
      · simp [List.getElem?_eq_none h] at h3
    have h5 : args[t] = v := by rw [List.getElem?_eq_getElem h4] at h3; exact Option.some.inj h3
    simp [Array.getD_eq_getD_getElem?, Array.getElem?_append, h4, h5]
theorem Eq.ret1 {P : Program} {fn : Func} {N t : Nat} {l : Slots} {w : World} {v : Value} {R : Value → World → Prop} (hr : fn.results = #[.tmp t]) (hv : look l t = some v) (h : R v w) :
    Eq N (bodyPost P fn fun e w' => ∃ v, e = .returned v ∧ R v w') .ret l w := fun _ ha =>
  bodyPost_ret (results_tmp hr _ _ _) ha.defers ⟨v, by rw [ha.slot _ _ hv], h⟩
theorem Eq.ret2 {P : Program} {fn : Func} {N t u : Nat} {l : Slots} {w : World} {v v' : Value} {R : Value → World → Prop} (hr : fn.results = #[.tmp t, .tmp u]) (hv : look l t = some v) (hv' : look l u = some v') (h : R (.tuple #[v, v']) w) :
    Eq N (bodyPost P fn fun e w' => ∃ v, e = .returned v ∧ R v w') .ret l w := fun _ ha =>
  bodyPost_ret (results_tmp2 hr _ _ _) ha.defers ⟨_, by rw [ha.slot _ _ hv, ha.slot _ _ hv'], h⟩
end Go.Proofs.YtnckpafknojdhaaDoor
set_option linter.unusedSimpArgs false
set_option linter.unusedVariables false
namespace Go.Proofs.YtnckpafknojdhaaDoor
open Go.RowKit
def Ext (w w' : World) : Prop := Below w.heap.size w w'
theorem Ext.refl (w : World) : Ext w w := Below.refl _ _
theorem Ext.trans {a b c : World} (h : Ext a b) (k : Ext b c) : Ext a c := Below.trans h (Below.mono k h.size)
theorem Ext.alloc (w : World) (o : Obj) : Ext w (w.alloc o) := (Below.refl _ _).alloc (Nat.le_refl _) o
theorem Ext.heap {w w' : World} (h : Ext w w') {b : Nat} {o : Obj} (hb : w.heap[b]? = some o) : w'.heap[b]? = some o := by
  rw [h.block b (lt_of_block hb)]; exact hb
theorem Ext.grown {a b w' : World} {r : Option Nat} (h : Ext a b) (hg : b.grownBy w' r) (hr : ∀ k, r = some k → a.heap.size ≤ k) : Ext a w' := Below.grown h hg h.size hr
theorem Ext.of_grown {w w' : World} (h : w.grownBy w' none) : Ext w w' := (Below.refl _ _).grown h (Nat.le_refl _) (fun k hk => by cases hk)
theorem Ext.to_grown {w w' : World} (h : Ext w w') (r : Option Nat) : w.grownBy w' r := ⟨h.os, h.tape, h.output, h.size, fun k hk _ => h.block k hk⟩
theorem grown_trans {a b c : World} {r : Option Nat} (h : a.grownBy b r) (k : b.grownBy c r) : a.grownBy c r :=
  ⟨k.os.trans h.os, k.tape.trans h.tape, k.output.trans h.output, Nat.le_trans h.size k.size, fun i hi hn => (k.block i (Nat.lt_of_lt_of_le hi h.size) hn).trans (h.block i hi hn)⟩
theorem grown_setCell (w : World) (g o : Nat) (v : Value) : w.grownBy (w.setCell ⟨g, o, none⟩ v) (some g) :=
  ⟨rfl, rfl, rfl, by simp [World.setCell], fun k _ hne => Below.heap_setCell _ _ _ _ (fun e => hne (by rw [e]))⟩
def Blk (w : World) (b : Nat) (t : TypeId) (cs : List Value) : Prop := w.heap[b]? = some (.cells cs.toArray t (0, 0))
theorem Blk.ext {w w' : World} {b : Nat} {t : TypeId} {cs : List Value} (h : Blk w b t cs) (e : Ext w w') : Blk w' b t cs := e.heap h
theorem Blk.lt {w : World} {b : Nat} {t : TypeId} {cs : List Value} (h : Blk w b t cs) : b < w.heap.size := lt_of_block h
theorem Blk.cell {w : World} {b : Nat} {t : TypeId} {cs : List Value} (h : Blk w b t cs) (j : Nat) : w.cell? ⟨b, j, none⟩ = cs[j]? := by
  simp only [Blk] at h
  simp [World.cell?, h]
theorem Blk.free {w : World} {b : Nat} {t : TypeId} {cs : List Value} (h : Blk w b t cs) (j : Nat) : w.frozen? ⟨b, j, none⟩ = false := by
  simp only [Blk] at h
  simp [World.frozen?, h]
theorem Blk.set {w : World} {b : Nat} {t : TypeId} {cs : List Value} (h : Blk w b t cs) (j : Nat) (u : Value) : Blk (w.setCell ⟨b, j, none⟩ u) b t (cs.set j u) := by
  simp only [Blk] at *
  simp [World.setCell, Array.getElem?_modify, h]
theorem Blk.new (w : World) (t : TypeId) (cs : List Value) : Blk (w.alloc (.cells cs.toArray t)) w.heap.size t cs := heap_alloc_new w _
theorem Blk.grown {w w' : World} {b : Nat} {t : TypeId} {cs : List Value} (h : Blk w b t cs) {r : Option Nat} (hg : w.grownBy w' r) (hne : r ≠ some b) : Blk w' b t cs := by
  simp only [Blk] at *
  rw [hg.block b (lt_of_block h) (fun e => hne e.symm)]; exact h
theorem Blk.ne {w : World} {b b' : Nat} {t t' : TypeId} {cs cs' : List Value} (h : Blk w b t cs) (h' : Blk w b' t' cs') (hne : t ≠ t') : b ≠ b' := by
  rintro rfl
  simp only [Blk] at *
  rw [h] at h'
  simp at h'
  exact hne h'.2
def Row (w : World) (e : TypeId) (v : Value) (vs : List Value) : Prop :=
  (vs = [] ∧ ∃ p c, v = .slice p 0 c ∧ (p = none → c = 0)) ∨
  ∃ b o c cur fr, v = .slice (some ⟨b, o, none⟩) vs.length c ∧ w.heap[b]? = some (.cells cur e fr) ∧ ∀ i x, vs[i]? = some x → cur[o + i]? = some x
theorem Row.ext {w w' : World} {e : TypeId} {v : Value} {vs : List Value} (h : Row w e v vs) (x : Ext w w') : Row w' e v vs := by
  rcases h with h | ⟨b, o, c, cur, fr, hv, hb, hx⟩
  · exact .inl h
  · exact .inr ⟨b, o, c, cur, fr, hv, x.heap hb, hx⟩
theorem Row.grown {w w' : World} {e : TypeId} {v : Value} {vs : List Value} (h : Row w e v vs) {g : Nat} {t : TypeId} {cs : List Value} (hg : w.grownBy w' (some g)) (hb' : Blk w g t cs) (hne : t ≠ e) : Row w' e v vs := by
  rcases h with h | ⟨b, o, c, cur, fr, hv, hb, hx⟩
  · exact .inl h
  · refine .inr ⟨b, o, c, cur, fr, hv, ?_, hx⟩
    rw [hg.block b (lt_of_block hb) (fun h => ?_)]
    · exact hb
    · injection h with h
      subst h
      simp only [Blk] at hb'
      rw [hb] at hb'
      simp at hb'
      exact hne hb'.2.1.symm
theorem Row.shape {w : World} {e : TypeId} {v : Value} {vs : List Value} (h : Row w e v vs) : ∃ p c, v = .slice p vs.length c := by
  rcases h with ⟨rfl, p, c, rfl, _⟩ | ⟨b, o, c, cur, fr, hv, _⟩
  · exact ⟨p, c, rfl⟩
  · exact ⟨_, c, hv⟩
theorem Row.nil (w : World) (e : TypeId) : Row w e (.slice none 0 0) [] := .inl ⟨rfl, none, 0, rfl, fun _ => rfl⟩
theorem addr_add (b o i : Nat) : (⟨b, o, none⟩ : Addr).add i = ⟨b, o + i, none⟩ := by
  simp only [Addr.add]
  split
  · subst_vars; rfl
  · rfl
def Own (w : World) (B : Nat) (e : TypeId) (v : Value) (vs : List Value) : Prop := w.ownsRow B e 1 v vs.length vs
theorem Own.nil (w : World) (B : Nat) (e : TypeId) : Own w B e (.slice none 0 0) [] := World.ownsRow_nil w B e 1
theorem Own.cases {w : World} {B : Nat} {e : TypeId} {v : Value} {vs : List Value} (h : Own w B e v vs) :
    (v = .slice none 0 0 ∧ vs = []) ∨ ∃ g cap cs, v = .slice (some ⟨g, 0, none⟩) vs.length cap ∧ B ≤ g ∧ Blk w g e cs ∧ vs.length ≤ cap ∧ cap ≤ maxLen ∧ cs.length = cap ∧ cs.take vs.length = vs := by
  rcases h.2 with ⟨h1, h2⟩ | ⟨g, cap, cur, hv, hg, hb, h3, h4, h5, h6⟩
  · exact .inl ⟨h1, List.eq_nil_of_length_eq_zero h2⟩
  · exact .inr ⟨g, cap, cur.toList, hv, hg, by simpa [Blk] using hb, h3, h4, by simpa using h5, by simpa using h6⟩
theorem Own.mk {w : World} {B : Nat} {e : TypeId} {vs : List Value} {g cap : Nat} {cs : List Value} (hg : B ≤ g) (hb : Blk w g e cs) (h3 : vs.length ≤ cap) (h4 : cap ≤ maxLen) (h5 : cs.length = cap) (h6 : cs.take vs.length = vs) :
    Own w B e (.slice (some ⟨g, 0, none⟩) vs.length cap) vs :=
  ⟨by simp, .inr ⟨g, cap, cs.toArray, rfl, hg, by simpa [Blk] using hb, h3, h4, by simpa using h5, by simpa using h6⟩⟩
theorem Own.row {w : World} {B : Nat} {e : TypeId} {v : Value} {vs : List Value} (h : Own w B e v vs) : Row w e v vs := by
  rcases h.cases with ⟨rfl, rfl⟩ | ⟨g, cap, cs, rfl, _, hb, _, _, _, h6⟩
  · exact Row.nil _ _
  · refine .inr ⟨g, 0, cap, cs.toArray, (0, 0), rfl, hb, fun i x hx => ?_⟩
    rw [← h6, List.getElem?_take] at hx
    split at hx
    · simpa using hx
    · cases hx
theorem Own.ext {w w' : World} {B : Nat} {e : TypeId} {v : Value} {vs : List Value} (h : Own w B e v vs) (x : Ext w w') : Own w' B e v vs := by
  rcases h.cases with ⟨rfl, rfl⟩ | ⟨g, cap, cs, rfl, hg, hb, h3, h4, h5, h6⟩
  · exact Own.nil _ _ _
  · exact Own.mk hg (hb.ext x) h3 h4 h5 h6
theorem Own.grown {w w' : World} {B : Nat} {e : TypeId} {v : Value} {vs : List Value} (h : Own w B e v vs) {r : Option Nat} (hg : w.grownBy w' r) (hne : ∀ k, v.ownBlock = some k → r ≠ some k) : Own w' B e v vs := by
  rcases h.cases with ⟨rfl, rfl⟩ | ⟨g, cap, cs, rfl, hg', hb, h3, h4, h5, h6⟩
  · exact Own.nil _ _ _
  · exact Own.mk hg' (hb.grown hg (hne g rfl)) h3 h4 h5 h6
theorem Own.lt {w : World} {B : Nat} {e : TypeId} {v : Value} {vs : List Value} (h : Own w B e v vs) : ∀ k, v.ownBlock = some k → B ≤ k ∧ k < w.heap.size := by
  rcases h.cases with ⟨rfl, rfl⟩ | ⟨g, cap, cs, rfl, hg', hb, h3, h4, h5, h6⟩
  · intro k hk; cases hk
  · intro k hk
    simp [Value.ownBlock] at hk
    subst hk
    exact ⟨hg', hb.lt⟩
theorem Own.mono {w : World} {B B' : Nat} {e : TypeId} {v : Value} {vs : List Value} (h : Own w B e v vs) (hB : B' ≤ B) : Own w B' e v vs := by
  rcases h.cases with ⟨rfl, rfl⟩ | ⟨g, cap, cs, rfl, hg', hb, h3, h4, h5, h6⟩
  · exact Own.nil _ _ _
  · exact Own.mk (Nat.le_trans hB hg') hb h3 h4 h5 h6
theorem Row.owned {w w' : World} {B : Nat} {e t : TypeId} {v u : Value} {vs us : List Value} (h : Row w e v vs) (ho : Own w B t u us) (hg : w.grownBy w' u.ownBlock) (hne : t ≠ e) : Row w' e v vs := by
  rcases ho.cases with ⟨rfl, rfl⟩ | ⟨g, cap, cs, rfl, hg', hb, _⟩
  · exact h.ext (Ext.of_grown hg)
  · exact h.grown (g := g) hg hb hne
theorem Blk.owned {w w' : World} {B b : Nat} {e t : TypeId} {u : Value} {cs us : List Value} (h : Blk w b e cs) (ho : Own w B t u us) (hg : w.grownBy w' u.ownBlock) (hne : t ≠ e) : Blk w' b e cs := by
  rcases ho.cases with ⟨rfl, rfl⟩ | ⟨g, cap, cs', rfl, hg', hb, _⟩
  · exact h.ext (Ext.of_grown hg)
  · exact h.grown hg (fun e' => hb.ne h hne (by simpa [Value.ownBlock] using e'))
theorem Ext.owned {a w w' : World} {B : Nat} {t : TypeId} {u : Value} {us : List Value} (h : Ext a w) (ho : Own w B t u us) (hg : w.grownBy w' u.ownBlock) (hB : a.heap.size ≤ B) : Ext a w' :=
  h.grown hg fun k hk => Nat.le_trans hB (ho.lt k hk).1
structure One (P : Program) (t : TypeId) : Prop where
  agg : ∀ w, (isAgg t).run P w = .ok false w
  size : ∀ w, (sizeOf t).run P w = .ok 1 w
structure Agg (P : Program) (t : TypeId) (n : Nat) : Prop where
  agg : ∀ w, (isAgg t).run P w = .ok true w
  size : ∀ w, (sizeOf t).run P w = .ok n w
def Fld (P : Program) (s : TypeId) (f j : Nat) : Prop := ∀ b o w, (Instr.fieldAt s (.pointer (some ⟨b, o, none⟩)) f).run P w = .ok (.pointer (some ⟨b, o + j, none⟩)) w
structure SlT (P : Program) (t e : TypeId) (z : Value) : Prop where
  und : P.underlying t = some (.slice e)
  info : ∃ i, P.info? e = some i ∧ i.zero = some z ∧ i.size = 1 ∧ i.bytes ≤ 64
  one : z.oneCell' = true
theorem SlT.elem {P : Program} {t e : TypeId} {z : Value} (h : SlT P t e z) : P.elem t = e := by simp [Program.elem, h.und]
theorem SlT.sizeOf {P : Program} {t e : TypeId} {z : Value} (h : SlT P t e z) (w : World) : (sizeOf e).run P w = .ok 1 w := by
  obtain ⟨i, hi, _, hs, _⟩ := h.info
  simp [Go.sizeOf, typeInfo, hi, hs]
section ops
variable {P : Program} {N : Nat} {ops : Array Oper} {Q : Exit → Act → World → Prop} {rest : List Oper} {l : Slots} {w : World}
theorem St.fresh {a : Act} {d : Nat} {v : Value} (h : St N l a) (hd : look l d = none) : St N l (a.put (some d) v) := by
  refine ⟨by simp [Act.put, h.size], h.defers, fun t u hu => ?_⟩
  have hne : d ≠ t := by rintro rfl; rw [hd] at hu; cases hu
  rw [← h.slot t u hu]
  simp [Act.put, Array.getD_eq_getD_getElem?, hne]
theorem Sq.mute {o : Oper} {d : Nat} {v : Value} {w' : World} (hg : On ops l o.guard) (hd : o.dst = some d) (hl : look l d = none)
    (hrun : ∀ a, St N l a → (execOp a.eval o).run P w = .ok (.value v) w') (h : ∀ a, St N l a → a.tmps.getD d undef = v ∨ ¬ d < N → wpList P ops Q rest a w') : Sq P N ops Q (o :: rest) l w := by
  intro a ha
  refine wpList_step fun K hK => ?_
  rw [if_pos (hg.wanted ha)]
  unfold Oper.wp
  rw [hrun a ha, Oper.upon_value, hd]
  refine hK _ _ (h _ (ha.fresh hl) ?_)
  by_cases hd' : d < N
  · left
    have : d < a.tmps.size := by rw [ha.size]; exact hd'
    simp [Act.put, this]
  · exact .inr hd'
section
variable {d : Nat} {ty : TypeId} {pos : String} {after : Array Edge} {g : Option (Nat × Bool)}
theorem Sq.box {t : TypeId} {x : Operand} {cs : List Value} (hg : On ops l g) (hN : Nat.blt d N = true) (hx : ev l x = some (.agg cs.toArray))
    (h : ∀ b w', Ext w w' → Blk w' b t cs → w.heap.size ≤ b → Sq P N ops Q rest ((d, .pointer (some ⟨b, 0, none⟩)) :: l) w') :
    Sq P N ops Q (⟨some d, .box t x, ty, pos, after, g⟩ :: rest) l w :=
  .val (w' := w.alloc (.cells cs.toArray t)) hg rfl hN (fun a ha => by simp [execOp, Instr.box, newVar, newRow, ha.ev hx, Value.cells])
    (h _ _ (Ext.alloc _ _) (Blk.new _ _ _) (Nat.le_refl _))
theorem Sq.box1 {t : TypeId} {x : Operand} {v : Value} (hg : On ops l g) (hN : Nat.blt d N = true) (hx : ev l x = some v) (h1 : v.oneCell' = true)
    (h : ∀ b w', Ext w w' → Blk w' b t [v] → w.heap.size ≤ b → Sq P N ops Q rest ((d, .pointer (some ⟨b, 0, none⟩)) :: l) w') :
    Sq P N ops Q (⟨some d, .box t x, ty, pos, after, g⟩ :: rest) l w :=
  .val (w' := w.alloc (.cells [v].toArray t)) hg rfl hN (fun a ha => by
    have : v.cells = #[v] := by cases v <;> simp_all [Value.cells, Value.oneCell']
    simp [execOp, Instr.box, newVar, newRow, ha.ev hx, this])
    (h _ _ (Ext.alloc _ _) (Blk.new _ _ _) (Nat.le_refl _))
theorem Still.fieldAddr {s f j b o : Nat} {x : Operand} (hf : Fld P s f j) (hx : ev l x = some (.pointer (some ⟨b, o, none⟩))) : Still P N l ⟨some d, .fieldAddr s x f, ty, pos, after, g⟩ (.pointer (some ⟨b, o + j, none⟩)) w := fun a ha => by simp [execOp, ha.ev hx, hf b o w]
theorem Sq.fieldAddr {s f j b o : Nat} {x : Operand} (hf : Fld P s f j) (hg : On ops l g) (hN : Nat.blt d N = true) (hx : ev l x = some (.pointer (some ⟨b, o, none⟩))) (h : Sq P N ops Q rest ((d, .pointer (some ⟨b, o + j, none⟩)) :: l) w) : Sq P N ops Q (⟨some d, .fieldAddr s x f, ty, pos, after, g⟩ :: rest) l w := .val hg rfl hN (Still.fieldAddr hf hx) h
theorem run_load1 {t : TypeId} (h1 : One P t) {b o : Nat} {v : Value} (hc : w.cell? ⟨b, o, none⟩ = some v) : (Instr.loadAt t (.pointer (some ⟨b, o, none⟩))).run P w = .ok v w := by
  simp [Instr.loadAt, Instr.sureAddr, loadVar, h1.agg, hc]
theorem Still.load {t : TypeId} {b o : Nat} {x : Operand} {v : Value} (h1 : One P t) (hx : ev l x = some (.pointer (some ⟨b, o, none⟩))) (hc : w.cell? ⟨b, o, none⟩ = some v) : Still P N l ⟨some d, .load t x, ty, pos, after, g⟩ (v) w := fun a ha => by simp [execOp, ha.ev hx, run_load1 h1 hc]
theorem Sq.load {t : TypeId} {b o : Nat} {x : Operand} {v : Value} (h1 : One P t) (hg : On ops l g) (hN : Nat.blt d N = true) (hx : ev l x = some (.pointer (some ⟨b, o, none⟩))) (hc : w.cell? ⟨b, o, none⟩ = some v) (h : Sq P N ops Q rest ((d, v) :: l) w) : Sq P N ops Q (⟨some d, .load t x, ty, pos, after, g⟩ :: rest) l w := .val hg rfl hN (Still.load h1 hx hc) h
theorem Sq.loadB {t u : TypeId} {b o : Nat} {x : Operand} {v : Value} {cs : List Value} (h1 : One P t) (hg : On ops l g) (hN : Nat.blt d N = true) (hx : ev l x = some (.pointer (some ⟨b, o, none⟩)))
    (hb : Blk w b u cs) (hc : cs[o]? = some v) (h : Sq P N ops Q rest ((d, v) :: l) w) : Sq P N ops Q (⟨some d, .load t x, ty, pos, after, g⟩ :: rest) l w :=
  .load h1 hg hN hx (by rw [hb.cell, hc]) h
theorem Still.loadAgg {t u : TypeId} {b n : Nat} {x : Operand} {cs : List Value} (h1 : Agg P t n) (hx : ev l x = some (.pointer (some ⟨b, 0, none⟩))) (hb : Blk w b u cs) (hn : cs.length = n) : Still P N l ⟨some d, .load t x, ty, pos, after, g⟩ (.agg cs.toArray) w := fun a ha => by
    have hl : (loadCells ⟨b, 0, none⟩ n).run P w = .ok cs.toArray w := by
      rw [← hn]
      refine run_loadCells_list _ _ _ fun j v hv => ?_
      rw [addr_add, hb.cell]
      simpa using hv
    simp [execOp, ha.ev hx, Instr.loadAt, Instr.sureAddr, loadVar, h1.agg, h1.size, hl]
theorem Sq.loadAgg {t u : TypeId} {b n : Nat} {x : Operand} {cs : List Value} (h1 : Agg P t n) (hg : On ops l g) (hN : Nat.blt d N = true) (hx : ev l x = some (.pointer (some ⟨b, 0, none⟩))) (hb : Blk w b u cs) (hn : cs.length = n) (h : Sq P N ops Q rest ((d, .agg cs.toArray) :: l) w) : Sq P N ops Q (⟨some d, .load t x, ty, pos, after, g⟩ :: rest) l w := .val hg rfl hN (Still.loadAgg h1 hx hb hn) h
theorem Sq.store {t u : TypeId} {b o : Nat} {x y : Operand} {v : Value} {cs : List Value} (h1 : One P t) (hg : On ops l g) (hx : ev l x = some (.pointer (some ⟨b, o, none⟩))) (hy : ev l y = some v) (hv : v.oneCell' = true)
    (hb : Blk w b u cs) (ho : o < cs.length)
    (h : ∀ w', w.grownBy w' (some b) → Blk w' b u (cs.set o v) → Sq P N ops Q rest l w') : Sq P N ops Q (⟨none, .store t x y, ty, pos, after, g⟩ :: rest) l w :=
  .unit (w' := w.setCell ⟨b, o, none⟩ v) hg rfl (fun a ha => by
    have hc : v.cells = #[v] := by cases v <;> simp_all [Value.cells, Value.oneCell']
    have h2 := hb.cell o
    rw [List.getElem?_eq_getElem ho] at h2
    simp [execOp, ha.ev hx, ha.ev hy, Instr.storeAt, Instr.sureAddr, storeVar, hc, h1.size, storeCells, addr_add, run_store _ _ _ _ _ hv, h2, hb.free])
    (h _ (grown_setCell _ _ _ _) (hb.set _ _))
theorem storeCells_all (b t : Nat) : ∀ (vs : List Value) (i : Nat) (w : World) (cs : List Value), Blk w b t cs → i + vs.length ≤ cs.length → (∀ v ∈ vs, v.oneCell' = true) →
    ∃ w', (storeCells ⟨b, 0, none⟩ vs i).run P w = .ok () w' ∧ w.grownBy w' (some b) ∧ Blk w' b t (cs.take i ++ vs ++ cs.drop (i + vs.length)) := by
  intro vs
  induction vs with
  | nil => intro i w cs hb hi _; exact ⟨w, by simp [storeCells], World.grownBy.refl _ _, by simpa using hb⟩
  | cons v r ih =>
    intro i w cs hb hi h1
    simp only [List.length_cons] at hi
    have hlt : i < cs.length := by omega
    have h2 := hb.cell i
    rw [List.getElem?_eq_getElem hlt] at h2
    obtain ⟨w', hr, hg, hb'⟩ := ih (i + 1) (w.setCell ⟨b, i, none⟩ v) (cs.set i v) (hb.set i v) (by simp; omega) (fun u hu => h1 u (List.mem_cons_of_mem _ hu))
    refine ⟨w', ?_, grown_trans (grown_setCell _ _ _ _) hg, ?_⟩
    · simp [storeCells, addr_add, run_store _ _ _ _ _ (h1 v (List.mem_cons_self ..)), h2, hb.free, hr]
    · have e : (cs.set i v).take (i + 1) ++ r ++ (cs.set i v).drop (i + 1 + r.length) = cs.take i ++ v :: r ++ cs.drop (i + (r.length + 1)) := by
        have h3 : (cs.set i v).take (i + 1) = cs.take i ++ [v] := by
          rw [List.take_succ_eq_append_getElem (by simpa using hlt)]
          simp [List.take_set_of_le (Nat.le_refl i)]
        have h4 : (cs.set i v).drop (i + 1 + r.length) = cs.drop (i + (r.length + 1)) := by
          rw [List.drop_set_of_lt (by omega)]
          congr 1
          omega
        rw [h3, h4]
        simp
      rw [e] at hb'
      exact hb'
theorem Sq.storeAgg {t u : TypeId} {b n : Nat} {x y : Operand} {vs cs : List Value} (h1 : Agg P t n) (hg : On ops l g) (hx : ev l x = some (.pointer (some ⟨b, 0, none⟩))) (hy : ev l y = some (.agg vs.toArray)) (hv : ∀ v ∈ vs, v.oneCell' = true)
    (hb : Blk w b u cs) (hn : vs.length = n) (hm : cs.length = n)
    (h : ∀ w', w.grownBy w' (some b) → Blk w' b u vs → Sq P N ops Q rest l w') : Sq P N ops Q (⟨none, .store t x y, ty, pos, after, g⟩ :: rest) l w := by
  obtain ⟨w', hr, hgr, hb'⟩ := storeCells_all (P := P) b u vs 0 w cs hb (by omega) hv
  refine .unit (w' := w') hg rfl (fun a ha => ?_) (h w' hgr ?_)
  · simp [execOp, ha.ev hx, ha.ev hy, Instr.storeAt, Instr.sureAddr, storeVar, h1.size, Value.cells, hn, hr]
  · have : cs.drop vs.length = [] := List.drop_eq_nil_of_le (by omega)
    simpa [this] using hb'
theorem Sq.alloc {t : TypeId} {zs : List Value} (hz : ∀ w, (zeroValue t).run P w = .ok (.agg zs.toArray) w) (hg : On ops l g) (hN : Nat.blt d N = true)
    (h : ∀ b w', Ext w w' → Blk w' b t zs → w.heap.size ≤ b → Sq P N ops Q rest ((d, .pointer (some ⟨b, 0, none⟩)) :: l) w') :
    Sq P N ops Q (⟨some d, .alloc t, ty, pos, after, g⟩ :: rest) l w :=
  .val (w' := w.alloc (.cells zs.toArray t)) hg rfl hN (fun a ha => by simp [execOp, Instr.alloc, newVar, newRow, hz, Value.cells])
    (h _ _ (Ext.alloc _ _) (Blk.new _ _ _) (Nat.le_refl _))
theorem Sq.alloc1 {t : TypeId} {z : Value} (hz : ∀ w, (zeroValue t).run P w = .ok z w) (h1 : z.oneCell' = true) (hg : On ops l g) (hN : Nat.blt d N = true)
    (h : ∀ b w', Ext w w' → Blk w' b t [z] → w.heap.size ≤ b → Sq P N ops Q rest ((d, .pointer (some ⟨b, 0, none⟩)) :: l) w') :
    Sq P N ops Q (⟨some d, .alloc t, ty, pos, after, g⟩ :: rest) l w :=
  .val (w' := w.alloc (.cells [z].toArray t)) hg rfl hN (fun a ha => by
    have : z.cells = #[z] := by cases z <;> simp_all [Value.cells, Value.oneCell']
    simp [execOp, Instr.alloc, newVar, newRow, hz, this])
    (h _ _ (Ext.alloc _ _) (Blk.new _ _ _) (Nat.le_refl _))
theorem Still.len {t : TypeId} {x : Operand} {p : Option Addr} {n c : Nat} (ht : P.underlying t = some (.slice (P.elem t))) (hx : ev l x = some (.slice p n c)) : Still P N l ⟨some d, .call ⟨.builtin .len, #[x], #[t]⟩, ty, pos, after, g⟩ (.int .i64 n) w := fun a ha => by
    rw [BigFrame.execOp_builtin, BigFrame.builtin_len]
    simp only [List.map_toArray, List.map_cons, List.map_nil, ha.ev hx, Sem.run_bind, run_len_slice w t ty p n c ht, Result.andThen, Sem.run_pure]; rfl
theorem Sq.len {t : TypeId} {x : Operand} {p : Option Addr} {n c : Nat} (hg : On ops l g) (hN : Nat.blt d N = true) (ht : P.underlying t = some (.slice (P.elem t))) (hx : ev l x = some (.slice p n c)) (h : Sq P N ops Q rest ((d, .int .i64 n) :: l) w) : Sq P N ops Q (⟨some d, .call ⟨.builtin .len, #[x], #[t]⟩, ty, pos, after, g⟩ :: rest) l w := .val hg rfl hN (Still.len ht hx) h
theorem Sq.lenRow {t e : TypeId} {x : Operand} {v : Value} {vs : List Value} (hr : Row w e v vs) (hg : On ops l g) (hN : Nat.blt d N = true) (ht : P.underlying t = some (.slice (P.elem t))) (hx : ev l x = some v)
    (h : Sq P N ops Q rest ((d, .int .i64 vs.length) :: l) w) : Sq P N ops Q (⟨some d, .call ⟨.builtin .len, #[x], #[t]⟩, ty, pos, after, g⟩ :: rest) l w := by
  obtain ⟨p, c, rfl⟩ := hr.shape
  exact .len hg hN ht hx h
theorem Still.lenStr {t : TypeId} {x : Operand} {s : ByteArray} (ht : P.underlying t = some .string) (hx : ev l x = some (.string s)) : Still P N l ⟨some d, .call ⟨.builtin .len, #[x], #[t]⟩, ty, pos, after, g⟩ (.int .i64 s.size) w := fun a ha => by
    rw [BigFrame.execOp_builtin, BigFrame.builtin_len]
    simp only [List.map_toArray, List.map_cons, List.map_nil, ha.ev hx, Sem.run_bind, run_len_string w t ty s ht, Result.andThen, Sem.run_pure]; rfl
theorem Sq.lenStr {t : TypeId} {x : Operand} {s : ByteArray} (hg : On ops l g) (hN : Nat.blt d N = true) (ht : P.underlying t = some .string) (hx : ev l x = some (.string s)) (h : Sq P N ops Q rest ((d, .int .i64 s.size) :: l) w) : Sq P N ops Q (⟨some d, .call ⟨.builtin .len, #[x], #[t]⟩, ty, pos, after, g⟩ :: rest) l w := .val hg rfl hN (Still.lenStr ht hx) h
theorem Sq.idx {t e0 e lt : TypeId} {z : Value} {x ix : Operand} {v u : Value} {vs : List Value} {k : IntKind} {i : Int} {d2 : Nat} {ty2 : TypeId} {pos2 : String} {after2 : Array Edge} {g2 : Option (Nat × Bool)}
    (hs : SlT P t e0 z) (h1 : One P lt) (hr : Row w e v vs) (hg : On ops l g) (hN : Nat.blt d N = true) (hN2 : Nat.blt d2 N = true) (hd : look l d = none) (hg2 : On ops l g2) (hx : ev l x = some v) (hix : ev l ix = some (.int k i)) (hi : 0 ≤ i)
    (hu : vs[i.toNat]? = some u) (h : Sq P N ops Q rest ((d2, u) :: l) w) :
    Sq P N ops Q (⟨some d, .indexAddr t x ix, ty, pos, after, g⟩ :: ⟨some d2, .load lt (.tmp d), ty2, pos2, after2, g2⟩ :: rest) l w := by
  have hlt : i.toNat < vs.length := by
    rcases Nat.lt_or_ge i.toNat vs.length with h | h
    · exact h
    · rw [List.getElem?_eq_none h] at hu; cases hu
  rcases hr with ⟨rfl, _⟩ | ⟨b, o, c, cur, fr, rfl, hb, hc⟩
  · cases hu
  · have hcell : w.cell? ⟨b, o + i.toNat, none⟩ = some u := by simp [World.cell?, hb, hc _ _ hu]
    have hd' : d < N := Nat.lt_of_lt_of_le (Nat.lt_succ_self d) (Nat.le_of_ble_eq_true hN)
    refine .mute (w' := w) (v := .pointer (some ⟨b, o + i.toNat, none⟩)) hg rfl hd (fun a ha => ?_) fun a ha hva => ?_
    · have := run_indexAt_slice (P := P) (w := w) t ⟨b, o, none⟩ vs.length c k i (by rw [hs.elem]; exact hs.und)
      have hi' : 0 ≤ i ∧ i < (vs.length : Int) := ⟨hi, by omega⟩
      rw [hs.elem, hs.sizeOf] at this
      simp [execOp, ha.ev hx, ha.ev hix, this, hi', addr_add]
    · have hva' := hva.resolve_right (by omega)
      have hst : St N l a := ha
      refine wpList_step fun K hK => ?_
      rw [if_pos (hg2.wanted hst)]
      unfold Oper.wp
      have hev : a.eval (.tmp d) = .pointer (some ⟨b, o + i.toNat, none⟩) := hva'
      have : (execOp a.eval ⟨some d2, .load lt (.tmp d), ty2, pos2, after2, g2⟩).run P w = .ok (.value u) w := by
        simp [execOp, hev, run_load1 h1 hcell]
      rw [this, Oper.upon_value]
      exact hK _ _ (h _ (hst.put hN2))
theorem Still.idxStr {t : TypeId} {x ix : Operand} {s : ByteArray} {k : IntKind} {i : Int} {u : UInt8} (ht : P.underlying t = some .string) (hx : ev l x = some (.string s)) (hix : ev l ix = some (.int k i)) (hi : 0 ≤ i) (hu : s.data.toList[i.toNat]? = some u) : Still P N l ⟨some d, .index t x ix, ty, pos, after, g⟩ (.int .u8 u.toNat) w := fun a ha => by
    have hs : s[i.toNat]? = some u := by
      rw [Array.getElem?_toList] at hu
      have hlt : i.toNat < s.data.size := by
        rcases Nat.lt_or_ge i.toNat s.data.size with h | h
        · exact h
        · rw [Array.getElem?_eq_none h] at hu; cases hu
      rw [Array.getElem?_eq_getElem hlt] at hu
      rw [ByteArray.getElem?_lt' s _ hlt]
      exact hu
    simp only [execOp, ha.ev hx, ha.ev hix, Instr.index, asIntOf]
    simp [run_underlying ht, hi, hs]
theorem Sq.idxStr {t : TypeId} {x ix : Operand} {s : ByteArray} {k : IntKind} {i : Int} {u : UInt8} (hg : On ops l g) (hN : Nat.blt d N = true) (ht : P.underlying t = some .string) (hx : ev l x = some (.string s)) (hix : ev l ix = some (.int k i)) (hi : 0 ≤ i) (hu : s.data.toList[i.toNat]? = some u) (h : Sq P N ops Q rest ((d, .int .u8 u.toNat) :: l) w) : Sq P N ops Q (⟨some d, .index t x ix, ty, pos, after, g⟩ :: rest) l w := .val hg rfl hN (Still.idxStr ht hx hix hi hu) h
end
end ops
end Go.Proofs.YtnckpafknojdhaaDoor
set_option linter.unusedSimpArgs false
set_option linter.unusedVariables false
namespace Go.Proofs.YtnckpafknojdhaaDoor
open Go.RowKit
def hs (s n : Int) : Bool := decide (0 ≤ n) && s.toNat.testBit n.toNat
theorem hs_shift (s n : Int) (h0 : 0 ≤ s) (h1 : s ≤ 9223372036854775807) (hn : 0 ≤ n) : decide (s / 2 ^ (min n.toNat 64) % 2 = 1) = hs s n := by
  obtain ⟨m, rfl⟩ := Int.eq_ofNat_of_zero_le h0
  simp only [hs, decide_eq_true hn, Bool.true_and, Int.toNat_natCast, Nat.testBit_eq_decide_div_mod_eq]
  rw [decide_eq_decide]
  have e : ((m : Int) / 2 ^ (min n.toNat 64) % 2 = 1) ↔ m / 2 ^ (min n.toNat 64) % 2 = 1 := by
    constructor
    · intro h; exact_mod_cast h
    · intro h; exact_mod_cast h
  rw [e]
  rcases Nat.le_total n.toNat 64 with h | h
  · rw [Nat.min_eq_left h]
  · rw [Nat.min_eq_right h]
    have h64 : m < 2 ^ 64 := by omega
    have hp : 2 ^ 64 ≤ 2 ^ n.toNat := Nat.pow_le_pow_right (by omega) h
    rw [Nat.div_eq_of_lt h64, Nat.div_eq_of_lt (by omega)]
theorem shr_ok {s : Int} {k : Nat} (h : 0 ≤ s ∧ s ≤ 9223372036854775807) : 0 ≤ s / 2 ^ k ∧ s / 2 ^ k ≤ 9223372036854775807 := by
  have hp : (0 : Int) < 2 ^ k := Int.pow_pos (by decide)
  exact ⟨Int.ediv_nonneg h.1 (Int.le_of_lt hp), Int.le_trans (Int.ediv_le_self _ h.1) h.2⟩
section ops
variable {P : Program} {N : Nat} {ops : Array Oper} {Q : Exit → Act → World → Prop} {rest : List Oper} {l : Slots} {w : World}
variable {d : Nat} {ty : TypeId} {pos : String} {after : Array Edge} {g : Option (Nat × Bool)}
theorem Still.shr {xt yt : TypeId} {x y : Operand} {m n : Int} {k : IntKind} (hx : ev l x = some (.int .i64 m)) (hy : ev l y = some (.int k n)) (hb : 0 ≤ n) : Still P N l ⟨some d, .binOp .shr xt x y yt, ty, pos, after, g⟩ (.int .i64 (m / 2 ^ (min n.toNat 64))) w := fun a ha => by
    have h1 : ¬ n < 0 := by omega
    have h2 : m.fdiv (2 ^ (min n.toNat 64)) = m / 2 ^ (min n.toNat 64) := Int.fdiv_eq_ediv_of_nonneg m (by
      have : (0 : Int) < 2 ^ (min n.toNat 64) := Int.pow_pos (by decide)
      omega)
    have h3 : eqGuard .shr xt x y (.int .i64 m) (.int k n) = pure () := rfl
    have h4 : binOp .shr xt (.int .i64 m) (.int k n) = Op.shift .shr .i64 m k n := rfl
    simp only [execOp, ha.ev hx, ha.ev hy, h3, h4, Op.shift, if_neg h1, IntKind.bits]
    simp [h2]
theorem Sq.shr {xt yt : TypeId} {x y : Operand} {m n : Int} {k : IntKind} (hg : On ops l g) (hN : Nat.blt d N = true) (hx : ev l x = some (.int .i64 m)) (hy : ev l y = some (.int k n)) (hb : 0 ≤ n) (h : Sq P N ops Q rest ((d, .int .i64 (m / 2 ^ (min n.toNat 64))) :: l) w) : Sq P N ops Q (⟨some d, .binOp .shr xt x y yt, ty, pos, after, g⟩ :: rest) l w := .val hg rfl hN (Still.shr hx hy hb) h
theorem Still.shl {xt yt : TypeId} {x y : Operand} {m n : Int} {k : IntKind} (hx : ev l x = some (.int .i64 m)) (hy : ev l y = some (.int k n)) (hb : 0 ≤ m ∧ m ≤ 1 ∧ 0 ≤ n ∧ n ≤ 60) : Still P N l ⟨some d, .binOp .shl xt x y yt, ty, pos, after, g⟩ (.int .i64 (m * 2 ^ n.toNat)) w := fun a ha => by
    have h1 : ¬ n < 0 := by omega
    have h2 : min n.toNat 64 = n.toNat := by omega
    have h3 : (2 : Int) ^ n.toNat ≤ 2 ^ 60 := by exact_mod_cast Nat.pow_le_pow_right (by omega : 0 < 2) (by omega : n.toNat ≤ 60)
    have h4 : (0 : Int) < 2 ^ n.toNat := Int.pow_pos (by decide)
    have h5 : m = 0 ∨ m = 1 := by omega
    have h6 : IntKind.i64.wrap (m * 2 ^ n.toNat) = m * 2 ^ n.toNat := IntWalk.i64_in _ (by rcases h5 with rfl | rfl <;> omega)
    have h7 : eqGuard .shl xt x y (.int .i64 m) (.int k n) = pure () := rfl
    have h8 : binOp .shl xt (.int .i64 m) (.int k n) = Op.shift .shl .i64 m k n := rfl
    simp only [execOp, ha.ev hx, ha.ev hy, h7, h8, Op.shift, if_neg h1, IntKind.bits, h2]
    simp [h6]
theorem Sq.shl {xt yt : TypeId} {x y : Operand} {m n : Int} {k : IntKind} (hg : On ops l g) (hN : Nat.blt d N = true) (hx : ev l x = some (.int .i64 m)) (hy : ev l y = some (.int k n)) (hb : 0 ≤ m ∧ m ≤ 1 ∧ 0 ≤ n ∧ n ≤ 60) (h : Sq P N ops Q rest ((d, .int .i64 (m * 2 ^ n.toNat)) :: l) w) : Sq P N ops Q (⟨some d, .binOp .shl xt x y yt, ty, pos, after, g⟩ :: rest) l w := .val hg rfl hN (Still.shl hx hy hb) h
theorem bits_nat (f : ∀ k : Nat, BitVec k → BitVec k → BitVec k) (F : Nat → Nat → Nat) (hf : ∀ a b : Nat, a < 2 ^ 63 → b < 2 ^ 63 → (f 64 (BitVec.ofNat 64 a) (BitVec.ofNat 64 b)).toNat = F a b) (hF : ∀ a b : Nat, a < 2 ^ 63 → b < 2 ^ 63 → F a b < 2 ^ 63)
    (m n : Int) (h : 0 ≤ m ∧ m ≤ 9223372036854775807 ∧ 0 ≤ n ∧ n ≤ 9223372036854775807) :
    IntKind.i64.wrap ((f 64 (BitVec.ofInt 64 m) (BitVec.ofInt 64 n)).toNat : Int) = (F m.toNat n.toNat : Nat) := by
  obtain ⟨a, rfl⟩ := Int.eq_ofNat_of_zero_le h.1
  obtain ⟨b, rfl⟩ := Int.eq_ofNat_of_zero_le h.2.2.1
  have ha : a < 2 ^ 63 := by omega
  have hb : b < 2 ^ 63 := by omega
  rw [BitVec.ofInt_natCast, BitVec.ofInt_natCast, hf a b ha hb]
  have := hF a b ha hb
  rw [IntWalk.i64_in _ (by omega)]
  simp
theorem Still.and {xt yt : TypeId} {x y : Operand} {m n : Int} (hx : ev l x = some (.int .i64 m)) (hy : ev l y = some (.int .i64 n)) (hb : 0 ≤ m ∧ m ≤ 9223372036854775807 ∧ 0 ≤ n ∧ n ≤ 9223372036854775807) : Still P N l ⟨some d, .binOp .and xt x y yt, ty, pos, after, g⟩ (.int .i64 ((m.toNat &&& n.toNat : Nat) : Int)) w := fun a ha => by
    have := bits_nat (fun _ a b => a &&& b) (fun a b => a &&& b) (fun a b ha hb => by simp [Nat.mod_eq_of_lt (show a < 18446744073709551616 by omega), Nat.mod_eq_of_lt (show b < 18446744073709551616 by omega)])
      (fun a b ha hb => Nat.and_lt_two_pow _ hb) m n hb
    simp only [execOp, eqGuard, binOp, Op.intBits, ha.ev hx, ha.ev hy]
    simp
    exact this
theorem Sq.and {xt yt : TypeId} {x y : Operand} {m n : Int} (hg : On ops l g) (hN : Nat.blt d N = true) (hx : ev l x = some (.int .i64 m)) (hy : ev l y = some (.int .i64 n)) (hb : 0 ≤ m ∧ m ≤ 9223372036854775807 ∧ 0 ≤ n ∧ n ≤ 9223372036854775807) (h : Sq P N ops Q rest ((d, .int .i64 ((m.toNat &&& n.toNat : Nat) : Int)) :: l) w) : Sq P N ops Q (⟨some d, .binOp .and xt x y yt, ty, pos, after, g⟩ :: rest) l w := .val hg rfl hN (Still.and hx hy hb) h
theorem Still.or {xt yt : TypeId} {x y : Operand} {m n : Int} (hx : ev l x = some (.int .i64 m)) (hy : ev l y = some (.int .i64 n)) (hb : 0 ≤ m ∧ m ≤ 9223372036854775807 ∧ 0 ≤ n ∧ n ≤ 9223372036854775807) : Still P N l ⟨some d, .binOp .or xt x y yt, ty, pos, after, g⟩ (.int .i64 ((m.toNat ||| n.toNat : Nat) : Int)) w := fun a ha => by
    have := bits_nat (fun _ a b => a ||| b) (fun a b => a ||| b) (fun a b ha hb => by simp [Nat.mod_eq_of_lt (show a < 18446744073709551616 by omega), Nat.mod_eq_of_lt (show b < 18446744073709551616 by omega)])
      (fun a b ha hb => Nat.or_lt_two_pow ha hb) m n hb
    simp only [execOp, eqGuard, binOp, Op.intBits, ha.ev hx, ha.ev hy]
    simp
    exact this
theorem Sq.or {xt yt : TypeId} {x y : Operand} {m n : Int} (hg : On ops l g) (hN : Nat.blt d N = true) (hx : ev l x = some (.int .i64 m)) (hy : ev l y = some (.int .i64 n)) (hb : 0 ≤ m ∧ m ≤ 9223372036854775807 ∧ 0 ≤ n ∧ n ≤ 9223372036854775807) (h : Sq P N ops Q rest ((d, .int .i64 ((m.toNat ||| n.toNat : Nat) : Int)) :: l) w) : Sq P N ops Q (⟨some d, .binOp .or xt x y yt, ty, pos, after, g⟩ :: rest) l w := .val hg rfl hN (Still.or hx hy hb) h
theorem Still.xor {xt yt : TypeId} {x y : Operand} {m n : Int} (hx : ev l x = some (.int .i64 m)) (hy : ev l y = some (.int .i64 n)) (hb : 0 ≤ m ∧ m ≤ 9223372036854775807 ∧ 0 ≤ n ∧ n ≤ 9223372036854775807) : Still P N l ⟨some d, .binOp .xor xt x y yt, ty, pos, after, g⟩ (.int .i64 ((m.toNat ^^^ n.toNat : Nat) : Int)) w := fun a ha => by
    have := bits_nat (fun _ a b => a ^^^ b) (fun a b => a ^^^ b) (fun a b ha hb => by simp [Nat.mod_eq_of_lt (show a < 18446744073709551616 by omega), Nat.mod_eq_of_lt (show b < 18446744073709551616 by omega)])
      (fun a b ha hb => Nat.xor_lt_two_pow ha hb) m n hb
    simp only [execOp, eqGuard, binOp, Op.intBits, ha.ev hx, ha.ev hy]
    simp
    exact this
theorem Sq.xor {xt yt : TypeId} {x y : Operand} {m n : Int} (hg : On ops l g) (hN : Nat.blt d N = true) (hx : ev l x = some (.int .i64 m)) (hy : ev l y = some (.int .i64 n)) (hb : 0 ≤ m ∧ m ≤ 9223372036854775807 ∧ 0 ≤ n ∧ n ≤ 9223372036854775807) (h : Sq P N ops Q rest ((d, .int .i64 ((m.toNat ^^^ n.toNat : Nat) : Int)) :: l) w) : Sq P N ops Q (⟨some d, .binOp .xor xt x y yt, ty, pos, after, g⟩ :: rest) l w := .val hg rfl hN (Still.xor hx hy hb) h
theorem Sq.and1 {xt yt : TypeId} {x : Operand} {m : Int} (hg : On ops l g) (hN : Nat.blt d N = true) (hx : ev l x = some (.int .i64 m))
    (hb : 0 ≤ m ∧ m ≤ 9223372036854775807) (h : Sq P N ops Q rest ((d, .int .i64 (m % 2)) :: l) w) :
    Sq P N ops Q (⟨some d, .binOp .and xt x (.const (.int .i64 1)) yt, ty, pos, after, g⟩ :: rest) l w := by
  refine Sq.and hg hN hx (n := 1) rfl (by omega) ?_
  have e : ((m.toNat &&& (1 : Int).toNat : Nat) : Int) = m % 2 := by
    show ((m.toNat &&& 1 : Nat) : Int) = m % 2
    rw [Nat.and_one_is_mod]
    omega
  rw [e]
  exact h
def Cnv (P : Program) (s t : TypeId) (k : IntKind) : Prop := ∀ (j : IntKind) (n : Int) w, (convert s t (.int j n)).run P w = .ok (.int k (k.wrap n)) w
theorem Cnv.of {s t : TypeId} {k : IntKind} (hs : (P.underlying s).isSome = true) (hd : P.underlying t = some (.int k)) : Cnv P s t k := by
  intro j n w
  obtain ⟨d, hd'⟩ := Option.isSome_iff_exists.mp hs
  simp [convert, run_underlying hd', run_underlying hd, Conv.intToInt]
theorem Still.conv {s t : TypeId} {x : Operand} {j : IntKind} {n : Int} (hc : Cnv P s t .i64) (hx : ev l x = some (.int j n)) (hb : -9223372036854775808 ≤ n ∧ n ≤ 9223372036854775807) : Still P N l ⟨some d, .convert s t x, ty, pos, after, g⟩ (.int .i64 n) w := fun a ha => by simp [execOp, ha.ev hx, hc j n w, IntWalk.i64_in _ hb]
theorem Sq.conv {s t : TypeId} {x : Operand} {j : IntKind} {n : Int} (hc : Cnv P s t .i64) (hg : On ops l g) (hN : Nat.blt d N = true) (hx : ev l x = some (.int j n)) (hb : -9223372036854775808 ≤ n ∧ n ≤ 9223372036854775807) (h : Sq P N ops Q rest ((d, .int .i64 n) :: l) w) : Sq P N ops Q (⟨some d, .convert s t x, ty, pos, after, g⟩ :: rest) l w := .val hg rfl hN (Still.conv hc hx hb) h
theorem Still.convU {s t : TypeId} {x : Operand} {j : IntKind} {n : Int} (hc : Cnv P s t .u64) (hx : ev l x = some (.int j n)) (hb : 0 ≤ n ∧ n ≤ 18446744073709551615) : Still P N l ⟨some d, .convert s t x, ty, pos, after, g⟩ (.int .u64 n) w := fun a ha => by simp [execOp, ha.ev hx, hc j n w, IntWalk.u64_in _ hb]
theorem Sq.convU {s t : TypeId} {x : Operand} {j : IntKind} {n : Int} (hc : Cnv P s t .u64) (hg : On ops l g) (hN : Nat.blt d N = true) (hx : ev l x = some (.int j n)) (hb : 0 ≤ n ∧ n ≤ 18446744073709551615) (h : Sq P N ops Q rest ((d, .int .u64 n) :: l) w) : Sq P N ops Q (⟨some d, .convert s t x, ty, pos, after, g⟩ :: rest) l w := .val hg rfl hN (Still.convU hc hx hb) h
theorem Still.conv8 {s t : TypeId} {x : Operand} {j : IntKind} {n : Int} (hc : Cnv P s t .u8) (hx : ev l x = some (.int j n)) (hb : 0 ≤ n ∧ n ≤ 255) : Still P N l ⟨some d, .convert s t x, ty, pos, after, g⟩ (.int .u8 n) w := fun a ha => by simp [execOp, ha.ev hx, hc j n w, IntWalk.u8_in _ hb]
theorem Sq.conv8 {s t : TypeId} {x : Operand} {j : IntKind} {n : Int} (hc : Cnv P s t .u8) (hg : On ops l g) (hN : Nat.blt d N = true) (hx : ev l x = some (.int j n)) (hb : 0 ≤ n ∧ n ≤ 255) (h : Sq P N ops Q rest ((d, .int .u8 n) :: l) w) : Sq P N ops Q (⟨some d, .convert s t x, ty, pos, after, g⟩ :: rest) l w := .val hg rfl hN (Still.conv8 hc hx hb) h
theorem Still.neqB {xt yt : TypeId} {x y : Operand} {b c : Bool} (ht : P.underlying xt = some .bool) (hx : ev l x = some (.bool b)) (hy : ev l y = some (.bool c)) : Still P N l ⟨some d, .binOp .neq xt x y yt, ty, pos, after, g⟩ (.bool (b != c)) w := fun a ha => by simp [execOp, ha.ev hx, ha.ev hy, eqGuard, binOp, run_equal_bool w xt b c ht, bne]
theorem Sq.neqB {xt yt : TypeId} {x y : Operand} {b c : Bool} (ht : P.underlying xt = some .bool) (hg : On ops l g) (hN : Nat.blt d N = true) (hx : ev l x = some (.bool b)) (hy : ev l y = some (.bool c)) (h : Sq P N ops Q rest ((d, .bool (b != c)) :: l) w) : Sq P N ops Q (⟨some d, .binOp .neq xt x y yt, ty, pos, after, g⟩ :: rest) l w := .val hg rfl hN (Still.neqB ht hx hy) h
theorem Still.eqlS {xt yt : TypeId} {x y : Operand} {s t : ByteArray} (hx : ev l x = some (.string s)) (hy : ev l y = some (.string t)) : Still P N l ⟨some d, .binOp .eql xt x y yt, ty, pos, after, g⟩ (.bool (decide (s.data.toList = t.data.toList))) w := fun a ha => by
    have e : (s.data.toList == t.data.toList) = decide (s.data.toList = t.data.toList) := by rw [Bool.eq_iff_iff]; simp
    simp only [execOp, ha.ev hx, ha.ev hy, eqGuard, binOp_string_eql, ByteArray.toList_eq, e]
    simp
theorem Sq.eqlS {xt yt : TypeId} {x y : Operand} {s t : ByteArray} (hg : On ops l g) (hN : Nat.blt d N = true) (hx : ev l x = some (.string s)) (hy : ev l y = some (.string t)) (h : Sq P N ops Q rest ((d, .bool (decide (s.data.toList = t.data.toList))) :: l) w) : Sq P N ops Q (⟨some d, .binOp .eql xt x y yt, ty, pos, after, g⟩ :: rest) l w := .val hg rfl hN (Still.eqlS hx hy) h
theorem Still.neqS {xt yt : TypeId} {x y : Operand} {s t : ByteArray} (hx : ev l x = some (.string s)) (hy : ev l y = some (.string t)) : Still P N l ⟨some d, .binOp .neq xt x y yt, ty, pos, after, g⟩ (.bool (decide (¬ s.data.toList = t.data.toList))) w := fun a ha => by
    have e : (!(s.data.toList == t.data.toList)) = decide (¬ s.data.toList = t.data.toList) := by rw [Bool.eq_iff_iff]; simp
    simp only [execOp, ha.ev hx, ha.ev hy, eqGuard, binOp_string_neq, ByteArray.toList_eq, e]
    simp
theorem Sq.neqS {xt yt : TypeId} {x y : Operand} {s t : ByteArray} (hg : On ops l g) (hN : Nat.blt d N = true) (hx : ev l x = some (.string s)) (hy : ev l y = some (.string t)) (h : Sq P N ops Q rest ((d, .bool (decide (¬ s.data.toList = t.data.toList))) :: l) w) : Sq P N ops Q (⟨some d, .binOp .neq xt x y yt, ty, pos, after, g⟩ :: rest) l w := .val hg rfl hN (Still.neqS hx hy) h
theorem Still.cat {xt yt : TypeId} {x y : Operand} {s t : ByteArray} (hx : ev l x = some (.string s)) (hy : ev l y = some (.string t)) (hb : s.size + t.size ≤ 9223372036854775807) : Still P N l ⟨some d, .binOp .add xt x y yt, ty, pos, after, g⟩ (.string (s ++ t)) w := fun a ha => by simp [execOp, ha.ev hx, ha.ev hy, eqGuard, binOp_string_add, run_string_add_sum (P := P) (w := w) s t hb]
theorem Sq.cat {xt yt : TypeId} {x y : Operand} {s t : ByteArray} (hg : On ops l g) (hN : Nat.blt d N = true) (hx : ev l x = some (.string s)) (hy : ev l y = some (.string t)) (hb : s.size + t.size ≤ 9223372036854775807) (h : Sq P N ops Q rest ((d, .string (s ++ t)) :: l) w) : Sq P N ops Q (⟨some d, .binOp .add xt x y yt, ty, pos, after, g⟩ :: rest) l w := .val hg rfl hN (Still.cat hx hy hb) h
def StT (P : Program) (t : TypeId) (n : Nat) (zs : List Value) : Prop := ∀ parts w, (Instr.build t parts).run P w =
  (match Instr.fill (((List.range n).map fun i => (i, 1)).toArray[·]?) zs.toArray parts.toList with
   | some cells => (pure (.agg cells) : Sem Value)
   | none => stuck "build: no such field, or a part of the wrong size").run P w
def fieldsOf (P : Program) (t : TypeId) : Array Field := match P.underlying t with | some (.struct fs) => fs | _ => #[]
theorem StT.of {t : TypeId} {n : Nat} {zs : List Value} (h1 : P.underlying t = some (.struct (fieldsOf P t))) (h2 : ∀ w, ((fieldsOf P t).mapM fun f => do pure (f.offset, ← sizeOf f.type) : Sem _).run P w = .ok ((List.range n).map fun i => (i, 1)).toArray w)
    (h3 : ∀ w, (zeroValue t).run P w = .ok (.agg zs.toArray) w) : StT P t n zs := by
  intro parts w
  simp only [Instr.build, Sem.run_bind, h3, Result.andThen, run_underlying h1, h2, Value.cells]
  generalize Instr.fill _ zs.toArray parts.toList = r
  cases r <;> rfl
theorem fill_ones (n : Nat) : ∀ (parts : List (Nat × Value)) (cs : List Value), cs.length = n → (∀ p ∈ parts, p.1 < n ∧ p.2.oneCell' = true) →
    Instr.fill (((List.range n).map fun i => (i, 1)).toArray[·]?) cs.toArray parts = some (parts.foldl (fun cs p => cs.set p.1 p.2) cs).toArray := by
  intro parts
  induction parts with
  | nil => intro cs _ _; simp [Instr.fill]
  | cons p r ih =>
    intro cs hn h
    obtain ⟨i, v⟩ := p
    obtain ⟨h1, h2⟩ := h _ (List.mem_cons_self ..)
    simp only at h1 h2
    have hv : v.cells = #[v] := by cases v <;> simp_all [Value.cells, Value.oneCell']
    have hp : (((List.range n).map fun i => (i, 1)).toArray[i]?) = some (i, 1) := by simp [h1]
    have hlt : ¬ cs.length < i + 1 := by omega
    have := ih (cs.set i v) (by simpa using hn) (fun p hp => h p (List.mem_cons_of_mem _ hp))
    simp only [Instr.fill, hp, hv]
    simpa [hlt] using this
theorem Still.build {t : TypeId} {n : Nat} {zs : List Value} {parts : List (Nat × Operand)} {vs cs : List Value} (hs : StT P t n zs) (hz : zs.length = n) (hp : (parts.map (·.1)).all (Nat.blt · n) = true) (hx : (evs l (parts.map (·.2))) = some vs) (h1 : ∀ v ∈ vs, v.oneCell' = true) (hv : ((parts.map (·.1)).zip vs).foldl (fun cs p => cs.set p.1 p.2) zs = cs) : Still P N l ⟨some d, .build t parts.toArray, ty, pos, after, g⟩ (.agg cs.toArray) w := fun a ha => by
    have e : (parts.toArray.map fun (i, x) => (i, a.eval x)) = ((parts.map (·.1)).zip vs).toArray := by
      rw [← ha.evs hx]
      simp [List.zip_map', List.map_map]
    have hb : ∀ p ∈ (parts.map (·.1)).zip vs, p.1 < n ∧ p.2.oneCell' = true := by
      rintro ⟨i, v⟩ hm
      have hm1 := (List.of_mem_zip hm).1
      have hm2 := (List.of_mem_zip hm).2
      exact ⟨Nat.lt_of_lt_of_le (Nat.lt_succ_self _) (Nat.le_of_ble_eq_true (List.all_eq_true.1 hp _ hm1)), h1 _ hm2⟩
    have hf := fill_ones n ((parts.map (·.1)).zip vs) zs hz hb
    rw [hv] at hf
    have hr := hs ((parts.map (·.1)).zip vs).toArray w
    rw [List.toList_toArray, hf] at hr
    simp only [execOp]
    rw [e]
    simp [hr]
theorem Sq.build {t : TypeId} {n : Nat} {zs : List Value} {parts : List (Nat × Operand)} {vs cs : List Value} (hs : StT P t n zs) (hz : zs.length = n) (hp : (parts.map (·.1)).all (Nat.blt · n) = true) (hg : On ops l g) (hN : Nat.blt d N = true) (hx : (evs l (parts.map (·.2))) = some vs) (h1 : ∀ v ∈ vs, v.oneCell' = true) (hv : ((parts.map (·.1)).zip vs).foldl (fun cs p => cs.set p.1 p.2) zs = cs) (h : Sq P N ops Q rest ((d, .agg cs.toArray) :: l) w) : Sq P N ops Q (⟨some d, .build t parts.toArray, ty, pos, after, g⟩ :: rest) l w := .val hg rfl hN (Still.build hs hz hp hx h1 hv) h
end ops
def Ints (w : World) (e : TypeId) (v : Value) (xs : List Int) : Prop := Row w e v (xs.map (Value.int .i64))
def Bools (w : World) (e : TypeId) (v : Value) (xs : List Bool) : Prop := Row w e v (xs.map Value.bool)
def Strs (w : World) (e : TypeId) (v : Value) (xs : List ByteArray) : Prop := Row w e v (xs.map Value.string)
def Bytes (w : World) (e : TypeId) (v : Value) (xs : List UInt8) : Prop := Row w e v (xs.map fun b => Value.int .u8 b.toNat)
def Rows (w : World) (e e' : TypeId) (v : Value) (xss : List (List Int)) : Prop :=
  ∃ rs, Row w e v rs ∧ rs.length = xss.length ∧ ∀ i r, rs[i]? = some r → Ints w e' r (xss.getD i [])
section
variable {w w' : World} {e e' : TypeId} {v : Value}
theorem Ints.ext {xs : List Int} (h : Ints w e v xs) (x : Ext w w') : Ints w' e v xs := Row.ext h x
theorem Bools.ext {xs : List Bool} (h : Bools w e v xs) (x : Ext w w') : Bools w' e v xs := Row.ext h x
theorem Strs.ext {xs : List ByteArray} (h : Strs w e v xs) (x : Ext w w') : Strs w' e v xs := Row.ext h x
theorem Bytes.ext {xs : List UInt8} (h : Bytes w e v xs) (x : Ext w w') : Bytes w' e v xs := Row.ext h x
theorem Rows.ext {xss : List (List Int)} (h : Rows w e e' v xss) (x : Ext w w') : Rows w' e e' v xss := by
  obtain ⟨rs, h1, h2, h3⟩ := h
  exact ⟨rs, h1.ext x, h2, fun i r hr => (h3 i r hr).ext x⟩
theorem Row.stored {vs : List Value} (h : Row w e v vs) {g : Nat} {t : TypeId} {cs : List Value} (hg : w.grownBy w' (some g)) (hb : Blk w g t cs) (hne : t ≠ e) : Row w' e v vs := h.grown hg hb hne
theorem Ints.stored {xs : List Int} (h : Ints w e v xs) {g : Nat} {t : TypeId} {cs : List Value} (hg : w.grownBy w' (some g)) (hb : Blk w g t cs) (hne : t ≠ e) : Ints w' e v xs := Row.grown h hg hb hne
theorem Bools.stored {xs : List Bool} (h : Bools w e v xs) {g : Nat} {t : TypeId} {cs : List Value} (hg : w.grownBy w' (some g)) (hb : Blk w g t cs) (hne : t ≠ e) : Bools w' e v xs := Row.grown h hg hb hne
theorem Strs.stored {xs : List ByteArray} (h : Strs w e v xs) {g : Nat} {t : TypeId} {cs : List Value} (hg : w.grownBy w' (some g)) (hb : Blk w g t cs) (hne : t ≠ e) : Strs w' e v xs := Row.grown h hg hb hne
theorem Bytes.stored {xs : List UInt8} (h : Bytes w e v xs) {g : Nat} {t : TypeId} {cs : List Value} (hg : w.grownBy w' (some g)) (hb : Blk w g t cs) (hne : t ≠ e) : Bytes w' e v xs := Row.grown h hg hb hne
theorem Rows.stored {xss : List (List Int)} (h : Rows w e e' v xss) {g : Nat} {t : TypeId} {cs : List Value} (hg : w.grownBy w' (some g)) (hb : Blk w g t cs) (hne : t ≠ e) (hne' : t ≠ e') : Rows w' e e' v xss := by
  obtain ⟨rs, h1, h2, h3⟩ := h
  exact ⟨rs, h1.grown hg hb hne, h2, fun i r hr => (h3 i r hr).stored hg hb hne'⟩
theorem Own.stored {B : Nat} {vs : List Value} (h : Own w B e v vs) {g : Nat} {t : TypeId} {cs : List Value} (hg : w.grownBy w' (some g)) (hb : Blk w g t cs) (hne : t ≠ e) : Own w' B e v vs := by
  rcases h.cases with ⟨rfl, rfl⟩ | ⟨g', cap, cs', rfl, hg', hb', h3, h4, h5, h6⟩
  · exact Own.nil _ _ _
  · exact Own.mk hg' (hb'.grown hg (fun x => hb.ne hb' hne (Option.some.inj x))) h3 h4 h5 h6
variable {B : Nat} {t : TypeId} {u : Value} {us : List Value}
theorem Ints.owned {xs : List Int} (h : Ints w e v xs) (ho : Own w B t u us) (hg : w.grownBy w' u.ownBlock) (hne : t ≠ e) : Ints w' e v xs := Row.owned h ho hg hne
theorem Bools.owned {xs : List Bool} (h : Bools w e v xs) (ho : Own w B t u us) (hg : w.grownBy w' u.ownBlock) (hne : t ≠ e) : Bools w' e v xs := Row.owned h ho hg hne
theorem Strs.owned {xs : List ByteArray} (h : Strs w e v xs) (ho : Own w B t u us) (hg : w.grownBy w' u.ownBlock) (hne : t ≠ e) : Strs w' e v xs := Row.owned h ho hg hne
theorem Bytes.owned {xs : List UInt8} (h : Bytes w e v xs) (ho : Own w B t u us) (hg : w.grownBy w' u.ownBlock) (hne : t ≠ e) : Bytes w' e v xs := Row.owned h ho hg hne
theorem Rows.owned {xss : List (List Int)} (h : Rows w e e' v xss) (ho : Own w B t u us) (hg : w.grownBy w' u.ownBlock) (hne : t ≠ e) (hne' : t ≠ e') : Rows w' e e' v xss := by
  obtain ⟨rs, h1, h2, h3⟩ := h
  exact ⟨rs, h1.owned ho hg hne, h2, fun i r hr => (h3 i r hr).owned ho hg hne'⟩
theorem Own.owned {B' : Nat} {vs : List Value} (h : Own w B' e v vs) (ho : Own w B t u us) (hg : w.grownBy w' u.ownBlock) (hne : t ≠ e) : Own w' B' e v vs := by
  rcases ho.cases with ⟨rfl, rfl⟩ | ⟨g, cap, cs, rfl, _, hb, _⟩
  · exact h.ext (Ext.of_grown hg)
  · exact h.stored hg hb hne
end
section ops
variable {P : Program} {N : Nat} {ops : Array Oper} {Q : Exit → Act → World → Prop} {rest : List Oper} {l : Slots} {w : World}
variable {d : Nat} {ty : TypeId} {pos : String} {after : Array Edge} {g : Option (Nat × Bool)}
theorem Sq.lenInts {t e : TypeId} {x : Operand} {v : Value} {xs : List Int} (hr : Ints w e v xs) (hg : On ops l g) (hN : Nat.blt d N = true) (ht : P.underlying t = some (.slice (P.elem t))) (hx : ev l x = some v)
    (h : Sq P N ops Q rest ((d, .int .i64 xs.length) :: l) w) : Sq P N ops Q (⟨some d, .call ⟨.builtin .len, #[x], #[t]⟩, ty, pos, after, g⟩ :: rest) l w := .lenRow hr hg hN ht hx (by simpa using h)
theorem Sq.lenBools {t e : TypeId} {x : Operand} {v : Value} {xs : List Bool} (hr : Bools w e v xs) (hg : On ops l g) (hN : Nat.blt d N = true) (ht : P.underlying t = some (.slice (P.elem t))) (hx : ev l x = some v)
    (h : Sq P N ops Q rest ((d, .int .i64 xs.length) :: l) w) : Sq P N ops Q (⟨some d, .call ⟨.builtin .len, #[x], #[t]⟩, ty, pos, after, g⟩ :: rest) l w := .lenRow hr hg hN ht hx (by simpa using h)
theorem Sq.lenStrs {t e : TypeId} {x : Operand} {v : Value} {xs : List ByteArray} (hr : Strs w e v xs) (hg : On ops l g) (hN : Nat.blt d N = true) (ht : P.underlying t = some (.slice (P.elem t))) (hx : ev l x = some v)
    (h : Sq P N ops Q rest ((d, .int .i64 xs.length) :: l) w) : Sq P N ops Q (⟨some d, .call ⟨.builtin .len, #[x], #[t]⟩, ty, pos, after, g⟩ :: rest) l w := .lenRow hr hg hN ht hx (by simpa using h)
theorem Sq.lenRows {t e e' : TypeId} {x : Operand} {v : Value} {xs : List (List Int)} (hr : Rows w e e' v xs) (hg : On ops l g) (hN : Nat.blt d N = true) (ht : P.underlying t = some (.slice (P.elem t))) (hx : ev l x = some v)
    (h : Sq P N ops Q rest ((d, .int .i64 xs.length) :: l) w) : Sq P N ops Q (⟨some d, .call ⟨.builtin .len, #[x], #[t]⟩, ty, pos, after, g⟩ :: rest) l w := by
  obtain ⟨rs, h1, h2, _⟩ := hr
  exact .lenRow h1 hg hN ht hx (by rw [h2]; exact h)
section
variable {t e lt : TypeId} {z : Value} {x ix : Operand} {v : Value} {k : IntKind} {i : Int} {d2 : Nat} {ty2 : TypeId} {pos2 : String} {after2 : Array Edge} {g2 : Option (Nat × Bool)}
theorem Sq.idxInts {xs : List Int} (hs : SlT P t e z) (h1 : One P lt) (hr : Ints w e v xs) (hg : On ops l g) (hN : Nat.blt d N = true) (hN2 : Nat.blt d2 N = true) (hd : look l d = none) (hg2 : On ops l g2) (hx : ev l x = some v) (hix : ev l ix = some (.int k i)) (hi : 0 ≤ i)
    (hlt : i.toNat < xs.length) (h : Sq P N ops Q rest ((d2, .int .i64 (xs.getD i.toNat 0)) :: l) w) :
    Sq P N ops Q (⟨some d, .indexAddr t x ix, ty, pos, after, g⟩ :: ⟨some d2, .load lt (.tmp d), ty2, pos2, after2, g2⟩ :: rest) l w :=
  .idx hs h1 hr hg hN hN2 hd hg2 hx hix hi (by simp [hlt]) h
theorem Sq.idxBools {xs : List Bool} (hs : SlT P t e z) (h1 : One P lt) (hr : Bools w e v xs) (hg : On ops l g) (hN : Nat.blt d N = true) (hN2 : Nat.blt d2 N = true) (hd : look l d = none) (hg2 : On ops l g2) (hx : ev l x = some v) (hix : ev l ix = some (.int k i)) (hi : 0 ≤ i)
    (hlt : i.toNat < xs.length) (h : Sq P N ops Q rest ((d2, .bool (xs.getD i.toNat false)) :: l) w) :
    Sq P N ops Q (⟨some d, .indexAddr t x ix, ty, pos, after, g⟩ :: ⟨some d2, .load lt (.tmp d), ty2, pos2, after2, g2⟩ :: rest) l w :=
  .idx hs h1 hr hg hN hN2 hd hg2 hx hix hi (by simp [hlt]) h
theorem Sq.idxStrs {xs : List ByteArray} (hs : SlT P t e z) (h1 : One P lt) (hr : Strs w e v xs) (hg : On ops l g) (hN : Nat.blt d N = true) (hN2 : Nat.blt d2 N = true) (hd : look l d = none) (hg2 : On ops l g2) (hx : ev l x = some v) (hix : ev l ix = some (.int k i)) (hi : 0 ≤ i)
    (hlt : i.toNat < xs.length) (h : Sq P N ops Q rest ((d2, .string (xs.getD i.toNat ByteArray.empty)) :: l) w) :
    Sq P N ops Q (⟨some d, .indexAddr t x ix, ty, pos, after, g⟩ :: ⟨some d2, .load lt (.tmp d), ty2, pos2, after2, g2⟩ :: rest) l w :=
  .idx hs h1 hr hg hN hN2 hd hg2 hx hix hi (by simp [hlt]) h
theorem Sq.idxRows {e' : TypeId} {xss : List (List Int)} (hs : SlT P t e z) (h1 : One P lt) (hr : Rows w e e' v xss) (hg : On ops l g) (hN : Nat.blt d N = true) (hN2 : Nat.blt d2 N = true) (hd : look l d = none) (hg2 : On ops l g2) (hx : ev l x = some v) (hix : ev l ix = some (.int k i)) (hi : 0 ≤ i)
    (hlt : i.toNat < xss.length) (h : ∀ r, Ints w e' r (xss.getD i.toNat []) → Sq P N ops Q rest ((d2, r) :: l) w) :
    Sq P N ops Q (⟨some d, .indexAddr t x ix, ty, pos, after, g⟩ :: ⟨some d2, .load lt (.tmp d), ty2, pos2, after2, g2⟩ :: rest) l w := by
  obtain ⟨rs, r1, r2, r3⟩ := hr
  have hl : i.toNat < rs.length := by omega
  exact .idx hs h1 r1 hg hN hN2 hd hg2 hx hix hi (List.getElem?_eq_getElem hl) (h _ (r3 _ _ (List.getElem?_eq_getElem hl)))
end
theorem Sq.lit {t e : TypeId} {z : Value} {parts : List (Nat × Operand)} {vs : List Value} {n : Nat} (hs : SlT P t e z) (hp : parts.map (·.1) = List.range n) (hn : Nat.ble n 1000 = true) (hg : On ops l g) (hN : Nat.blt d N = true)
    (hx : evs l (parts.map (·.2)) = some vs) (h1 : ∀ v ∈ vs, v.oneCell' = true)
    (h : ∀ b w', Ext w w' → w.heap.size ≤ b → (∀ B, B ≤ w.heap.size → Own w' B e (.slice (some ⟨b, 0, none⟩) vs.length vs.length) vs) → Blk w' b e vs → Sq P N ops Q rest ((d, .slice (some ⟨b, 0, none⟩) vs.length vs.length) :: l) w') :
    Sq P N ops Q (⟨some d, .buildSlice t n parts.toArray, ty, pos, after, g⟩ :: rest) l w := by
  have hlen : vs.length = n := by
    have h2 : parts.length = n := by have := congrArg List.length hp; simpa using this
    have key : ∀ (xs : List Operand) (vs : List Value), evs l xs = some vs → vs.length = xs.length := by
      intro xs
      induction xs with
      | nil => intro vs h; simp [evs] at h; simp [← h]
      | cons x r ih =>
        intro vs h
        simp only [evs] at h
        cases h3 : ev l x with
        | none => rw [h3] at h; simp at h
        | some v =>
          cases h4 : evs l r with
          | none => rw [h3, h4] at h; simp at h
          | some vs' => rw [h3, h4] at h; simp at h; subst h; simp [ih _ h4]
    have := key _ _ hx
    simpa [h2] using this
  subst hlen
  obtain ⟨i, hi, hz, hsz, hby⟩ := hs.info
  have hn' := Nat.le_of_ble_eq_true hn
  refine .val (w' := w.alloc (.cells vs.toArray e)) hg rfl hN (fun a ha => ?_) (h _ _ (Ext.alloc _ _) (Nat.le_refl _) (fun B hB => Own.mk hB (Blk.new _ _ _) (Nat.le_refl _) (by unfold maxLen; omega) rfl (by simp)) (Blk.new _ _ _))
  have e1 : (parts.toArray.map fun (i, x) => (i, a.eval x)) = ((List.range vs.length).zip vs).toArray := by
    rw [← hp, ← ha.evs hx]
    simp [List.zip_map', List.map_map]
  have hfill : ∀ (vs : List Value) (k : Nat) (cs : Array Value), (∀ v ∈ vs, v.oneCell' = true) → k + vs.length ≤ cs.size →
      ∃ cs', Instr.fill (fun i => some (i * 1, 1)) cs ((List.range' k vs.length).zip vs) = some cs' ∧ cs'.toList = cs.toList.take k ++ vs ++ cs.toList.drop (k + vs.length) := by
    intro vs
    induction vs with
    | nil => intro k cs _ _; exact ⟨cs, by simp [Instr.fill], by simp⟩
    | cons v r ih =>
      intro k cs h1 hk
      simp only [List.length_cons] at hk
      have hv : v.cells = #[v] := by
        have := h1 v (List.mem_cons_self ..)
        cases v <;> simp_all [Value.cells, Value.oneCell']
      obtain ⟨cs', f1, f2⟩ := ih (k + 1) (cs.setIfInBounds k v) (fun u hu => h1 u (List.mem_cons_of_mem _ hu)) (by simp; omega)
      refine ⟨cs', ?_, ?_⟩
      · have : ¬ cs.size < k + 1 := by omega
        simp only [List.length_cons, List.range'_succ, List.zip_cons_cons, Instr.fill, hv]
        simpa [this] using f1
      · rw [f2]
        have hlt : k < cs.toList.length := by simp; omega
        have h3 : (cs.toList.set k v).take (k + 1) = cs.toList.take k ++ [v] := by
          rw [List.take_succ_eq_append_getElem (by simpa using hlt)]
          simp [List.take_set_of_le (Nat.le_refl k)]
        have h4 : (cs.toList.set k v).drop (k + 1 + r.length) = cs.toList.drop (k + (r.length + 1)) := by
          rw [List.drop_set_of_lt (by omega)]
          congr 1
          omega
        simp only [Array.toList_setIfInBounds, h3, h4, List.length_cons]
        simp
  have hzc : z.cells = #[z] := by
    have := hs.one
    cases z <;> simp_all [Value.cells, Value.oneCell']
  obtain ⟨cs', f1, f2⟩ := hfill vs 0 (Array.replicate vs.length z) h1 (by simp)
  have f3 : cs' = vs.toArray := by
    have : cs'.toList = vs := by rw [f2]; simp
    rw [← this]
  subst f3
  have hlim : ¬ 16777216 < vs.length := by omega
  have hrow : (Array.range vs.length).map (fun i => (#[z] : Array Value)[i % 1]!) = Array.replicate vs.length z := by
    apply Array.ext
    · simp
    · intro i h1 h2
      have : i % 1 = 0 := Nat.mod_one i
      simp [this]
  have hrow2 : (Array.range vs.length).map (fun i => ([z] : List Value)[i % 1]?.getD default) = Array.replicate vs.length z := by
    apply Array.ext
    · simp
    · intro i h1 h2
      have : i % 1 = 0 := Nat.mod_one i
      simp [this]
  simp only [execOp]
  rw [e1]
  rw [List.range_eq_range']
  simp only [Nat.mul_one] at f1
  by_cases h0 : vs.length = 0
  · obtain rfl : vs = [] := List.eq_nil_of_length_eq_zero h0
    have hr0 : Array.map (fun _ : Nat => (default : Value)) (Array.range 0) = #[] := by apply Array.ext <;> simp
    simp [Instr.buildSlice, run_underlying hs.und, hs.sizeOf, newRow, Instr.fill, hr0]
  · simp [Instr.buildSlice, run_underlying hs.und, hs.sizeOf, newRow, zeroValue, typeInfo, hi, hz, hzc, hlim, h0, hrow2, f1]
theorem Sq.app1 {t e : TypeId} {z : Value} {s x : Operand} {v u : Value} {vs : List Value} {B d2 : Nat} {ty2 : TypeId} {pos2 : String} {after2 : Array Edge} {g2 : Option (Nat × Bool)}
    (hs : SlT P t e z) (ho : Own w B e v vs) (hB : B ≤ w.heap.size) (hlen : vs.length < 1073741824) (hg : On ops l g) (hN : Nat.blt d N = true) (hN2 : Nat.blt d2 N = true) (hg2 : g2 = none) (hsv : ev ((d, undef) :: l) s = some v) (hd : look l d = none) (hxv : ev l x = some u) (h1 : u.oneCell' = true)
    (h : ∀ v' w', Own w' B e v' (vs ++ [u]) → w.grownBy w' v.ownBlock → v' ≠ .slice none 0 0 → Sq P N ops Q rest ((d2, v') :: l) w') :
    Sq P N ops Q (⟨some d, .buildSlice t 1 #[(0, x)], ty, pos, after, g⟩ :: ⟨some d2, .call ⟨.builtin .append, #[s, .tmp d], #[t, t]⟩, ty2, pos2, after2, g2⟩ :: rest) l w := by
  subst hg2
  refine Sq.lit (parts := [(0, x)]) (vs := [u]) (n := 1) hs rfl rfl hg hN (by simp [evs, hxv]) (by simpa using h1) fun b w1 x1 hb1 hown1 hblk1 => ?_
  intro a ha
  obtain ⟨i, hi, hz, hsz, hby⟩ := hs.info
  have hzc : z.cells.size = 1 := by
    have := hs.one
    cases z <;> simp_all [Value.cells, Value.oneCell']
  have ho1 : Own w1 B e v vs := ho.ext x1
  have hev : a.eval s = v := by
    cases s with
    | tmp t' =>
      simp only [ev, look] at hsv
      cases hb : Nat.beq d t' with
      | true => rw [hb] at hsv; simp at hsv; subst hsv; rcases ho.cases with ⟨h, _⟩ | ⟨_, _, _, h, _⟩ <;> simp [undef] at h
      | false => exact ha.slot t' v (by simp only [look, hb]; rw [hb] at hsv; exact hsv)
    | const c => simpa [ev, Act.eval] using hsv
    | global c => simpa [ev, Act.eval] using hsv
    | func c => simpa [ev, Act.eval] using hsv
  have hx2 : a.eval (.tmp d) = .slice (some ⟨b, 0, none⟩) 1 1 := ha.slot d _ (by simp [look])
  refine wpList_append_own w1 (P := P) rfl s (.tmp d) t rfl B e i z 1 i.bytes hs.und hi hz hsz rfl hzc (by omega) v vs.length vs hev ho1 ⟨b, 0, none⟩ 1 1 [u] hx2 rfl ?_ (by simpa using h1)
    (by unfold maxLen; omega) ?_ (Nat.le_trans hB x1.size) fun v' w' r1 r2 r3 => ?_
  · intro j u' hj
    rw [addr_add, hblk1.cell]
    simpa using hj
  · have : (vs.length + 1) * i.bytes ≤ 1073741824 * 64 := Nat.mul_le_mul (by omega) hby
    omega
  · have hgr : w.grownBy w' v.ownBlock := grown_trans (x1.to_grown _) r2
    have ho' : Own w' B e v' (vs ++ [u]) := by unfold Own; simpa using r1
    have hnn : v' ≠ .slice none 0 0 := fun hc => by simpa using r3.1 hc
    refine h v' w' ho' hgr hnn _ ?_
    · refine ⟨by simp [Act.put, ha.size], ha.defers, fun t u' hu => ?_⟩
      have hst : St N l a := ⟨ha.size, ha.defers, fun t' v'' hv'' => ha.slot t' v'' (by
        have : Nat.beq d t' = false := by
          cases hb : Nat.beq d t' with
          | false => rfl
          | true => obtain rfl := Nat.eq_of_beq_eq_true hb; rw [hd] at hv''; cases hv''
        simp [look, this, hv''])⟩
      exact (hst.put hN2).slot t u' hu
end ops
theorem Eq.retCell2 {P : Program} {fn : Func} {N t t' b n : Nat} {ty u : TypeId} {l : Slots} {w : World} {cs : List Value} {v' : Value} {R : Value → World → Prop} (hr : fn.results = #[.cell t ty, .tmp t']) (hv : look l t = some (.pointer (some ⟨b, 0, none⟩))) (h1 : Agg P ty n) (hb : Blk w b u cs) (hn : cs.length = n) (hv' : look l t' = some v') (h : R (.tuple #[.agg cs.toArray, v']) w) :
    Eq N (bodyPost P fn fun e w' => ∃ v, e = .returned v ∧ R v w') .ret l w := fun a ha => by
  have hl : (loadCells ⟨b, 0, none⟩ n).run P w = .ok cs.toArray w := by
    rw [← hn]
    refine run_loadCells_list _ _ _ fun j v hv => ?_
    rw [addr_add, hb.cell]
    simpa using hv
  have hs := ha.slot _ _ hv
  have hs' := ha.slot _ _ hv'
  refine bodyPost_ret (v := .tuple #[.agg cs.toArray, v']) ?_ ha.defers ⟨_, rfl, h⟩
  simp only [results, hr]
  simp only [Array.getD_eq_getD_getElem?] at hs hs'
  simp [hs, hs', asAddr, loadVar, h1.agg, h1.size, hl]
theorem Eq.ret0 {P : Program} {fn : Func} {N : Nat} {l : Slots} {w : World} {R : Value → World → Prop} (hr : fn.results = #[]) (h : R (.tuple #[]) w) :
    Eq N (bodyPost P fn fun e w' => ∃ v, e = .returned v ∧ R v w') .ret l w := fun _ ha => bodyPost_ret (results_none hr _ _ _) ha.defers ⟨_, rfl, h⟩
theorem Eq.fall0 {P : Program} {fn : Func} {N : Nat} {l : Slots} {w : World} {R : Value → World → Prop} (hr : fn.results = #[]) (h : R (.tuple #[]) w) :
    Eq N (bodyPost P fn fun e w' => ∃ v, e = .returned v ∧ R v w') .normal l w := fun _ ha => bodyPost_end (results_none hr _ _ _) ha.defers ⟨_, rfl, h⟩
end Go.Proofs.YtnckpafknojdhaaDoor
set_option linter.unusedSimpArgs false
set_option linter.unusedVariables false
namespace Go.Proofs.YtnckpafknojdhaaDoor
open Go.RowKit
section
variable {P : Program} {ops : Array Oper} {Q : Exit → Act → World → Prop}
def wpAnyG (P : Program) (ops : Array Oper) (Q : Exit → Act → World → Prop) (S : World → Prop) (k : Nat) : Nat → Array Bool → Act → World → Prop
  | 0, listed, a, w => Region.ready .any ops listed = [] ∧ Q .normal a w
  | fuel + 1, listed, a, w =>
    (Region.ready .any ops listed = [] → Q .normal a w) ∧
    ∀ i ∈ Region.ready .any ops listed, wpOp P ops Q i (fun a' w' => (i < k → S w') ∧ wpAnyG P ops Q S k fuel (listed.setIfInBounds i true) a' w') a w
theorem wpAny_of_G {S : World → Prop} {k : Nat} : ∀ (fuel : Nat) (listed : Array Bool) (a : Act) (w : World), wpAnyG P ops Q S k fuel listed a w → wpAny P .any ops Q fuel listed a w
  | 0, _, _, _, h => h
  | fuel + 1, _, _, _, h => ⟨h.1, fun i hi => wpOp_mono (fun a' w' h' => wpAny_of_G fuel _ a' w' h'.2) (h.2 i hi)⟩
def lateB (ops : Array Oper) (k i : Nat) : Bool := (List.range ops.size).all fun j => Nat.blt j k || match ops[j]? with
  | some o => o.after.any fun e => Region.binds .any e && e.on == i
  | none => true
theorem late_waits {k i j : Nat} {o : Oper} {listed : Array Bool} (h : lateB ops k i = true) (ho : ops[j]? = some o) (hj : j ∈ Region.ready .any ops listed) (hi : listed.getD i false = false) : j < k := by
  have hlt : j < ops.size := (Array.getElem?_eq_some_iff.1 ho).1
  simp only [lateB, List.all_eq_true, List.mem_range] at h
  have h1 := h j hlt
  simp only [ho, Bool.or_eq_true] at h1
  rcases h1 with h1 | h1
  · exact Nat.lt_of_lt_of_le (Nat.lt_succ_self j) (Nat.le_of_ble_eq_true h1)
  · obtain ⟨e, he, hb⟩ := Array.any_eq_true'.1 h1
    simp only [Bool.and_eq_true, beq_iff_eq] at hb
    obtain ⟨_, o', ho', hall⟩ := mem_ready.1 hj
    rw [ho] at ho'
    obtain rfl := Option.some.inj ho'
    have := hall e he hb.1
    rw [hb.2, hi] at this
    cases this
theorem ready_not_listed {i : Nat} {listed : Array Bool} (h : i ∈ Region.ready .any ops listed) : listed.getD i false = false := by
  have h0 := (mem_ready.1 h).1
  rcases Nat.lt_or_ge i listed.size with h' | h'
  · simp [h'] at h0 ⊢; exact h0
  · simp [Array.getElem?_eq_none h'] at h0
theorem wpAnyG_first {S : World → Prop} {k i : Nat} {oi : Oper} {v : Value} (hi : ops[i]? = some oi) (hik : i < k) (hl : lateB ops k i = true) (hsel : ∀ (j : Nat) (o : Oper) cs b, ops[j]? = some o → o.op ≠ .select cs b)
    (hQ : ∀ c a w, Q (.panic c) (a.put oi.dst v) w → Q (.panic c) a w) :
    ∀ (fuel : Nat) (listed : Array Bool) (a : Act) (w : World),
      (∀ j oj, ops[j]? = some oj → j ≠ i → listed.getD j true = false → (∀ e ∈ oj.after, Region.binds .any e = true → e.on ≠ i) → oi.apart ops oj = true) →
      i ∈ Region.ready .any ops listed → YieldsIf P ops S oi v a → S w →
      wpAnyG P ops Q S k fuel (listed.setIfInBounds i true) (a.put oi.dst v) w → wpAnyG P ops Q S k (fuel + 1) listed a w := by
  intro fuel
  induction fuel with
  | zero =>
    intro listed a w _ hr hy hS H
    refine ⟨fun h => (by rw [h] at hr; cases hr), fun j hj => ?_⟩
    by_cases hji : j = i
    · subst hji; exact hy.wpOp hi hS ⟨fun _ => hS, H⟩
    · have := ready_mono hj hji
      rw [H.1] at this
      cases this
  | succ fuel ih =>
    intro listed a w hfree hr hy hS H
    refine ⟨fun h => (by rw [h] at hr; cases hr), fun j hj => ?_⟩
    by_cases hji : j = i
    · subst hji; exact hy.wpOp hi hS ⟨fun _ => hS, H⟩
    · have h1 := H.2 j (ready_mono hj hji)
      obtain ⟨hjun, oj, hoj, hall⟩ := mem_ready.1 hj
      have hun0 := ready_not_listed hr
      have hjk : j < k := late_waits hl hoj hj hun0
      have hnot : ∀ e ∈ oj.after, Region.binds .any e = true → e.on ≠ i := fun e he hb heq => by
        have h2 := hall e he hb
        rw [heq, hun0] at h2
        cases h2
      have h2 := wpOp_putIf hoj (hfree j oj hoj hji hjun hnot) (fun cs b => hsel i oi cs b hi) (fun cs b => hsel j oj cs b hoj) hQ hy h1
      have hfree' : ∀ m om, ops[m]? = some om → m ≠ i → (listed.setIfInBounds j true).getD m true = false →
          (∀ e ∈ om.after, Region.binds .any e = true → e.on ≠ i) → oi.apart ops om = true := fun m om hm hmi hun hno => by
        refine hfree m om hm hmi ?_ hno
        by_cases hjm : j = m
        · subst hjm; exact hjun
        · rw [getD_set_ne true hjm] at hun; exact hun
      refine wpOp_mono (fun a' w' h3 => ⟨h3.2.1, ih (listed.setIfInBounds j true) a' w' hfree' (ready_mono hr (Ne.symm hji)) h3.1 (h3.2.1 hjk) ?_⟩) h2
      rw [Array.setIfInBounds_comm _ _ hji]
      exact h3.2.2
end
section
variable {P : Program} {N : Nat} {ops : Array Oper} {Q : Exit → Act → World → Prop} {S : World → Prop} {k fuel : Nat} {listed : Array Bool} {l : Slots} {w : World}
def Gq (P : Program) (N : Nat) (ops : Array Oper) (Q : Exit → Act → World → Prop) (S : World → Prop) (k fuel : Nat) (listed : Array Bool) (l : Slots) (w : World) : Prop :=
  ∀ a, St N l a → wpAnyG P ops Q S k fuel listed a w
theorem Cq.draw {id : Nat} (k : Nat) (r : Option Nat) (hm : P.follows .mixedOrders = true) (h : ∀ w1, Ext w w1 → Gq P N ops Q (fun w' => w1.grownBy w' r) k ops.size (Array.replicate ops.size false) l w1) : Cq P N (.region id ops true) Q l w :=
  fun a ha => wp_region_any hm (wpAny_of_G _ _ _ _ (h _ ((Below.refl _ _).drew) a ha))
theorem Cq.drawS {id : Nat} (k : Nat) (S : World → Prop) (hm : P.follows .mixedOrders = true) (hS : S w) (h : ∀ w1, Ext w w1 → S w → Gq P N ops Q S k ops.size (Array.replicate ops.size false) l w1) : Cq P N (.region id ops true) Q l w :=
  fun a ha => wp_region_any hm (wpAny_of_G _ _ _ _ (h _ ((Below.refl _ _).drew) hS a ha))
def firstB (ops : Array Oper) (k : Nat) (listed : Array Bool) (i : Nat) : Bool :=
  Nat.blt i k && (lateB ops k i && (Region.noSelect ops && (Region.free .any ops listed i && (Region.ready .any ops listed).contains i)))
theorem Gq.st {o : Oper} {d : Nat} {v : Value} (i : Nat) (hi : ops[i]? = some o) (hf : firstB ops k listed i = true) (hd : o.dst = some d) (hg : On ops l o.guard) (hN : Nat.blt d N = true)
    (hQ : ∀ c a w, Q (.panic c) (a.put (some d) v) w → Q (.panic c) a w) (x : S w) (hy : ∀ w', S w' → Still P N l o v w') (h : Gq P N ops Q S k fuel (listed.setIfInBounds i true) ((d, v) :: l) w) :
    Gq P N ops Q S k (fuel + 1) listed l w := by
  intro a ha
  simp only [firstB, Bool.and_eq_true] at hf
  obtain ⟨h1, h2, h3, h4, h5⟩ := hf
  rw [← hd] at hQ
  refine wpAnyG_first hi (Nat.lt_of_lt_of_le (Nat.lt_succ_self i) (Nat.le_of_ble_eq_true h1)) h2 (Region.noSelect_spec h3) hQ fuel listed a w (Region.free_spec hi h4) (by simpa using h5)
    (.inl ⟨hg.wanted ha, fun w' hw' => hy w' hw' a ha⟩) x ?_
  rw [hd]
  exact h _ (ha.put hN)
theorem Gq.off {o o' : Oper} {j d d' : Nat} {b : Bool} (i : Nat) (hi : ops[i]? = some o) (hf : firstB ops k listed i = true) (hg : o.guard = some (j, b)) (ho : ops[j]? = some o') (hd : o'.dst = some d) (hv : look l d = some (.bool (!b)))
    (hd' : o.dst = some d') (hN : Nat.blt d' N = true) (hQ : ∀ c a w, Q (.panic c) (a.put (some d') undef) w → Q (.panic c) a w) (x : S w) (h : Gq P N ops Q S k fuel (listed.setIfInBounds i true) ((d', undef) :: l) w) :
    Gq P N ops Q S k (fuel + 1) listed l w := by
  intro a ha
  simp only [firstB, Bool.and_eq_true] at hf
  obtain ⟨h1, h2, h3, h4, h5⟩ := hf
  rw [← hd'] at hQ
  refine wpAnyG_first hi (Nat.lt_of_lt_of_le (Nat.lt_succ_self i) (Nat.le_of_ble_eq_true h1)) h2 (Region.noSelect_spec h3) hQ fuel listed a w (Region.free_spec hi h4) (by simpa using h5)
    (.inr ⟨by simp [Region.wanted, hg, yielded, ho, hd, ha.bool hv], rfl⟩) x ?_
  rw [hd']
  exact h _ (ha.put hN)
theorem Gq.offU {o o' : Oper} {j d d' : Nat} {b : Bool} (i : Nat) (hi : ops[i]? = some o) (hf : firstB ops k listed i = true) (hg : o.guard = some (j, b)) (ho : ops[j]? = some o') (hd : o'.dst = some d) (hv : look l d = some undef)
    (hd' : o.dst = some d') (hN : Nat.blt d' N = true) (hQ : ∀ c a w, Q (.panic c) (a.put (some d') undef) w → Q (.panic c) a w) (x : S w) (h : Gq P N ops Q S k fuel (listed.setIfInBounds i true) ((d', undef) :: l) w) :
    Gq P N ops Q S k (fuel + 1) listed l w := by
  intro a ha
  simp only [firstB, Bool.and_eq_true] at hf
  obtain ⟨h1, h2, h3, h4, h5⟩ := hf
  rw [← hd'] at hQ
  refine wpAnyG_first hi (Nat.lt_of_lt_of_le (Nat.lt_succ_self i) (Nat.le_of_ble_eq_true h1)) h2 (Region.noSelect_spec h3) hQ fuel listed a w (Region.free_spec hi h4) (by simpa using h5)
    (.inr ⟨by simp [not_wanted ha hg ho hd hv], rfl⟩) x ?_
  rw [hd']
  exact h _ (ha.put hN)
theorem Gq.isT {p : Prop} [Decidable p] {d : Nat} (hp : p) (h : Gq P N ops Q S k fuel listed ((d, .bool true) :: l) w) : Gq P N ops Q S k fuel listed ((d, .bool (decide p)) :: l) w := by rw [decide_eq_true hp]; exact h
theorem Gq.isF {p : Prop} [Decidable p] {d : Nat} (hp : ¬ p) (h : Gq P N ops Q S k fuel listed ((d, .bool false) :: l) w) : Gq P N ops Q S k fuel listed ((d, .bool (decide p)) :: l) w := by rw [decide_eq_false hp]; exact h
theorem Gq.part {p : Prop} [Decidable p] {d : Nat} (ht : p → Gq P N ops Q S k fuel listed ((d, .bool true) :: l) w) (hf : ¬ p → Gq P N ops Q S k fuel listed ((d, .bool false) :: l) w) : Gq P N ops Q S k fuel listed ((d, .bool (decide p)) :: l) w := by
  by_cases hp : p
  · rw [decide_eq_true hp]; exact ht hp
  · rw [decide_eq_false hp]; exact hf hp
theorem Gq.partB {b : Bool} {d : Nat} (ht : b = true → Gq P N ops Q S k fuel listed ((d, .bool true) :: l) w) (hf : b = false → Gq P N ops Q S k fuel listed ((d, .bool false) :: l) w) : Gq P N ops Q S k fuel listed ((d, .bool b) :: l) w := by
  cases b
  · exact hf rfl
  · exact ht rfl
def AfterG (P : Program) (ops : Array Oper) (Q : Exit → Act → World → Prop) (S : World → Prop) (k fuel i : Nat) (listed : Array Bool) : Exit → Act → World → Prop
  | .normal, a, w => (i < k → S w) ∧ wpAnyG P ops Q S k fuel (listed.setIfInBounds i true) a w
  | e, a, w => Q e a w
theorem wpOp_of_list {K : Act → World → Prop} {Q' : Exit → Act → World → Prop} {i : Nat} {o : Oper} {a : Act} {w : World} (hi : ops[i]? = some o) (hn : ∀ a w, Q' .normal a w = K a w) (hp : ∀ c a w, Q' (.panic c) a w = Q (.panic c) a w) (ho : ∀ a w, Q' .outgrown a w = Q .outgrown a w)
    (h : wpList P ops Q' [o] a w) : wpOp P ops Q i K a w := by
  unfold wpOp
  rw [hi]
  simp only [wpList] at h ⊢
  have hlet : LetsOut Q' → LetsOut Q := fun ⟨a, w, hq⟩ => ⟨a, w, by rw [← ho]; exact hq⟩
  split
  · rename_i hw
    rw [if_pos hw] at h
    refine h.imp (fun h => ?_) (fun ⟨x, y⟩ => ⟨x, hlet y⟩)
    unfold Oper.wp at *
    generalize (execOp a.eval o).run P w = r at *
    cases r with
    | ok n w' =>
      cases n <;> simp only [Oper.upon] at h ⊢
      case value u => rw [← hn]; exact h
      case skip => rw [← hn]; exact h
      case defer d => rw [← hn]; exact h
      case enter f args =>
        refine Calls.mono h fun e w'' he => ?_
        cases e with
        | returned u => exact cast (hn _ _) he
        | panicked c => exact cast (hp _ _ _) he
        | outgrown => exact hlet he
      case row row args => exact Rows.mono h fun u w'' he => by rw [← hn]; exact he
    | halt x w' =>
      cases x <;> simp only [Oper.upon] at h ⊢
      case panic u => rw [← hp]; exact h
  · rename_i hw
    rw [if_neg hw] at h
    rw [← hn]; exact h
theorem Gq.one {o : Oper} (i : Nat) (hi : ops[i]? = some o) (hr : (Region.ready .any ops listed == [i]) = true) (h : Sq P N ops (AfterG P ops Q S k fuel i listed) [o] l w) : Gq P N ops Q S k (fuel + 1) listed l w := by
  intro a ha
  have hr' : Region.ready .any ops listed = [i] := by simpa using hr
  refine ⟨fun h0 => absurd (hr' ▸ h0) (by simp), fun j hj => ?_⟩
  rw [hr'] at hj
  obtain rfl : j = i := by simpa using hj
  exact wpOp_of_list (Q' := AfterG P ops Q S k fuel _ listed) hi (fun _ _ => rfl) (fun _ _ _ => rfl) (fun _ _ => rfl) (h a ha)
theorem Eq.goes {i : Nat} (x : i < k → S w) (h : Gq P N ops Q S k fuel (listed.setIfInBounds i true) l w) : Eq N (AfterG P ops Q S k fuel i listed) .normal l w := fun a ha => ⟨x, h a ha⟩
theorem Gq.done (hr : (Region.ready .any ops listed == []) = true) (h : Eq N Q .normal l w) : Gq P N ops Q S k fuel listed l w := by
  intro a ha
  have hr' : Region.ready .any ops listed = [] := by simpa using hr
  cases fuel with
  | zero => exact ⟨hr', h a ha⟩
  | succ n => exact ⟨fun _ => h a ha, by rw [hr']; simp⟩
end
section
variable {P : Program} {N : Nat} {l : Slots} {w : World} {d : Nat} {ty : TypeId} {pos : String} {after : Array Edge} {g : Option (Nat × Bool)}
theorem Still.loadB {t u : TypeId} {b o : Nat} {x : Operand} {v : Value} {cs : List Value} (h1 : One P t) (hx : ev l x = some (.pointer (some ⟨b, o, none⟩))) (hb : Blk w b u cs) (hc : cs[o]? = some v) : Still P N l ⟨some d, .load t x, ty, pos, after, g⟩ v w :=
  Still.load h1 hx (by rw [hb.cell, hc])
theorem Still.loadA {t : TypeId} {p : Addr} {x : Operand} {v : Value} (h1 : One P t) (hx : ev l x = some (.pointer (some p))) (hc : w.cell? p = some v) : Still P N l ⟨some d, .load t x, ty, pos, after, g⟩ v w := fun a ha => by
  simp [execOp, ha.ev hx, Instr.loadAt, Instr.sureAddr, loadVar, h1.agg, hc]
theorem Still.lenRow {t e : TypeId} {x : Operand} {v : Value} {vs : List Value} (hr : Row w e v vs) (ht : P.underlying t = some (.slice (P.elem t))) (hx : ev l x = some v) : Still P N l ⟨some d, .call ⟨.builtin .len, #[x], #[t]⟩, ty, pos, after, g⟩ (.int .i64 vs.length) w := by
  obtain ⟨p, c, rfl⟩ := hr.shape
  exact Still.len ht hx
theorem Still.lenInts {t e : TypeId} {x : Operand} {v : Value} {xs : List Int} (hr : Ints w e v xs) (ht : P.underlying t = some (.slice (P.elem t))) (hx : ev l x = some v) : Still P N l ⟨some d, .call ⟨.builtin .len, #[x], #[t]⟩, ty, pos, after, g⟩ (.int .i64 xs.length) w := by
  have := Still.lenRow (N := N) (d := d) (ty := ty) (pos := pos) (after := after) (g := g) hr ht hx; simpa using this
theorem Still.lenBools {t e : TypeId} {x : Operand} {v : Value} {xs : List Bool} (hr : Bools w e v xs) (ht : P.underlying t = some (.slice (P.elem t))) (hx : ev l x = some v) : Still P N l ⟨some d, .call ⟨.builtin .len, #[x], #[t]⟩, ty, pos, after, g⟩ (.int .i64 xs.length) w := by
  have := Still.lenRow (N := N) (d := d) (ty := ty) (pos := pos) (after := after) (g := g) hr ht hx; simpa using this
theorem Still.lenStrs {t e : TypeId} {x : Operand} {v : Value} {xs : List ByteArray} (hr : Strs w e v xs) (ht : P.underlying t = some (.slice (P.elem t))) (hx : ev l x = some v) : Still P N l ⟨some d, .call ⟨.builtin .len, #[x], #[t]⟩, ty, pos, after, g⟩ (.int .i64 xs.length) w := by
  have := Still.lenRow (N := N) (d := d) (ty := ty) (pos := pos) (after := after) (g := g) hr ht hx; simpa using this
theorem Still.lenRows {t e e' : TypeId} {x : Operand} {v : Value} {xs : List (List Int)} (hr : Rows w e e' v xs) (ht : P.underlying t = some (.slice (P.elem t))) (hx : ev l x = some v) : Still P N l ⟨some d, .call ⟨.builtin .len, #[x], #[t]⟩, ty, pos, after, g⟩ (.int .i64 xs.length) w := by
  obtain ⟨rs, h1, h2, _⟩ := hr
  have := Still.lenRow (N := N) (d := d) (ty := ty) (pos := pos) (after := after) (g := g) h1 ht hx
  rw [h2] at this; exact this
def At (w : World) (e : TypeId) (v : Value) (i : Int) (p : Addr) (u : Value) : Prop := w.cell? p = some u ∧ (∃ b o c n, v = .slice (some ⟨b, o, none⟩) n c ∧ p = ⟨b, o + i.toNat, none⟩ ∧ 0 ≤ i ∧ i < n) ∧ ∃ cur fr, w.heap[p.block]? = some (.cells cur e fr)
theorem At.ext {w w' : World} {e : TypeId} {v : Value} {i : Int} {p : Addr} {u : Value} (h : At w e v i p u) (x : Ext w w') : At w' e v i p u := ⟨by
  have h1 := h.1
  have hb := World.block_lt_of_cell? w p h1
  rw [Below.cell x hb]; exact h1, h.2.1, by
  obtain ⟨cur, fr, h3⟩ := h.2.2
  exact ⟨cur, fr, x.heap h3⟩⟩
theorem At.owned {w w' : World} {B : Nat} {e t : TypeId} {v u' : Value} {us : List Value} {i : Int} {p : Addr} {u : Value} (h : At w e v i p u) (ho : Own w B t u' us) (hg : w.grownBy w' u'.ownBlock) (hne : t ≠ e) : At w' e v i p u := by
  obtain ⟨h1, h2, cur, fr, h3⟩ := h
  have hb : w'.heap[p.block]? = w.heap[p.block]? := by
    refine hg.block _ (lt_of_block h3) fun hc => ?_
    rcases ho.cases with ⟨rfl, _⟩ | ⟨g, cap, cs, rfl, _, hb, _⟩
    · cases hc
    · simp [Value.ownBlock] at hc
      subst hc
      simp only [Blk] at hb
      rw [hb] at h3
      simp at h3
      exact hne h3.2.1
  exact ⟨by rw [World.cell?_of_block hb]; exact h1, h2, cur, fr, by rw [hb]; exact h3⟩
theorem Row.at {e : TypeId} {v : Value} {vs : List Value} (h : Row w e v vs) {i : Int} (hi : 0 ≤ i) (hlt : i.toNat < vs.length) : ∃ p, At w e v i p (vs[i.toNat]) := by
  rcases h with ⟨rfl, _⟩ | ⟨b, o, c, cur, fr, rfl, hb, hc⟩
  · cases hlt
  · exact ⟨⟨b, o + i.toNat, none⟩, by simp [World.cell?, hb, hc _ _ (List.getElem?_eq_getElem hlt)], ⟨b, o, c, vs.length, rfl, rfl, hi, by omega⟩, cur, fr, hb⟩
theorem Ints.at {e : TypeId} {v : Value} {xs : List Int} (h : Ints w e v xs) {i : Int} (hi : 0 ≤ i) (hlt : i.toNat < xs.length) : ∃ p, At w e v i p (.int .i64 (xs.getD i.toNat 0)) := by
  obtain ⟨p, hp⟩ := Row.at h hi (by simpa using hlt)
  exact ⟨p, by simpa [hlt] using hp⟩
theorem Bools.at {e : TypeId} {v : Value} {xs : List Bool} (h : Bools w e v xs) {i : Int} (hi : 0 ≤ i) (hlt : i.toNat < xs.length) : ∃ p, At w e v i p (.bool (xs.getD i.toNat false)) := by
  obtain ⟨p, hp⟩ := Row.at h hi (by simpa using hlt)
  exact ⟨p, by simpa [hlt] using hp⟩
theorem Strs.at {e : TypeId} {v : Value} {xs : List ByteArray} (h : Strs w e v xs) {i : Int} (hi : 0 ≤ i) (hlt : i.toNat < xs.length) : ∃ p, At w e v i p (.string (xs.getD i.toNat ByteArray.empty)) := by
  obtain ⟨p, hp⟩ := Row.at h hi (by simpa using hlt)
  exact ⟨p, by simpa [hlt] using hp⟩
theorem Bytes.at {e : TypeId} {v : Value} {xs : List UInt8} (h : Bytes w e v xs) {i : Int} (hi : 0 ≤ i) (hlt : i.toNat < xs.length) : ∃ p, At w e v i p (.int .u8 ((xs.getD i.toNat 0).toNat : Int)) := by
  obtain ⟨p, hp⟩ := Row.at h hi (by simpa using hlt)
  exact ⟨p, by simpa [hlt] using hp⟩
theorem Rows.at {e e' : TypeId} {v : Value} {xss : List (List Int)} (h : Rows w e e' v xss) {i : Int} (hi : 0 ≤ i) (hlt : i.toNat < xss.length) : ∃ p r, At w e v i p r ∧ Ints w e' r (xss.getD i.toNat []) := by
  obtain ⟨rs, r1, r2, r3⟩ := h
  have hl : i.toNat < rs.length := by omega
  obtain ⟨p, hp⟩ := r1.at hi hl
  exact ⟨p, _, hp, r3 _ _ (List.getElem?_eq_getElem hl)⟩
theorem Still.at {t e : TypeId} {z : Value} {x ix : Operand} {v u : Value} {i : Int} {k : IntKind} {p : Addr} (hs : SlT P t e z) (h : At w e v i p u) (hx : ev l x = some v) (hix : ev l ix = some (.int k i)) :
    Still P N l ⟨some d, .indexAddr t x ix, ty, pos, after, g⟩ (.pointer (some p)) w := fun a ha => by
  obtain ⟨_, ⟨b, o, c, n, rfl, rfl, h0, h1⟩, _⟩ := h
  have := run_indexAt_slice (P := P) (w := w) t ⟨b, o, none⟩ n c k i (by rw [hs.elem]; exact hs.und)
  rw [hs.elem, hs.sizeOf] at this
  simp [execOp, ha.ev hx, ha.ev hix, this, h0, h1, addr_add]
theorem Still.at' {t e0 e : TypeId} {z : Value} {x ix : Operand} {v u : Value} {i : Int} {k : IntKind} {p : Addr} {w0 : World} (hs : SlT P t e0 z) (h : At w0 e v i p u) (hx : ev l x = some v) (hix : ev l ix = some (.int k i)) :
    Still P N l ⟨some d, .indexAddr t x ix, ty, pos, after, g⟩ (.pointer (some p)) w := fun a ha => by
  obtain ⟨_, ⟨b, o, c, n, rfl, rfl, h0, h1⟩, _⟩ := h
  have := run_indexAt_slice (P := P) (w := w) t ⟨b, o, none⟩ n c k i (by rw [hs.elem]; exact hs.und)
  rw [hs.elem, hs.sizeOf] at this
  simp [execOp, ha.ev hx, ha.ev hix, this, h0, h1, addr_add]
end
section
variable {P : Program} {N : Nat} {ops : Array Oper} {Q : Exit → Act → World → Prop} {rest : List Oper} {l : Slots} {w : World}
variable {d : Nat} {ty : TypeId} {pos : String} {after : Array Edge} {g : Option (Nat × Bool)}
theorem Sq.app {t e : TypeId} {z : Value} {s x : Operand} {v xv : Value} {vs us : List Value} {B : Nat}
    (hs : SlT P t e z) (ho : Own w B e v vs) (hB : B ≤ w.heap.size) (hr : Row w e xv us) (hu : ∀ u ∈ us, u.oneCell' = true) (hlen : vs.length + us.length < 1073741824) (hg : On ops l g) (hg2 : g = none) (hN : Nat.blt d N = true) (hsv : ev l s = some v) (hxv : ev l x = some xv)
    (h : ∀ v' w', Own w' B e v' (vs ++ us) → w.grownBy w' v.ownBlock → Sq P N ops Q rest ((d, v') :: l) w') :
    Sq P N ops Q (⟨some d, .call ⟨.builtin .append, #[s, x], #[t, t]⟩, ty, pos, after, g⟩ :: rest) l w := by
  subst hg2
  intro a ha
  obtain ⟨i, hi, hz, hsz, hby⟩ := hs.info
  have hzc : z.cells.size = 1 := by
    have := hs.one
    cases z <;> simp_all [Value.cells, Value.oneCell']
  have hby' : (vs.length + us.length) * i.bytes ≤ 1073741824 * 64 := Nat.mul_le_mul (by omega) hby
  have fin : ∀ v' w', w'.ownsRow B e 1 v' (vs.length + us.length) (vs ++ us) → w.grownBy w' v.ownBlock → wpList P ops Q rest (a.put (some d) v') w' := fun v' w' r1 r2 =>
    h v' w' (by unfold Own; simpa using r1) r2 _ (ha.put hN)
  rcases hr with ⟨rfl, p, c, rfl, hpc⟩ | ⟨b, o, c, cur, fr, rfl, hb, hc⟩
  · cases p with
    | none =>
      obtain rfl := hpc rfl
      exact wpList_append_own_none (w := w) (P := P) rfl s x t rfl B e i 1 hs.und hi v vs.length vs (ha.ev hsv) ho (ha.ev hxv) (fin v w (by simpa [Own] using ho) (World.grownBy.refl _ _))
    | some p =>
      refine wpList_append_own w (P := P) rfl s x t rfl B e i z 1 i.bytes hs.und hi hz hsz rfl hzc (by omega) v vs.length vs (ha.ev hsv) ho p 0 c [] (ha.ev hxv) rfl (by simp) (by simp)
        (by unfold maxLen; omega) (by simp at hby' ⊢; omega) hB fun v' w' r1 r2 _ => fin v' w' (by simpa using r1) r2
  · refine wpList_append_own w (P := P) rfl s x t rfl B e i z 1 i.bytes hs.und hi hz hsz rfl hzc (by omega) v vs.length vs (ha.ev hsv) ho ⟨b, o, none⟩ us.length c us (ha.ev hxv) (by simp) ?_ hu
      (by unfold maxLen; omega) (by omega) hB fun v' w' r1 r2 _ => fin v' w' r1 r2
    intro j u hj
    rw [addr_add]
    simp [World.cell?, hb, hc j u hj]
end
end Go.Proofs.YtnckpafknojdhaaDoor
set_option linter.unusedSimpArgs false
set_option linter.unusedVariables false
namespace Go.Proofs.YtnckpafknojdhaaDoor
open Go.RowKit
def OwnRows (w : World) (B U : Nat) (e e' : TypeId) (v : Value) (xss : List (List Int)) : Prop :=
  ∃ rs, Own w B e v rs ∧ rs.length = xss.length ∧ (∀ i r, rs[i]? = some r → Own w B e' r ((xss.getD i []).map (Value.int .i64)) ∧ ∀ k, r.ownBlock = some k → k < U) ∧
    ∀ (i j : Nat) (r r' : Value), rs[i]? = some r → rs[j]? = some r' → i ≠ j → ∀ k, r.ownBlock = some k → r'.ownBlock ≠ some k
section
variable {w w' : World} {B U : Nat} {e e' : TypeId} {v : Value} {xss : List (List Int)}
theorem OwnRows.nil (w : World) (B U : Nat) (e e' : TypeId) : OwnRows w B U e e' (.slice none 0 0) [] := ⟨[], Own.nil _ _ _, rfl, by simp, by simp⟩
theorem OwnRows.rows (h : OwnRows w B U e e' v xss) : Rows w e e' v xss := by
  obtain ⟨rs, h1, h2, h3, _⟩ := h
  exact ⟨rs, h1.row, h2, fun i r hr => (h3 i r hr).1.row⟩
theorem OwnRows.ext (h : OwnRows w B U e e' v xss) (x : Ext w w') : OwnRows w' B U e e' v xss := by
  obtain ⟨rs, h1, h2, h3, h4⟩ := h
  exact ⟨rs, h1.ext x, h2, fun i r hr => ⟨(h3 i r hr).1.ext x, (h3 i r hr).2⟩, h4⟩
theorem OwnRows.up {U' : Nat} (h : OwnRows w B U e e' v xss) (hU : U ≤ U') : OwnRows w B U' e e' v xss := by
  obtain ⟨rs, h1, h2, h3, h4⟩ := h
  exact ⟨rs, h1, h2, fun i r hr => ⟨(h3 i r hr).1, fun k hk => Nat.lt_of_lt_of_le ((h3 i r hr).2 k hk) hU⟩, h4⟩
theorem OwnRows.mono {B' : Nat} (h : OwnRows w B U e e' v xss) (hB : B' ≤ B) : OwnRows w B' U e e' v xss := by
  obtain ⟨rs, h1, h2, h3, h4⟩ := h
  exact ⟨rs, h1.mono hB, h2, fun i r hr => ⟨(h3 i r hr).1.mono hB, (h3 i r hr).2⟩, h4⟩
theorem OwnRows.now (h : OwnRows w B U e e' v xss) : OwnRows w B w.heap.size e e' v xss := by
  obtain ⟨rs, h1, h2, h3, h4⟩ := h
  exact ⟨rs, h1, h2, fun i r hr => ⟨(h3 i r hr).1, fun k hk => ((h3 i r hr).1.lt k hk).2⟩, h4⟩
theorem OwnRows.owned {B' : Nat} {t : TypeId} {u : Value} {us : List Value} (h : OwnRows w B U e e' v xss) (ho : Own w B' t u us) (hg : w.grownBy w' u.ownBlock) (hne : t ≠ e) (hne' : t ≠ e') : OwnRows w' B U e e' v xss := by
  obtain ⟨rs, h1, h2, h3, h4⟩ := h
  exact ⟨rs, h1.owned ho hg hne, h2, fun i r hr => ⟨(h3 i r hr).1.owned ho hg hne', (h3 i r hr).2⟩, h4⟩
theorem OwnRows.stored {g : Nat} {t : TypeId} {cs : List Value} (h : OwnRows w B U e e' v xss) (hg : w.grownBy w' (some g)) (hb : Blk w g t cs) (hne : t ≠ e) (hne' : t ≠ e') : OwnRows w' B U e e' v xss := by
  obtain ⟨rs, h1, h2, h3, h4⟩ := h
  exact ⟨rs, h1.stored hg hb hne, h2, fun i r hr => ⟨(h3 i r hr).1.stored hg hb hne', (h3 i r hr).2⟩, h4⟩
theorem OwnRows.apart {B' : Nat} {u : Value} {us : List Value} (h : OwnRows w B U e e' v xss) (ho : Own w B' e' u us) (hg : w.grownBy w' u.ownBlock) (hB : U ≤ B') (hne : e' ≠ e) : OwnRows w' B U e e' v xss := by
  obtain ⟨rs, h1, h2, h3, h4⟩ := h
  refine ⟨rs, h1.owned ho hg hne, h2, fun i r hr => ⟨(h3 i r hr).1.grown hg (fun k hk hc => ?_), (h3 i r hr).2⟩, h4⟩
  have := (h3 i r hr).2 k hk
  have := (ho.lt k hc).1
  omega
theorem OwnRows.open (h : OwnRows w B U e e' v xss) (hne : e ≠ e') : ∃ rs, Own w B e v rs ∧ rs.length = xss.length ∧
    ∀ r xs w1 v' w', Ext w w1 → Own w1 U e' r (xs.map (Value.int .i64)) → B ≤ U → Own w' B e v' (rs ++ [r]) → w1.grownBy w' v.ownBlock → OwnRows w' B w'.heap.size e e' v' (xss ++ [xs]) := by
  obtain ⟨rs, h1, h2, h3, h4⟩ := h
  refine ⟨rs, h1, h2, fun r xs w1 v' w' x hr hBU hv hg => ?_⟩
  have hv1 := h1.ext x
  have hr' := hr.owned hv1 hg hne
  have hrow : ∀ i q, (rs ++ [r])[i]? = some q → (rs[i]? = some q ∧ i < rs.length) ∨ (i = rs.length ∧ q = r) := by
    intro i q hq
    rw [List.getElem?_append] at hq
    split at hq
    · exact .inl ⟨hq, by assumption⟩
    · right
      have : i - rs.length = 0 := by
        rcases Nat.eq_zero_or_pos (i - rs.length) with h | h
        · exact h
        · rw [List.getElem?_eq_none (by simp; omega)] at hq; cases hq
      rw [this] at hq
      simp at hq
      exact ⟨by omega, hq.symm⟩
  refine ⟨rs ++ [r], hv, by simp [h2], fun i q hq => ?_, fun i j q q' hq hq' hij k hk hk' => ?_⟩
  · rcases hrow i q hq with ⟨hq, hlt⟩ | ⟨rfl, rfl⟩
    · have e1 : (xss ++ [xs]).getD i [] = xss.getD i [] := by
        simp [List.getElem?_append, show i < xss.length by omega]
      rw [e1]
      have ho := ((h3 i q hq).1.ext x).owned hv1 hg hne
      exact ⟨ho, fun k hk => (ho.lt k hk).2⟩
    · have e1 : (xss ++ [xs]).getD rs.length [] = xs := by
        simp [List.getElem?_append, h2]
      rw [e1]
      exact ⟨hr'.mono hBU, fun k hk => (hr'.lt k hk).2⟩
  · rcases hrow i q hq with ⟨hq1, _⟩ | ⟨hi1, hq1⟩ <;> rcases hrow j q' hq' with ⟨hq2, _⟩ | ⟨hj1, hq2⟩
    · exact h4 i j q q' hq1 hq2 hij k hk hk'
    · have a1 := (h3 i q hq1).2 k hk
      have a2 := (hr.lt k (hq2 ▸ hk')).1
      omega
    · have a1 := (h3 j q' hq2).2 k hk'
      have a2 := (hr.lt k (hq1 ▸ hk)).1
      omega
    · exact hij (by omega)
theorem OwnRows.rowAt (h : OwnRows w B U e e' v xss) {i : Int} {p : Addr} {r : Value} (ha : At w e v i p r) : Own w B e' r ((xss.getD i.toNat []).map (Value.int .i64)) ∧ i.toNat < xss.length := by
  obtain ⟨rs, h1, h2, h3, h4⟩ := h
  obtain ⟨hc, ⟨b, o, c, n, rfl, rfl, h0, hn⟩, hty⟩ := ha
  rcases h1.cases with ⟨hv, _⟩ | ⟨g, cap, cs, hv, hB, hb, h5, h6, h7, h8⟩
  · simp at hv
  · simp only [Value.slice.injEq, Option.some.injEq, Addr.mk.injEq] at hv
    obtain ⟨⟨rfl, rfl, _⟩, rfl, rfl⟩ := hv
    rw [hb.cell] at hc
    have hlt : i.toNat < rs.length := by omega
    have : rs[i.toNat]? = some r := by
      rw [← h8, List.getElem?_take, if_pos hlt]
      simpa using hc
    exact ⟨(h3 _ _ this).1, by omega⟩
theorem OwnRows.set (h : OwnRows w B U e e' v xss) (hne : e' ≠ e) {i : Int} {p : Addr} {r : Value} (ha : At w e v i p r) {ys : List Int} (hr : Own w' B e' r (ys.map (Value.int .i64))) (hg : w.grownBy w' r.ownBlock) :
    OwnRows w' B U e e' v (xss.set i.toNat ys) ∧ At w' e v i p r := by
  have hold := (h.rowAt ha).1
  obtain ⟨rs, h1, h2, h3, h4⟩ := h
  have h1' := h1.owned hold hg hne
  have hcell : w'.cell? p = w.cell? p := by
    obtain ⟨hc, ⟨b, o, c, n, rfl, rfl, h0, hn⟩, hty⟩ := ha
    rcases h1.cases with ⟨hv, _⟩ | ⟨g, cap, cs, hv, hB, hb, h5, h6, h7, h8⟩
    · simp at hv
    · simp only [Value.slice.injEq, Option.some.injEq, Addr.mk.injEq] at hv
      obtain ⟨⟨rfl, rfl, _⟩, rfl, rfl⟩ := hv
      rw [hb.cell, (hb.owned hold hg hne).cell]
  have hrs : rs[i.toNat]? = some r := by
    obtain ⟨hc, ⟨b, o, c, n, rfl, rfl, h0, hn⟩, hty⟩ := ha
    rcases h1.cases with ⟨hv, _⟩ | ⟨g, cap, cs, hv, hB, hb, h5, h6, h7, h8⟩
    · simp at hv
    · simp only [Value.slice.injEq, Option.some.injEq, Addr.mk.injEq] at hv
      obtain ⟨⟨rfl, rfl, _⟩, rfl, rfl⟩ := hv
      rw [hb.cell] at hc
      have hlt : i.toNat < rs.length := by omega
      rw [← h8, List.getElem?_take, if_pos hlt]
      simpa using hc
  refine ⟨⟨rs, h1', by simp [h2], fun j q hq => ?_, h4⟩, At.owned ha hold hg hne⟩
  by_cases hj : i.toNat = j
  · subst hj
    rw [hrs] at hq
    obtain rfl := Option.some.inj hq
    have hlt : i.toNat < xss.length := by
      have := (List.getElem?_eq_some_iff.1 hrs).1
      omega
    have e1 : (xss.set i.toNat ys).getD i.toNat [] = ys := by simp [hlt]
    rw [e1]
    exact ⟨hr, (h3 _ _ hrs).2⟩
  · have e1 : (xss.set i.toNat ys).getD j [] = xss.getD j [] := by simp [List.getElem?_set_ne hj]
    rw [e1]
    exact ⟨(h3 j q hq).1.grown hg (fun k hk hc => h4 i.toNat j r q hrs hq hj k hc hk), (h3 j q hq).2⟩
end
theorem one_nil : ∀ v ∈ ([] : List Value), v.oneCell' = true := fun _ h => by cases h
theorem one_cons {v : Value} {l : List Value} (h : v.oneCell' = true) (hs : ∀ u ∈ l, u.oneCell' = true) : ∀ u ∈ v :: l, u.oneCell' = true := fun u hu => by
  rcases List.mem_cons.1 hu with rfl | hu
  · exact h
  · exact hs u hu
theorem Row.one {w : World} {e : TypeId} {v : Value} {vs : List Value} (h : Row w e v vs) : v.oneCell' = true := by
  obtain ⟨p, c, rfl⟩ := h.shape
  rfl
theorem Rows.one {w : World} {e e' : TypeId} {v : Value} {xss : List (List Int)} (h : Rows w e e' v xss) : v.oneCell' = true := by
  obtain ⟨rs, h1, _⟩ := h
  exact h1.one
def AtO (v : Value) (i : Int) (p : Addr) : Prop := ∃ g n c, v = .slice (some ⟨g, 0, none⟩) n c ∧ p = ⟨g, i.toNat, none⟩ ∧ 0 ≤ i ∧ i < (n : Nat)
theorem Own.at {w : World} {B : Nat} {e : TypeId} {v : Value} {vs : List Value} (h : Own w B e v vs) {i : Int} (hi : 0 ≤ i) (hlt : i.toNat < vs.length) : ∃ p, AtO v i p := by
  rcases h.cases with ⟨rfl, rfl⟩ | ⟨g, cap, cs, rfl, _⟩
  · cases hlt
  · exact ⟨⟨g, i.toNat, none⟩, g, vs.length, cap, rfl, rfl, hi, by omega⟩
theorem AtO.of {w : World} {B : Nat} {e : TypeId} {v u : Value} {vs : List Value} {i : Int} {p : Addr} (h : Own w B e v vs) (ha : At w e v i p u) : AtO v i p := by
  obtain ⟨hc, ⟨b, o, c, n, rfl, rfl, h0, hn⟩, hty⟩ := ha
  rcases h.cases with ⟨hv, _⟩ | ⟨g, cap, cs, hv, _⟩
  · simp at hv
  · simp only [Value.slice.injEq, Option.some.injEq, Addr.mk.injEq] at hv
    obtain ⟨⟨rfl, rfl, _⟩, rfl, rfl⟩ := hv
    exact ⟨_, _, _, rfl, by simp, h0, hn⟩
section
variable {P : Program} {N : Nat} {ops : Array Oper} {Q : Exit → Act → World → Prop} {rest : List Oper} {l : Slots} {w : World}
variable {d : Nat} {ty : TypeId} {pos : String} {after : Array Edge} {g : Option (Nat × Bool)}
theorem Still.atO {t e : TypeId} {z : Value} {x ix : Operand} {v : Value} {i : Int} {k : IntKind} {p : Addr} (hs : SlT P t e z) (h : AtO v i p) (hx : ev l x = some v) (hix : ev l ix = some (.int k i)) :
    Still P N l ⟨some d, .indexAddr t x ix, ty, pos, after, g⟩ (.pointer (some p)) w := fun a ha => by
  obtain ⟨b, n, c, rfl, rfl, h0, h1⟩ := h
  have := run_indexAt_slice (P := P) (w := w) t ⟨b, 0, none⟩ n c k i (by rw [hs.elem]; exact hs.und)
  rw [hs.elem, hs.sizeOf] at this
  simp [execOp, ha.ev hx, ha.ev hix, this, h0, h1, addr_add]
theorem Sq.atO {t e : TypeId} {z : Value} {x ix : Operand} {v : Value} {i : Int} {k : IntKind} {p : Addr} (hs : SlT P t e z) (h : AtO v i p) (hg : On ops l g) (hN : Nat.blt d N = true) (hx : ev l x = some v) (hix : ev l ix = some (.int k i))
    (hK : Sq P N ops Q rest ((d, .pointer (some p)) :: l) w) : Sq P N ops Q (⟨some d, .indexAddr t x ix, ty, pos, after, g⟩ :: rest) l w := .val hg rfl hN (Still.atO hs h hx hix) hK
theorem Own.set {B : Nat} {e : TypeId} {v : Value} {vs : List Value} (h : Own w B e v vs) {i : Int} {p : Addr} (hp : AtO v i p) (u : Value) : Own (w.setCell p u) B e v (vs.set i.toNat u) ∧ w.grownBy (w.setCell p u) v.ownBlock ∧ (∃ b, p = ⟨b, i.toNat, none⟩) ∧ (∃ v0, w.cell? p = some v0) ∧ w.frozen? p = false := by
  obtain ⟨b, n, c, rfl, rfl, h0, h1⟩ := hp
  rcases h.cases with ⟨h, _⟩ | ⟨g', cap, cs, hv, hB, hb, h3, h4, h5, h6⟩
  · simp at h
  · simp only [Value.slice.injEq, Option.some.injEq, Addr.mk.injEq] at hv
    obtain ⟨⟨rfl, _, _⟩, rfl, rfl⟩ := hv
    have hlt : i.toNat < cs.length := by omega
    refine ⟨?_, grown_setCell _ _ _ _, ⟨_, rfl⟩, ⟨cs[i.toNat], by rw [hb.cell, List.getElem?_eq_getElem hlt]⟩, hb.free _⟩
    have := Own.mk (vs := vs.set i.toNat u) hB (hb.set i.toNat u) (by simpa using h3) h4 (by simpa using h5) (by
      rw [List.take_set, List.length_set, h6])
    simpa using this
theorem Sq.storeO {t e : TypeId} {x y : Operand} {v u : Value} {vs : List Value} {B : Nat} {i : Int} {p : Addr} (h1 : One P t) (ho : Own w B e v vs) (hp : AtO v i p) (hg : On ops l g) (hx : ev l x = some (.pointer (some p))) (hy : ev l y = some u) (hu : u.oneCell' = true)
    (h : ∀ w', w.grownBy w' v.ownBlock → Own w' B e v (vs.set i.toNat u) → Sq P N ops Q rest l w') : Sq P N ops Q (⟨none, .store t x y, ty, pos, after, g⟩ :: rest) l w := by
  obtain ⟨k1, k2, ⟨b, rfl⟩, ⟨v0, k4⟩, k5⟩ := ho.set hp u
  refine .unit (w' := w.setCell _ u) hg rfl (fun a ha => ?_) (h _ k2 k1)
  have hc : u.cells = #[u] := by cases u <;> simp_all [Value.cells, Value.oneCell']
  simp [execOp, ha.ev hx, ha.ev hy, Instr.storeAt, Instr.sureAddr, storeVar, hc, h1.size, storeCells, addr_add, run_store _ _ _ _ _ hu, k4, k5]
theorem Sq.make {t e : TypeId} {z : Value} {x y : Operand} {n : Int} (hs : SlT P t e z) (hg : On ops l g) (hg2 : g = none) (hN : Nat.blt d N = true) (hx : ev l x = some (.int .i64 n)) (hy : ev l y = some (.int .i64 n)) (hn : 0 ≤ n ∧ n ≤ 1000000000)
    (h : ∀ b w', Ext w w' → w.heap.size ≤ b → (∀ B, B ≤ w.heap.size → Own w' B e (.slice (some ⟨b, 0, none⟩) n.toNat n.toNat) (List.replicate n.toNat z)) → Sq P N ops Q rest ((d, .slice (some ⟨b, 0, none⟩) n.toNat n.toNat) :: l) w') :
    Sq P N ops Q (⟨some d, .makeSlice t x y, ty, pos, after, g⟩ :: rest) l w := by
  subst hg2
  intro a ha
  obtain ⟨i, hi, hz, hsz, hby⟩ := hs.info
  have hzc : z.cells = #[z] := by
    have := hs.one
    cases z <;> simp_all [Value.cells, Value.oneCell']
  have hb : i.bytes * n.toNat ≤ 64 * 1000000000 := Nat.mul_le_mul hby (by omega)
  refine wpList_make_full w (P := P) rfl x y t rfl w.heap.size e i z 1 hs.und hi hz hsz .i64 .i64 n n n.toNat (ha.ev hx) (ha.ev hy) (by omega) (by omega) (by omega) (by unfold maxLen; omega) (Nat.le_refl _) fun w' r1 r2 => ?_
  rw [hzc, Nat.mul_one, toList_madeCells_one] at r1
  have hown : Own w' w.heap.size e (.slice (some ⟨w.heap.size, 0, none⟩) n.toNat n.toNat) (List.replicate n.toNat z) := by simpa [Own] using r1
  exact h _ w' (Ext.of_grown r2) (Nat.le_refl _) (fun B hB => hown.mono hB) _ (ha.put hN)
end
end Go.Proofs.YtnckpafknojdhaaDoor
set_option linter.unusedSimpArgs false
set_option linter.unusedVariables false
namespace Go.Proofs.YtnckpafknojdhaaDoor
open Go.RowKit
section
variable {P : Program} {N : Nat} {ops : Array Oper} {Q : Exit → Act → World → Prop} {rest : List Oper} {l : Slots} {w : World}
variable {d : Nat} {ty : TypeId} {pos : String} {after : Array Edge} {g : Option (Nat × Bool)}
theorem Still.sub8 {xt yt : TypeId} {x y : Operand} {m n : Int} (hx : ev l x = some (.int .u8 m)) (hy : ev l y = some (.int .u8 n)) (hb : 0 ≤ m - n ∧ m - n ≤ 255) : Still P N l ⟨some d, .binOp .sub xt x y yt, ty, pos, after, g⟩ (.int .u8 (m - n)) w := fun a ha => by
  have h6 : IntKind.u8.wrap (m - n) = m - n := by
    simp [IntKind.wrap, IntKind.bits, IntKind.signed]
    omega
  have h7 : eqGuard .sub xt x y (.int .u8 m) (.int .u8 n) = pure () := rfl
  have h8 : binOp .sub xt (.int .u8 m) (.int .u8 n) = pure (.int .u8 (IntKind.u8.wrap (m - n))) := rfl
  simp only [execOp, ha.ev hx, ha.ev hy, h7, h8, h6]
  simp
theorem Sq.sub8 {xt yt : TypeId} {x y : Operand} {m n : Int} (hg : On ops l g) (hN : Nat.blt d N = true) (hx : ev l x = some (.int .u8 m)) (hy : ev l y = some (.int .u8 n)) (hb : 0 ≤ m - n ∧ m - n ≤ 255) (h : Sq P N ops Q rest ((d, .int .u8 (m - n)) :: l) w) : Sq P N ops Q (⟨some d, .binOp .sub xt x y yt, ty, pos, after, g⟩ :: rest) l w := .val hg rfl hN (Still.sub8 hx hy hb) h
theorem Still.cutLH {t : TypeId} {x lo hi : Operand} {s : ByteArray} {m n : Int} (ht : P.underlying t = some .string) (hx : ev l x = some (.string s)) (hlo : ev l lo = some (.int .i64 m)) (hhi : ev l hi = some (.int .i64 n)) (hb : 0 ≤ m ∧ m ≤ n ∧ n ≤ (s.size : Int)) : Still P N l ⟨some d, .slice t x (some lo) (some hi) none, ty, pos, after, g⟩ (.string (s.extract m.toNat n.toNat)) w := fun a ha => by
  have h1 := run_sliceAt_string (P := P) w t (.string s) (some (.int .i64 m)) (some (.int .i64 n)) none ht
  have h2 := run_slice_string_if (P := P) w t s .i64 .i64 m n ht
  have h3 : 0 ≤ n ∧ n ≤ (s.size : Int) := by omega
  have h4 : 0 ≤ m ∧ m ≤ n := by omega
  rw [if_pos h3, if_pos h4] at h2
  simp [execOp, ha.ev hx, ha.ev hlo, ha.ev hhi, h1, h2]
theorem Still.cutL {t : TypeId} {x lo : Operand} {s : ByteArray} {m : Int} (ht : P.underlying t = some .string) (hx : ev l x = some (.string s)) (hlo : ev l lo = some (.int .i64 m)) (hb : 0 ≤ m ∧ m ≤ (s.size : Int)) : Still P N l ⟨some d, .slice t x (some lo) none none, ty, pos, after, g⟩ (.string (s.extract m.toNat s.size)) w := fun a ha => by
  have h1 := run_sliceAt_string (P := P) w t (.string s) (some (.int .i64 m)) none none ht
  have h2 := run_slice_string_l (P := P) w t s ht .i64 m hb.1 hb.2
  simp [execOp, ha.ev hx, ha.ev hlo, h1, h2]
theorem Still.cutH {t : TypeId} {x hi : Operand} {s : ByteArray} {n : Int} (ht : P.underlying t = some .string) (hx : ev l x = some (.string s)) (hhi : ev l hi = some (.int .i64 n)) (hb : 0 ≤ n ∧ n ≤ (s.size : Int)) : Still P N l ⟨some d, .slice t x none (some hi) none, ty, pos, after, g⟩ (.string (s.extract 0 n.toNat)) w := fun a ha => by
  have h1 := run_sliceAt_string (P := P) w t (.string s) none (some (.int .i64 n)) none ht
  have h2 := run_slice_string_h (P := P) w t s ht .i64 n hb.1 hb.2
  simp [execOp, ha.ev hx, ha.ev hhi, h1, h2]
theorem Still.text {s t e e' : TypeId} {x : Operand} {v : Value} {xs : List UInt8} (hs : P.underlying s = some (.slice e)) (he : P.underlying e = some (.int .u8)) (hd : P.underlying t = some .string) (hr : Row w e' v (xs.map fun b => Value.int .u8 (b.toNat : Int))) (hx : ev l x = some v) :
    Still P N l ⟨some d, .convert s t x, ty, pos, after, g⟩ (.string ⟨xs.toArray⟩) w := fun a ha => by
  rcases hr with ⟨h0, p, c, rfl, hpc⟩ | ⟨b, o, c, cur, fr, rfl, hb, hc⟩
  · obtain rfl : xs = [] := by simpa using h0
    cases p with
    | none =>
      have h1 := run_convert_bytes_string (P := P) w s t e none 0 c hs he hd
      simp [execOp, ha.ev hx, h1, Conv.bytesToString]
      rfl
    | some p =>
      have h1 := run_convert_bytes_back (P := P) w s t e p c [] hs he hd (by simp)
      simp only [List.length_nil] at h1
      simp [execOp, ha.ev hx, h1]
  · have h1 := run_convert_bytes_back (P := P) w s t e ⟨b, o, none⟩ c xs hs he hd (fun j hj => by
      rw [addr_add]
      have := hc j (.int .u8 (xs[j].toNat : Int)) (by simp [hj])
      simp [World.cell?, hb, this])
    have hx' := ha.ev hx
    rw [List.length_map] at hx'
    simp [execOp, hx', h1]
theorem u8_of {n : Int} (h : 0 ≤ n ∧ n ≤ 255) : ((UInt8.ofNat n.toNat).toNat : Int) = n := by
  rw [UInt8.toNat_ofNat']
  omega
theorem Still.text1 {s t e e' : TypeId} {x : Operand} {v : Value} {B : Nat} {n : Int} (hs : P.underlying s = some (.slice e)) (he : P.underlying e = some (.int .u8)) (hd : P.underlying t = some .string) (hr : Own w B e' v [Value.int .u8 n]) (hn : 0 ≤ n ∧ n ≤ 255) (hx : ev l x = some v) :
    Still P N l ⟨some d, .convert s t x, ty, pos, after, g⟩ (.string ⟨#[UInt8.ofNat n.toNat]⟩) w :=
  Still.text (xs := [UInt8.ofNat n.toNat]) hs he hd (by
    have := hr.row
    rw [List.map_cons, u8_of hn]
    exact this) hx
end
theorem str_at {s : ByteArray} {k : Nat} (h : k < s.size) : s.data.toList[k]? = some (s.data.toList.getD k 0) := by
  have : k < s.data.toList.length := by simpa using h
  rw [List.getD_eq_getElem?_getD, List.getElem?_eq_getElem this]
  rfl
theorem size_cat (s t : ByteArray) : (s ++ t).size = s.size + t.size := by simp
theorem size_cut (s : ByteArray) {m n : Nat} : (s.extract m n).size ≤ s.size := by simp; omega
theorem pow_step {n d : Int} {k : Nat} (h : 0 ≤ n ∧ n < 10 ^ k) (hd : 0 ≤ d ∧ d ≤ 9) : 0 ≤ n * 10 + d ∧ n * 10 + d < 10 ^ (k + 1) := by
  rw [Int.pow_succ]
  generalize (10 : Int) ^ k = q at *
  omega
theorem pow_small {k : Nat} (h : k ≤ 17) : (10 : Int) ^ k ≤ 100000000000000000 := by
  have h1 : (10 : Nat) ^ k ≤ 10 ^ 17 := Nat.pow_le_pow_right (by decide) h
  have h2 : (((10 : Nat) ^ k : Nat) : Int) ≤ ((10 ^ 17 : Nat) : Int) := Int.ofNat_le.2 h1
  rw [Int.natCast_pow] at h2
  exact h2
end Go.Proofs.YtnckpafknojdhaaDoor
set_option linter.unusedSimpArgs false
set_option linter.unusedVariables false
namespace Go.Proofs.YtnckpafknojdhaaDoor
open Go.RowKit
section
variable {P : Program} {N : Nat} {ops : Array Oper} {Q : Exit → Act → World → Prop} {rest : List Oper} {l : Slots} {w : World}
variable {d : Nat} {ty : TypeId} {pos : String} {after : Array Edge} {g : Option (Nat × Bool)}
theorem Still.makeFunc {k : FuncId} {xs : List Operand} {vs : List Value} (hx : evs l xs = some vs) : Still P N l ⟨some d, .makeFunc (.func k) #[] xs.toArray, ty, pos, after, g⟩ (.func (.func k) #[] vs.toArray) w := fun a ha => by
  have : xs.toArray.map a.eval = vs.toArray := by rw [List.map_toArray, ha.evs hx]
  simp [execOp, Instr.makeFunc, this, ha.evs hx]
theorem Sq.makeFunc {k : FuncId} {xs : List Operand} {vs : List Value} (hg : On ops l g) (hN : Nat.blt d N = true) (hx : evs l xs = some vs) (h : Sq P N ops Q rest ((d, .func (.func k) #[] vs.toArray) :: l) w) :
    Sq P N ops Q (⟨some d, .makeFunc (.func k) #[] xs.toArray, ty, pos, after, g⟩ :: rest) l w := .val hg rfl hN (Still.makeFunc hx) h
def MapN {κ : Type} (enc : κ → Value) (w : World) (b : Nat) (xs : List κ) : Prop := ∃ es clock, w.heap[b]? = some (.map es clock) ∧ es.toList.map (fun e => (e.key, e.val)) = xs.zipIdx.map fun p => (enc p.1, Value.int .i64 (p.2 : Int))
variable {κ : Type} {enc : κ → Value} {w' : World} {b : Nat} {xs : List κ}
theorem MapN.lt (h : MapN enc w b xs) : b < w.heap.size := by
  obtain ⟨es, c, hb, _⟩ := h
  exact (Array.getElem?_eq_some_iff.1 hb).1
theorem MapN.ext (h : MapN enc w b xs) (x : Ext w w') : MapN enc w' b xs := by
  obtain ⟨es, c, hb, hx⟩ := h
  exact ⟨es, c, x.heap hb, hx⟩
theorem MapN.grown {r : Option Nat} (h : MapN enc w b xs) (hg : w.grownBy w' r) (hr : r ≠ some b) : MapN enc w' b xs := by
  obtain ⟨es, c, hb, hx⟩ := h
  exact ⟨es, c, by rw [hg.block b (Array.getElem?_eq_some_iff.1 hb).1 (fun e => hr e.symm)]; exact hb, hx⟩
theorem MapN.stored {gb : Nat} {t : TypeId} {cs : List Value} (h : MapN enc w b xs) (hg : w.grownBy w' (some gb)) (hb : Blk w gb t cs) : MapN enc w' b xs := by
  refine h.grown hg (fun e => ?_)
  injection e with e
  subst e
  obtain ⟨es, c, hb', _⟩ := h
  simp only [Blk] at hb
  rw [hb] at hb'
  cases hb'
theorem MapN.owned {B : Nat} {t : TypeId} {u : Value} {us : List Value} (h : MapN enc w b xs) (ho : Own w B t u us) (hg : w.grownBy w' u.ownBlock) : MapN enc w' b xs := by
  rcases ho.cases with ⟨rfl, rfl⟩ | ⟨gb, cap, cs, rfl, hg', hb, _⟩
  · exact h.ext (Ext.of_grown hg)
  · exact h.stored (gb := gb) hg hb
structure KeyT [DecidableEq κ] (P : Program) (t : TypeId) (enc : κ → Value) : Prop where
  types : ∃ kt et kd, P.underlying t = some (.map kt et) ∧ P.underlying kt = some kd ∧ (∀ x y, Instr.sameNow kd (enc x) (enc y) = some (decide (x = y))) ∧ (∀ w, (zeroValue et).run P w = .ok (.int .i64 0) w) ∧ ∀ x, MapKept.IsKey kd (enc x)
variable [DecidableEq κ]
def Apart (v u : Value) : Prop := ∀ k, v.ownBlock = some k → u.ownBlock ≠ some k
theorem Apart.symm {v u : Value} (h : Apart v u) : Apart u v := fun k hk hc => h k hc hk
theorem Apart.nil (u : Value) : Apart (.slice none 0 0) u := fun k hk => by cases hk
theorem Own.other {B : Nat} {e : TypeId} {v u : Value} {vs : List Value} (h : Own w B e v vs) (hg : w.grownBy w' u.ownBlock) (ha : Apart u v) : Own w' B e v vs := h.grown hg fun k hk hc => ha k hc hk
end
end Go.Proofs.YtnckpafknojdhaaDoor
set_option linter.unusedSimpArgs false
set_option linter.unusedVariables false
namespace Go.Proofs.YtnckpafknojdhaaDoor
open Go.RowKit
structure SlW (P : Program) (t e : TypeId) (z : Value) (n : Nat) : Prop where
  und : P.underlying t = some (.slice e)
  info : ∃ i, P.info? e = some i ∧ i.zero = some z ∧ i.size = n ∧ i.bytes ≤ 1024
  cells : z.cells.size = n
  pos : 0 < n
theorem SlW.elem {P : Program} {t e : TypeId} {z : Value} {n : Nat} (h : SlW P t e z n) : P.elem t = e := by simp [Program.elem, h.und]
theorem SlW.sizeOf {P : Program} {t e : TypeId} {z : Value} {n : Nat} (h : SlW P t e z n) (w : World) : (sizeOf e).run P w = .ok n w := by
  obtain ⟨i, hi, _, hs, _⟩ := h.info
  simp [Go.sizeOf, typeInfo, hi, hs]
theorem SlW.of {P : Program} {t e : TypeId} {z : Value} (h : SlT P t e z) : SlW P t e z 1 := by
  obtain ⟨i, h1, h2, h3, h4⟩ := h.info
  refine ⟨h.und, ⟨i, h1, h2, h3, by omega⟩, ?_, by decide⟩
  have := h.one
  cases z <;> simp_all [Value.cells, Value.oneCell']
def Wid (w : World) (B : Nat) (e : TypeId) (n : Nat) (v : Value) (rows : List (List Value)) : Prop :=
  (∀ r ∈ rows, r.length = n ∧ ∀ u ∈ r, u.oneCell' = true) ∧ w.ownsRow B e n v rows.length rows.flatten
theorem flat_len {n : Nat} : ∀ {rows : List (List Value)}, (∀ r ∈ rows, r.length = n) → rows.flatten.length = rows.length * n
  | [], _ => by simp
  | r :: rows, h => by
    rw [List.flatten_cons, List.length_append, h r (by simp), flat_len (fun q hq => h q (by simp [hq])), List.length_cons, Nat.add_mul]
    omega
theorem flat_at {n : Nat} : ∀ {rows : List (List Value)} {i j : Nat}, (∀ r ∈ rows, r.length = n) → i < rows.length → j < n → rows.flatten[i * n + j]? = (rows.getD i [])[j]?
  | r :: rows, 0, j, h, _, hj => by
    rw [List.flatten_cons, Nat.zero_mul, Nat.zero_add, List.getElem?_append_left (by rw [h r (by simp)]; exact hj)]; rfl
  | r :: rows, i + 1, j, h, hi, hj => by
    have hr := h r (by simp)
    rw [List.flatten_cons, List.getElem?_append_right (by rw [hr, Nat.add_mul]; omega), hr, show (i + 1) * n + j - n = i * n + j by rw [Nat.add_mul]; omega]
    exact flat_at (fun q hq => h q (by simp [hq])) (by simpa using hi) hj
section
variable {w w' : World} {B n : Nat} {e : TypeId} {v : Value} {rows : List (List Value)}
theorem Wid.nil (w : World) (B : Nat) (e : TypeId) (n : Nat) : Wid w B e n (.slice none 0 0) [] := ⟨by simp, World.ownsRow_nil w B e n⟩
theorem Wid.cases (h : Wid w B e n v rows) : (v = .slice none 0 0 ∧ rows = []) ∨ ∃ g cap cs, v = .slice (some ⟨g, 0, none⟩) rows.length cap ∧ B ≤ g ∧ Blk w g e cs ∧ rows.length ≤ cap ∧ cap ≤ maxLen ∧ cs.length = cap * n ∧ cs.take (rows.length * n) = rows.flatten := by
  rcases h.2.2 with ⟨h1, h2⟩ | ⟨g, cap, cur, h1, h2, h3, h4, h5, h6, h7⟩
  · exact .inl ⟨h1, List.eq_nil_of_length_eq_zero h2⟩
  · exact .inr ⟨g, cap, cur.toList, h1, h2, by simpa [Blk] using h3, h4, h5, by simpa using h6, h7⟩
theorem Wid.mk' {g cap : Nat} {cs : List Value} (hr : ∀ r ∈ rows, r.length = n ∧ ∀ u ∈ r, u.oneCell' = true) (h2 : B ≤ g) (h3 : Blk w g e cs) (h4 : rows.length ≤ cap) (h5 : cap ≤ maxLen) (h6 : cs.length = cap * n) (h7 : cs.take (rows.length * n) = rows.flatten) : Wid w B e n (.slice (some ⟨g, 0, none⟩) rows.length cap) rows :=
  ⟨hr, flat_len (fun r h => (hr r h).1), .inr ⟨g, cap, cs.toArray, rfl, h2, h3, h4, h5, by simpa using h6, by simpa using h7⟩⟩
theorem Wid.ext (h : Wid w B e n v rows) (x : Ext w w') : Wid w' B e n v rows := by
  rcases h.cases with ⟨rfl, rfl⟩ | ⟨g, cap, cs, rfl, h2, h3, h4, h5, h6, h7⟩
  · exact Wid.nil _ _ _ _
  · exact Wid.mk' h.1 h2 (h3.ext x) h4 h5 h6 h7
theorem Wid.mono {B' : Nat} (h : Wid w B e n v rows) (hB : B' ≤ B) : Wid w B' e n v rows := by
  rcases h.cases with ⟨rfl, rfl⟩ | ⟨g, cap, cs, rfl, h2, h3, h4, h5, h6, h7⟩
  · exact Wid.nil _ _ _ _
  · exact Wid.mk' h.1 (Nat.le_trans hB h2) h3 h4 h5 h6 h7
theorem Wid.lt (h : Wid w B e n v rows) : ∀ k, v.ownBlock = some k → B ≤ k ∧ k < w.heap.size := by
  rcases h.cases with ⟨rfl, rfl⟩ | ⟨g, cap, cs, rfl, h2, h3, h4, h5, h6, h7⟩
  · intro k hk; cases hk
  · intro k hk
    simp [Value.ownBlock] at hk
    subst hk
    exact ⟨h2, h3.lt⟩
theorem Wid.grown {r : Option Nat} (h : Wid w B e n v rows) (hg : w.grownBy w' r) (hne : ∀ k, v.ownBlock = some k → r ≠ some k) : Wid w' B e n v rows := by
  rcases h.cases with ⟨rfl, rfl⟩ | ⟨g, cap, cs, rfl, h2, h3, h4, h5, h6, h7⟩
  · exact Wid.nil _ _ _ _
  · exact Wid.mk' h.1 h2 (h3.grown hg (hne g rfl)) h4 h5 h6 h7
theorem Wid.stored {g : Nat} {t : TypeId} {cs : List Value} (h : Wid w B e n v rows) (hg : w.grownBy w' (some g)) (hb : Blk w g t cs) (hne : t ≠ e) : Wid w' B e n v rows := by
  refine h.grown hg fun k hk hc => ?_
  injection hc with hc
  subst hc
  rcases h.cases with ⟨rfl, rfl⟩ | ⟨g', cap, cs', rfl, h2, h3, _⟩
  · cases hk
  · simp [Value.ownBlock] at hk
    subst hk
    exact hb.ne h3 hne rfl
theorem Wid.owned {B' : Nat} {t : TypeId} {u : Value} {us : List Value} (h : Wid w B e n v rows) (ho : Own w B' t u us) (hg : w.grownBy w' u.ownBlock) (hne : t ≠ e) : Wid w' B e n v rows := by
  rcases ho.cases with ⟨rfl, rfl⟩ | ⟨g, cap, cs, rfl, hg', hb, _⟩
  · exact h.ext (Ext.of_grown hg)
  · exact h.stored (g := g) hg hb hne
variable (ho : Wid w B e n v rows) (hg : w.grownBy w' v.ownBlock)
theorem Wid.at (h : Wid w B e n v rows) {i : Int} (h0 : 0 ≤ i) (h1 : i < rows.length) : ∃ g c, v = .slice (some ⟨g, 0, none⟩) rows.length c ∧ B ≤ g ∧ g < w.heap.size ∧ ∀ j, j < n → w.cell? ⟨g, i.toNat * n + j, none⟩ = (rows.getD i.toNat [])[j]? := by
  rcases h.cases with ⟨rfl, rfl⟩ | ⟨g, cap, cs, rfl, h2, h3, h4, h5, h6, h7⟩
  · simp at h1; omega
  · refine ⟨g, cap, rfl, h2, h3.lt, fun j hj => ?_⟩
    have hlt : i.toNat < rows.length := by omega
    rw [h3.cell, ← flat_at (fun r hr => (h.1 r hr).1) hlt hj, ← h7, List.getElem?_take, if_pos]
    have : (i.toNat + 1) * n ≤ rows.length * n := Nat.mul_le_mul_right _ hlt
    rw [Nat.add_mul] at this
    omega
end
section
variable {P : Program} {N : Nat} {ops : Array Oper} {Q : Exit → Act → World → Prop} {rest : List Oper} {l : Slots} {w : World}
variable {d : Nat} {ty : TypeId} {pos : String} {after : Array Edge} {g : Option (Nat × Bool)}
end
end Go.Proofs.YtnckpafknojdhaaDoor
set_option linter.unusedSimpArgs false
set_option linter.unusedVariables false
namespace Go.Proofs.YtnckpafknojdhaaDoor
structure A where
  al : Int
  next : List (List Int)
  acc : List Bool
def lettersTo (al : Int) (k : Nat) : List Int := ((List.range k).map fun (i : Nat) => (i : Int)).filter (hs al)
def letters (al : Int) : List Int := lettersTo al 6
theorem lettersTo_T {al : Int} {k : Nat} (h : hs al k = true) : lettersTo al (k + 1) = lettersTo al k ++ [(k : Int)] := by
  simp [lettersTo, List.range_succ, h]
theorem lettersTo_F {al : Int} {k : Nat} (h : hs al k = false) : lettersTo al (k + 1) = lettersTo al k := by
  simp [lettersTo, List.range_succ, h]
theorem lettersTo_length (al : Int) (k : Nat) : (lettersTo al k).length ≤ k := by
  have := List.length_filter_le (hs al) ((List.range k).map fun (i : Nat) => (i : Int))
  simpa [lettersTo] using this
theorem letters_len6 (al : Int) : (letters al).length ≤ 6 := lettersTo_length al 6
theorem toNat_succ {k : Int} (h : 0 ≤ k) : (k + 1).toNat = k.toNat + 1 := by omega
section
variable {α : Type} {l : List α} {p : α → Bool} {d : α} {k : Nat}
theorem take_snoc (d : α) (h : k < l.length) : l.take (k + 1) = l.take k ++ [l.getD k d] := by
  rw [List.take_succ_eq_append_getElem h]; simp [h]
theorem all_snoc (hp : (l.take k).all p = true) (h : k < l.length) (hk : p (l.getD k d) = true) : (l.take (k + 1)).all p = true := by
  rw [take_snoc d h, List.all_append, hp]; simpa using hk
theorem all_bad (h : k < l.length) (hk : p (l.getD k d) = false) : l.all p = false := by
  rw [List.all_eq_false]
  exact ⟨l[k], List.getElem_mem h, by simp [h] at hk; simp [hk]⟩
theorem all_done (hp : (l.take k).all p = true) (h : l.length ≤ k) : l.all p = true := by rwa [List.take_of_length_le h] at hp
end
theorem take_eq_snoc {α : Type} {xs ys : List α} {k : Nat} (d : α) (hl : xs.length = ys.length) (hp : xs.take k = ys.take k) (h : k < xs.length) (he : xs.getD k d = ys.getD k d) : xs.take (k + 1) = ys.take (k + 1) := by
  rw [take_snoc d h, take_snoc d (by omega), hp, he]
theorem beq_len {α : Type} [BEq α] [LawfulBEq α] {xs ys : List α} (h : xs.length ≠ ys.length) : (xs == ys) = false := by
  rw [beq_eq_false_iff_ne]; rintro rfl; exact h rfl
theorem beq_at {α : Type} [BEq α] [LawfulBEq α] {xs ys : List α} {k : Nat} (d : α) (h : xs.getD k d ≠ ys.getD k d) : (xs == ys) = false := by
  rw [beq_eq_false_iff_ne]; rintro rfl; exact h rfl
theorem beq_done {α : Type} [BEq α] [LawfulBEq α] {xs ys : List α} {k : Nat} (hp : xs.take k = ys.take k) (h : xs.length ≤ k) (h' : ys.length ≤ k) : (xs == ys) = true := by
  rw [List.take_of_length_le h, List.take_of_length_le h'] at hp
  rw [hp]; exact beq_self_eq_true _
theorem getD_mem {α : Type} {l : List α} {d : α} {k : Nat} (h : k < l.length) : l.getD k d ∈ l := by simp [h]
def inB (n q : Int) : Bool := decide (0 ≤ q ∧ q < n)
theorem inB_T {n q : Int} (h : 0 ≤ q ∧ q < n) : inB n q = true := decide_eq_true h
theorem inB_F {n q : Int} (h : q < 0 ∨ n ≤ q) : inB n q = false := decide_eq_false (by omega)
def rowOk (m n : Int) (row : List Int) : Bool := decide ((row.length : Int) = m) && row.all (inB n)
theorem rowOk_len {m n : Int} {row : List Int} (h : (row.length : Int) ≠ m) : rowOk m n row = false := by simp [rowOk, h]
theorem rowOk_bad {m n : Int} {row : List Int} (_ : (row.length : Int) = m) {k : Nat} (hk : k < row.length) (hb : inB n (row.getD k 0) = false) : rowOk m n row = false := by
  simp only [rowOk, all_bad hk hb, Bool.and_false]
theorem rowOk_good {m n : Int} {row : List Int} (h : (row.length : Int) = m) {k : Nat} (hp : (row.take k).all (inB n) = true) (hk : row.length ≤ k) : rowOk m n row = true := by
  simp only [rowOk, h, all_done hp hk, Bool.and_true, decide_true]
def validA (a : A) : Bool := decide (0 ≤ a.al ∧ a.al ≤ 63) && (decide (1 ≤ (a.next.length : Int) ∧ (a.next.length : Int) ≤ 12) && (decide ((a.acc.length : Int) = a.next.length) && a.next.all (rowOk (letters a.al).length a.next.length)))
theorem validA_al {a : A} (h : ¬ (0 ≤ a.al ∧ a.al ≤ 63)) : validA a = false := by simp only [validA, decide_eq_false h, Bool.false_and]
theorem validA_n {a : A} (h : ¬ (1 ≤ (a.next.length : Int) ∧ (a.next.length : Int) ≤ 12)) : validA a = false := by simp only [validA, decide_eq_false h, Bool.false_and, Bool.and_false]
theorem validA_acc {a : A} (h : ¬ ((a.acc.length : Int) = a.next.length)) : validA a = false := by simp only [validA, decide_eq_false h, Bool.false_and, Bool.and_false]
theorem validA_row {a : A} {k : Nat} (h : k < a.next.length) (hb : rowOk (letters a.al).length a.next.length (a.next.getD k []) = false) : validA a = false := by simp only [validA, all_bad h hb, Bool.and_false]
theorem validA_good {a : A} {k : Nat} (h1 : 0 ≤ a.al ∧ a.al ≤ 63) (h2 : 1 ≤ (a.next.length : Int) ∧ (a.next.length : Int) ≤ 12) (h3 : (a.acc.length : Int) = a.next.length) (hp : (a.next.take k).all (rowOk (letters a.al).length a.next.length) = true) (hk : a.next.length ≤ k) : validA a = true := by
  simp only [validA, decide_eq_true h1, decide_eq_true h2, decide_eq_true h3, all_done hp hk, Bool.and_self]
def Fit (a : A) : Prop := (-9223372036854775808 ≤ a.al ∧ a.al ≤ 9223372036854775807) ∧ a.next.length ≤ 100000000 ∧ a.acc.length ≤ 100000000 ∧ ∀ row ∈ a.next, row.length ≤ 100000000
theorem Fit.row {a : A} (h : Fit a) {k : Nat} : (a.next.getD k []).length ≤ 1000000000 := by
  rcases Nat.lt_or_ge k a.next.length with hk | hk
  · have := h.2.2.2 _ (List.getElem_mem hk)
    simp [hk]; omega
  · simp [hk]
theorem Fit.acc {a : A} (h : Fit a) : a.acc.length ≤ 1000000000 := by have := h.2.2.1; omega
def zeroA : A := ⟨0, [], []⟩
theorem validA_spec {a : A} : validA a = true ↔ (0 ≤ a.al ∧ a.al ≤ 63) ∧ (1 ≤ a.next.length ∧ a.next.length ≤ 12) ∧ a.acc.length = a.next.length ∧ ∀ row ∈ a.next, row.length = (letters a.al).length ∧ ∀ q ∈ row, 0 ≤ q ∧ q < (a.next.length : Int) := by
  simp only [validA, rowOk, inB, Bool.and_eq_true, decide_eq_true_eq, List.all_eq_true]
  constructor
  · rintro ⟨h1, h2, h3, h4⟩
    exact ⟨h1, by omega, by omega, fun row hr => ⟨by have := (h4 row hr).1; omega, (h4 row hr).2⟩⟩
  · rintro ⟨h1, h2, h3, h4⟩
    exact ⟨h1, by omega, by omega, fun row hr => ⟨by have := (h4 row hr).1; omega, (h4 row hr).2⟩⟩
def eqA (a b : A) : Bool := a.al == b.al && (a.next == b.next && a.acc == b.acc)
theorem eqA_iff {a b : A} : eqA a b = true ↔ a = b := by
  obtain ⟨al, nx, ac⟩ := a
  obtain ⟨al', nx', ac'⟩ := b
  simp [eqA]
theorem eqA_refl (a : A) : eqA a a = true := eqA_iff.2 rfl
def chr (x : Int) : ByteArray := ⟨#[UInt8.ofNat (97 + x).toNat]⟩
theorem chr_size (x : Int) : (chr x).size = 1 := rfl
def fmtTo (al : Int) (k : Nat) : ByteArray := ((letters al).take k).foldl (fun s x => s ++ chr x) ⟨#[]⟩
theorem fmtTo_succ {al : Int} {k : Nat} (h : k < (letters al).length) : fmtTo al (k + 1) = fmtTo al k ++ chr ((letters al).getD k 0) := by
  rw [fmtTo, take_snoc 0 h, List.foldl_append]
  rfl
theorem fmtTo_size (al : Int) (k : Nat) : (fmtTo al k).size ≤ k := by
  have : ∀ (l : List Int) (s : ByteArray), (l.foldl (fun s x => s ++ chr x) s).size = s.size + l.length := by
    intro l
    induction l with
    | nil => intro s; simp
    | cons x l ih =>
      intro s
      rw [List.foldl_cons, ih, ByteArray.size_append, chr_size, List.length_cons]
      omega
  rw [fmtTo, this, List.length_take]
  show 0 + _ ≤ _
  omega
theorem letters_at (al : Int) {k : Nat} (h : k < (letters al).length) : 0 ≤ (letters al).getD k 0 ∧ (letters al).getD k 0 < 6 := by
  have h1 := getD_mem (d := 0) h
  generalize (letters al).getD k 0 = y at *
  simp only [letters, lettersTo, List.mem_filter, List.mem_map, List.mem_range] at h1
  obtain ⟨⟨i, hi, rfl⟩, _⟩ := h1
  omega
def fmtAl (al : Int) : ByteArray := if 0 ≤ al ∧ al ≤ 63 then if al = 0 then ⟨#[45]⟩ else fmtTo al (letters al).length else ⟨#[]⟩
theorem fmtAl_bad {al : Int} (h : ¬ (0 ≤ al ∧ al ≤ 63)) : fmtAl al = ⟨#[]⟩ := if_neg h
theorem fmtAl_zero {al : Int} (h : al = 0) : fmtAl al = ⟨#[45]⟩ := by subst h; rfl
theorem fmtAl_good {al : Int} (h : 0 ≤ al ∧ al ≤ 63) (h0 : al ≠ 0) {k : Nat} (hk : k = (letters al).length) : fmtAl al = fmtTo al k := by rw [fmtAl, if_pos h, if_neg h0, hk]
theorem fmtAl_size (al : Int) : (fmtAl al).size ≤ 6 := by
  unfold fmtAl
  split
  · split
    · show 1 ≤ 6; omega
    · exact Nat.le_trans (fmtTo_size al _) (letters_len6 al)
  · show 0 ≤ 6; omega
end Go.Proofs.YtnckpafknojdhaaDoor
set_option linter.unusedSimpArgs false
set_option linter.unusedVariables false
namespace Go.Proofs.YtnckpafknojdhaaDoor
open Go.RowKit
def Src (w : World) (e : TypeId) (v : Value) (xs : List UInt8) (rb : Nat) : Prop := Bytes w e v xs ∧ ∀ b o n c, v = .slice (some ⟨b, o, none⟩) n c → xs ≠ [] → b ≠ rb
theorem Src.ext {w0 w : World} {e : TypeId} {v : Value} {xs : List UInt8} {rb : Nat} (h : Src w0 e v xs rb) (g : w0.grownBy w (some rb)) : Bytes w e v xs := by
  obtain ⟨h1, h2⟩ := h
  rcases h1 with ⟨h3, h4⟩ | ⟨b, o, c, cur, fr, rfl, hb, hc⟩
  · exact .inl ⟨h3, h4⟩
  · rcases xs with _ | ⟨x, xs⟩
    · exact .inl ⟨rfl, _, _, rfl, fun h => by cases h⟩
    · refine .inr ⟨b, o, c, cur, fr, rfl, ?_, hc⟩
      rw [g.block b (lt_of_block hb) (fun hk => by injection hk with hk; exact h2 _ _ _ _ rfl (by simp) hk)]
      exact hb
theorem Src.of {w w' : World} {e : TypeId} {v : Value} {xs : List UInt8} {rb : Nat} (h : Bytes w e v xs) (x : Ext w w') (hrb : w.heap.size ≤ rb) : Src w' e v xs rb := by
  refine ⟨h.ext x, fun b o n c hv hne => ?_⟩
  rcases h with ⟨h3, _⟩ | ⟨b', o', c', cur, fr, rfl, hb, _⟩
  · exact absurd (List.map_eq_nil_iff.1 h3) hne
  · simp only [Value.slice.injEq, Option.some.injEq, Addr.mk.injEq] at hv
    have := lt_of_block hb
    omega
theorem u8_le (x : UInt8) : 0 ≤ (x.toNat : Int) ∧ (x.toNat : Int) ≤ 255 := by
  have := x.toNat_lt
  omega
theorem u8_ok (x : UInt8) : -9223372036854775808 ≤ (x.toNat : Int) ∧ (x.toNat : Int) ≤ 9223372036854775807 := by
  have := u8_le x
  omega
theorem Own.snocB {w : World} {B : Nat} {e : TypeId} {v : Value} {ys : List Bool} {y : Bool} (h : Own w B e v (ys.map Value.bool ++ [Value.bool y])) : Own w B e v ((ys ++ [y]).map Value.bool) := by simpa using h
theorem Own.snocI {w : World} {B : Nat} {e : TypeId} {v : Value} {ys : List Int} {y : Int} (h : Own w B e v (ys.map (Value.int .i64) ++ [Value.int .i64 y])) : Own w B e v ((ys ++ [y]).map (Value.int .i64)) := by simpa using h
theorem Own.snocS {w : World} {B : Nat} {e : TypeId} {v : Value} {ys : List ByteArray} {y : ByteArray} (h : Own w B e v (ys.map Value.string ++ [Value.string y])) : Own w B e v ((ys ++ [y]).map Value.string) := by simpa using h
theorem all_app {α : Type} {p : α → Prop} {xs : List α} {x : α} (h : ∀ q ∈ xs, p q) (hx : p x) : ∀ q ∈ xs ++ [x], p q := by
  intro q hq
  rcases List.mem_append.1 hq with h1 | h1
  · exact h q h1
  · rw [List.mem_singleton.1 h1]; exact hx
theorem all_set {α : Type} {p : α → Prop} {xs : List α} {x : α} {k : Nat} (h : ∀ q ∈ xs, p q) (hx : p x) : ∀ q ∈ xs.set k x, p q := by
  intro q hq
  rcases List.mem_or_eq_of_mem_set hq with h1 | h1
  · exact h q h1
  · rw [h1]; exact hx
theorem rowOk_spec {m n : Int} {row : List Int} : rowOk m n row = true ↔ (row.length : Int) = m ∧ ∀ q ∈ row, 0 ≤ q ∧ q < n := by
  simp only [rowOk, Bool.and_eq_true, decide_eq_true_eq, List.all_eq_true, inB]
theorem rowOk_at {m n : Int} {xss : List (List Int)} {k : Nat} (h : ∀ r ∈ xss, rowOk m n r = true) (hk : k < xss.length) : ((xss.getD k []).length : Int) = m ∧ ∀ q ∈ xss.getD k [], 0 ≤ q ∧ q < n := rowOk_spec.1 (h _ (getD_mem hk))
theorem getD_set_self {α : Type} {xs : List α} {k : Nat} {x d : α} (h : k < xs.length) : (xs.set k x).getD k d = x := by simp [h]
theorem Own.low {w : World} {B : Nat} {e : TypeId} {v : Value} {vs : List Value} (h : Own w B e v vs) : ∀ k, v.ownBlock = some k → k < w.heap.size := fun k hk => (h.lt k hk).2
theorem Own.apart {w w' : World} {B B' U : Nat} {e t : TypeId} {v u : Value} {vs us : List Value} (h : Own w B e v vs) (hl : ∀ k, v.ownBlock = some k → k < U) (ho : Own w B' t u us) (hg : w.grownBy w' u.ownBlock) (hB : U ≤ B') : Own w' B e v vs :=
  h.grown hg fun k hk hc => by
    have := hl k hk
    have := (ho.lt k hc).1
    omega
theorem At.apart {w w' : World} {B' U : Nat} {e t : TypeId} {v u' : Value} {us : List Value} {i : Int} {p : Addr} {u : Value} (h : At w e v i p u) (hl : ∀ k, v.ownBlock = some k → k < U) (ho : Own w B' t u' us) (hg : w.grownBy w' u'.ownBlock) (hB : U ≤ B') : At w' e v i p u := by
  obtain ⟨h1, ⟨b, o, c, n, rfl, rfl, h0, hn⟩, cur, fr, h3⟩ := h
  have hb' : w'.heap[b]? = w.heap[b]? := by
    refine hg.block _ (lt_of_block h3) fun hc => ?_
    have := hl b rfl
    have := (ho.lt b hc.symm).1
    omega
  exact ⟨by rw [World.cell?_of_block hb']; exact h1, ⟨b, o, c, n, rfl, rfl, h0, hn⟩, cur, fr, by show w'.heap[b]? = _; rw [hb']; exact h3⟩
theorem OwnRows.none {w : World} {B U : Nat} {e e' : TypeId} {v : Value} (h : Own w B e v []) : OwnRows w B U e e' v [] := ⟨[], h, rfl, by simp, by simp⟩
theorem At.stored {w w' : World} {e t : TypeId} {v u : Value} {i : Int} {p : Addr} {g : Nat} {cs : List Value} (h : At w e v i p u) (hg : w.grownBy w' (some g)) (hb : Blk w g t cs) (hne : t ≠ e) : At w' e v i p u := by
  obtain ⟨h1, h2, cur, fr, h3⟩ := h
  have hb' : w'.heap[p.block]? = w.heap[p.block]? := by
    refine hg.block _ (lt_of_block h3) fun hc => ?_
    injection hc with hc
    subst hc
    simp only [Blk] at hb
    rw [hb] at h3
    simp at h3
    exact hne h3.2.1
  exact ⟨by rw [World.cell?_of_block hb']; exact h1, h2, cur, fr, by rw [hb']; exact h3⟩
def Small (n : Nat) (a : A) : Prop := (-1000 ≤ a.al ∧ a.al ≤ 1000) ∧ a.next.length ≤ n ∧ a.acc.length ≤ n ∧ ∀ row ∈ a.next, row.length ≤ n
theorem Small.of {a : A} (h : validA a = true) : Small 20 a := by
  obtain ⟨h1, h2, h3, h4⟩ := validA_spec.1 h
  refine ⟨by omega, by omega, by omega, fun row hr => ?_⟩
  have := (h4 row hr).1
  have := letters_len6 a.al
  omega
theorem Small.mono {n m : Nat} {a : A} (h : Small n a) (hm : n ≤ m) : Small m a := ⟨h.1, Nat.le_trans h.2.1 hm, Nat.le_trans h.2.2.1 hm, fun row hr => Nat.le_trans (h.2.2.2 row hr) hm⟩
theorem Small.same {n m : Nat} {a : A} {al : Int} (h : Small n a) (hal : -1000 ≤ al ∧ al ≤ 1000) (hm : n ≤ m) : Small m ⟨al, a.next, a.acc⟩ := ⟨hal, (h.mono hm).2⟩
theorem Small.row {n m k : Nat} {a : A} {row : List Int} (h : Small n a) (hm : n ≤ m) (hr : row.length ≤ m) : Small m ⟨a.al, a.next.set k row, a.acc⟩ := by
  have q := h.mono hm
  exact ⟨q.1, by rw [List.length_set]; exact q.2.1, q.2.2.1, all_set q.2.2.2 hr⟩
theorem Small.rowAt {n k : Nat} {a : A} (h : Small n a) : (a.next.getD k []).length ≤ n := by
  rcases Nat.lt_or_ge k a.next.length with hk | hk
  · exact h.2.2.2 _ (getD_mem hk)
  · simp [hk]
theorem validA_rows {a : A} (h : validA a = true) : ∀ row ∈ a.next, rowOk (letters a.al).length a.next.length row = true := by
  simp only [validA, Bool.and_eq_true, List.all_eq_true] at h
  exact h.2.2.2
theorem str_ne {s : ByteArray} (h : ¬ s.data.toList = (⟨#[]⟩ : ByteArray).data.toList) : 1 ≤ s.size := by
  rcases Nat.eq_zero_or_pos s.size with h0 | h0
  · exfalso; apply h
    have : s.data.toList.length = 0 := h0
    rw [List.eq_nil_of_length_eq_zero this]
  · exact h0
theorem valid_at {a : A} (h : validA a = true) {k j : Nat} (hk : k < a.next.length) (hj : j < (a.next.getD k []).length) : 0 ≤ (a.next.getD k []).getD j 0 ∧ (a.next.getD k []).getD j 0 < a.next.length :=
  (rowOk_at (validA_rows h) hk).2 _ (getD_mem hj)
theorem valid_row {a : A} (h : validA a = true) {k : Nat} (hk : k < a.next.length) : (a.next.getD k []).length = (letters a.al).length := by
  have := (rowOk_at (validA_rows h) hk).1
  omega
theorem valid_row6 {a : A} (h : validA a = true) {k : Nat} : (a.next.getD k []).length ≤ 6 := by
  rcases Nat.lt_or_ge k a.next.length with hk | hk
  · rw [valid_row h hk]; exact letters_len6 _
  · simp [hk]
end Go.Proofs.YtnckpafknojdhaaDoor
set_option linter.unusedSimpArgs false
set_option linter.unusedVariables false
namespace Go.Proofs.YtnckpafknojdhaaDoor
def place (al x : Int) : Nat := (lettersTo al x.toNat).length
theorem place_ok : ∀ al : Fin 64, ∀ i : Fin 6, i.val < (letters (al.val : Int)).length →
    hs (al.val : Int) ((letters (al.val : Int)).getD i.val 0) = true ∧ place (al.val : Int) ((letters (al.val : Int)).getD i.val 0) = i.val := by decide
theorem at_place : ∀ al : Fin 64, ∀ x : Fin 6, hs (al.val : Int) (x.val : Int) = true →
    place (al.val : Int) (x.val : Int) < (letters (al.val : Int)).length ∧ (letters (al.val : Int)).getD (place (al.val : Int) (x.val : Int)) 0 = (x.val : Int) := by decide
theorem place_at {al : Int} (h : 0 ≤ al ∧ al ≤ 63) {k : Nat} (hk : k < (letters al).length) : hs al ((letters al).getD k 0) = true ∧ place al ((letters al).getD k 0) = k := by
  obtain ⟨m, rfl⟩ := Int.eq_ofNat_of_zero_le h.1
  have h6 := letters_len6 (m : Int)
  exact place_ok ⟨m, by omega⟩ ⟨k, by omega⟩ hk
theorem place_lt {al x : Int} (h : 0 ≤ al ∧ al ≤ 63) (hx : 0 ≤ x ∧ x < 6) (hh : hs al x = true) : place al x < (letters al).length ∧ (letters al).getD (place al x) 0 = x := by
  obtain ⟨m, rfl⟩ := Int.eq_ofNat_of_zero_le h.1
  obtain ⟨y, rfl⟩ := Int.eq_ofNat_of_zero_le hx.1
  exact at_place ⟨m, by omega⟩ ⟨y, by omega⟩ hh
def goA (a : A) (q x : Int) : Int := if hs a.al x then (a.next.getD q.toNat []).getD (place a.al x) 0 else q
theorem goA_no {a : A} {q x : Int} (h : hs a.al x = false) : goA a q x = q := by simp [goA, h]
theorem goA_yes {a : A} {q x : Int} (h : hs a.al x = true) : goA a q x = (a.next.getD q.toNat []).getD (place a.al x) 0 := by simp [goA, h]
def TabAt (a : A) (q i : Nat) (xs : List Int) : Prop := xs.length = a.next.length * 6 ∧ (∀ k x, k < q → x < 6 → xs.getD (k * 6 + x) 0 = goA a k x) ∧
  ∀ x, x < 6 → q < a.next.length → xs.getD (q * 6 + x) 0 = if hs a.al x = true ∧ place a.al x < i then (a.next.getD q []).getD (place a.al x) 0 else q
def TabPre (a : A) (q l : Nat) (xs : List Int) : Prop := xs.length = a.next.length * 6 ∧ (∀ k x, k < q → x < 6 → xs.getD (k * 6 + x) 0 = goA a k x) ∧
  ∀ x, x < l → q < a.next.length → xs.getD (q * 6 + x) 0 = q
theorem TabPre.zero (a : A) : TabPre a 0 0 (List.replicate (a.next.length * 6) 0) := ⟨by simp, by omega, by omega⟩
theorem TabPre.step {a : A} {q l : Nat} {xs : List Int} (h : TabPre a q l xs) (hl : l < 6) (hq : q < a.next.length) : TabPre a q (l + 1) (xs.set (q * 6 + l) q) := by
  obtain ⟨h1, h2, h3⟩ := h
  refine ⟨by simp [h1], fun k x hk hx => ?_, fun x hx hq' => ?_⟩
  · have : q * 6 + l ≠ k * 6 + x := by omega
    rw [List.getD_eq_getElem?_getD, List.getElem?_set_ne this, ← List.getD_eq_getElem?_getD]
    exact h2 k x hk hx
  · by_cases hxl : x = l
    · subst hxl
      exact getD_set_self (by omega)
    · have : q * 6 + l ≠ q * 6 + x := by omega
      rw [List.getD_eq_getElem?_getD, List.getElem?_set_ne this, ← List.getD_eq_getElem?_getD]
      exact h3 x (by omega) hq'
theorem TabPre.at {a : A} {q : Nat} {xs : List Int} (h : TabPre a q 6 xs) : TabAt a q 0 xs := ⟨h.1, h.2.1, fun x hx hq => by rw [h.2.2 x hx hq]; simp⟩
theorem TabAt.step {a : A} {q i : Nat} {xs : List Int} (hal : 0 ≤ a.al ∧ a.al ≤ 63) (h : TabAt a q i xs) (hi : i < (letters a.al).length) (hq : q < a.next.length) :
    TabAt a q (i + 1) (xs.set (q * 6 + ((letters a.al).getD i 0).toNat) ((a.next.getD q []).getD i 0)) := by
  obtain ⟨h1, h2, h3⟩ := h
  have hl := letters_at a.al hi
  obtain ⟨hp1, hp2⟩ := place_at hal hi
  refine ⟨by simp [h1], fun k x hk hx => ?_, fun x hx hq' => ?_⟩
  · have : q * 6 + ((letters a.al).getD i 0).toNat ≠ k * 6 + x := by omega
    rw [List.getD_eq_getElem?_getD, List.getElem?_set_ne this, ← List.getD_eq_getElem?_getD]
    exact h2 k x hk hx
  · by_cases hxl : (x : Int) = (letters a.al).getD i 0
    · have e1 : ((letters a.al).getD i 0).toNat = x := by omega
      rw [e1, getD_set_self (by omega), hxl, hp2, hp1, if_pos ⟨rfl, by omega⟩]
    · have : q * 6 + ((letters a.al).getD i 0).toNat ≠ q * 6 + x := by omega
      rw [List.getD_eq_getElem?_getD, List.getElem?_set_ne this, ← List.getD_eq_getElem?_getD, h3 x hx hq']
      by_cases hh : hs a.al x = true
      · have h4 := place_lt hal (x := (x : Int)) (by omega) hh
        have h5 : place a.al x ≠ i := fun hc => hxl (by rw [← hc]; exact h4.2.symm)
        by_cases h6 : place a.al x < i
        · rw [if_pos ⟨hh, h6⟩, if_pos ⟨hh, by omega⟩]
        · rw [if_neg (fun hc => h6 hc.2), if_neg (fun hc => by omega)]
      · rw [if_neg (fun hc => hh hc.1), if_neg (fun hc => hh hc.1)]
theorem TabAt.next {a : A} {q i : Nat} {xs : List Int} (hal : 0 ≤ a.al ∧ a.al ≤ 63) (h : TabAt a q i xs) (hi : (letters a.al).length ≤ i) (hq : q < a.next.length) : TabPre a (q + 1) 0 xs := by
  obtain ⟨h1, h2, h3⟩ := h
  refine ⟨h1, fun k x hk hx => ?_, by omega⟩
  by_cases hkq : k < q
  · exact h2 k x hkq hx
  · obtain rfl : k = q := by omega
    rw [h3 x hx hq]
    by_cases hh : hs a.al x = true
    · have h4 := place_lt hal (x := (x : Int)) (by omega) hh
      rw [if_pos ⟨hh, by omega⟩, goA_yes hh]; rfl
    · rw [if_neg (fun hc => hh hc.1), goA_no (by simpa using hh)]
def Tab (a : A) (xs : List Int) : Prop := xs.length = a.next.length * 6 ∧ ∀ q x : Int, 0 ≤ q ∧ q < a.next.length → 0 ≤ x ∧ x < 6 → xs[q.toNat * 6 + x.toNat]? = some (goA a q x)
theorem TabPre.done {a : A} {q l : Nat} {xs : List Int} (h : TabPre a q l xs) (hq : a.next.length ≤ q) : Tab a xs := by
  refine ⟨h.1, fun p x hp hx => ?_⟩
  have h2 := h.2.1 p.toNat x.toNat (by omega) (by omega)
  rw [Int.toNat_of_nonneg hp.1, Int.toNat_of_nonneg hx.1] at h2
  have hlt : p.toNat * 6 + x.toNat < xs.length := by have := h.1; omega
  rw [List.getElem?_eq_getElem hlt, ← h2, List.getD_eq_getElem?_getD, List.getElem?_eq_getElem hlt]
  rfl
def orI (m n : Int) : Int := ((m.toNat ||| n.toNat : Nat) : Int)
theorem orI_le {m n : Int} (hm : 0 ≤ m ∧ m ≤ 63) (hn : 0 ≤ n ∧ n ≤ 63) : 0 ≤ orI m n ∧ orI m n ≤ 63 := by
  have := Nat.or_lt_two_pow (n := 6) (x := m.toNat) (y := n.toNat) (by omega) (by omega)
  unfold orI
  omega
def safeRow (a : A) (i : Nat) : List Int := if a.acc.getD i false then a.next.getD i [] else (a.next.getD i []).map fun _ => (i : Int)
def safe (a : A) : A := ⟨a.al, (List.range a.next.length).map (safeRow a), a.acc⟩
def SafeAt (a : A) (k j : Nat) (xss : List (List Int)) : Prop := xss.length = a.next.length ∧ ∀ i, i < a.next.length → (xss.getD i []).length = (a.next.getD i []).length ∧
  ∀ m, m < (a.next.getD i []).length → (xss.getD i []).getD m 0 = if a.acc.getD i false = false ∧ (i < k ∨ i = k ∧ m < j) then (i : Int) else (a.next.getD i []).getD m 0
theorem SafeAt.zero (a : A) : SafeAt a 0 0 a.next := ⟨rfl, fun i hi => ⟨rfl, fun m hm => by rw [if_neg (by omega)]⟩⟩
theorem SafeAt.step {a : A} {k j : Nat} {xss : List (List Int)} (h : SafeAt a k j xss) (hk : k < a.next.length) (hj : j < (a.next.getD k []).length) (hac : a.acc.getD k false = false) :
    SafeAt a k (j + 1) (xss.set k ((xss.getD k []).set j k)) := by
  obtain ⟨h1, h2⟩ := h
  refine ⟨by simp [h1], fun i hi => ?_⟩
  by_cases hik : i = k
  · subst hik
    rw [getD_set_self (by omega)]
    refine ⟨by rw [List.length_set]; exact (h2 i hi).1, fun m hm => ?_⟩
    by_cases hmj : m = j
    · subst hmj
      rw [getD_set_self (by rw [(h2 i hi).1]; exact hm), if_pos ⟨hac, .inr ⟨rfl, by omega⟩⟩]
    · rw [List.getD_eq_getElem?_getD, List.getElem?_set_ne (Ne.symm hmj), ← List.getD_eq_getElem?_getD, (h2 i hi).2 m hm]
      by_cases hm2 : m < j
      · rw [if_pos ⟨hac, .inr ⟨rfl, hm2⟩⟩, if_pos ⟨hac, .inr ⟨rfl, by omega⟩⟩]
      · rw [if_neg (by omega), if_neg (by omega)]
  · have e : (xss.set k ((xss.getD k []).set j k)).getD i [] = xss.getD i [] := by
      rw [List.getD_eq_getElem?_getD, List.getElem?_set_ne (Ne.symm hik), ← List.getD_eq_getElem?_getD]
    rw [e]
    refine ⟨(h2 i hi).1, fun m hm => ?_⟩
    rw [(h2 i hi).2 m hm]
    by_cases hc : a.acc.getD i false = false ∧ (i < k ∨ i = k ∧ m < j)
    · rw [if_pos hc, if_pos ⟨hc.1, by omega⟩]
    · rw [if_neg hc, if_neg (fun hd => hc ⟨hd.1, by omega⟩)]
theorem SafeAt.skip {a : A} {k j j' : Nat} {xss : List (List Int)} (h : SafeAt a k j xss) (hac : a.acc.getD k false = true) : SafeAt a k j' xss :=
  ⟨h.1, fun i hi => ⟨(h.2 i hi).1, fun m hm => by
    rw [(h.2 i hi).2 m hm]
    by_cases hik : i = k
    · subst hik
      rw [if_neg (by rw [hac]; simp), if_neg (by rw [hac]; simp)]
    · by_cases hc : a.acc.getD i false = false ∧ i < k
      · rw [if_pos ⟨hc.1, .inl hc.2⟩, if_pos ⟨hc.1, .inl hc.2⟩]
      · rw [if_neg (fun hd => hc ⟨hd.1, by omega⟩), if_neg (fun hd => hc ⟨hd.1, by omega⟩)]⟩⟩
theorem SafeAt.next {a : A} {k j : Nat} {xss : List (List Int)} (h : SafeAt a k j xss) (hj : (a.next.getD k []).length ≤ j ∨ a.acc.getD k false = true) : SafeAt a (k + 1) 0 xss :=
  ⟨h.1, fun i hi => ⟨(h.2 i hi).1, fun m hm => by
    rw [(h.2 i hi).2 m hm]
    by_cases hac : a.acc.getD i false = false
    · by_cases hik : i = k
      · subst hik
        have : (a.next.getD i []).length ≤ j := by
          rcases hj with h | h
          · exact h
          · rw [hac] at h; cases h
        rw [if_pos ⟨hac, .inr ⟨rfl, by omega⟩⟩, if_pos ⟨hac, .inl (by omega)⟩]
      · by_cases hc : i < k
        · rw [if_pos ⟨hac, .inl hc⟩, if_pos ⟨hac, .inl (by omega)⟩]
        · rw [if_neg (by omega), if_neg (by omega)]
    · rw [if_neg (fun hd => hac hd.1), if_neg (fun hd => hac hd.1)]⟩⟩
theorem SafeAt.done {a : A} {k j : Nat} {xss : List (List Int)} (h : SafeAt a k j xss) (hk : a.next.length ≤ k) : xss = (safe a).next := by
  refine List.ext_getElem (by simp [safe, h.1]) fun i h1 h2 => ?_
  have hi : i < a.next.length := by rw [← h.1]; exact h1
  obtain ⟨h3, h4⟩ := h.2 i hi
  have e0 : xss.getD i [] = xss[i] := by simp [h1]
  rw [e0] at h3 h4
  simp only [safe, List.getElem_map, List.getElem_range]
  unfold safeRow
  cases hac : a.acc.getD i false with
  | true =>
    simp only [if_true]
    refine List.ext_getElem h3 fun m m1 m2 => ?_
    have := h4 m (by omega)
    rw [hac, if_neg (by simp), List.getD_eq_getElem?_getD, List.getElem?_eq_getElem m1, List.getD_eq_getElem?_getD, List.getElem?_eq_getElem m2] at this
    exact this
  | false =>
    rw [if_neg (by simp)]
    refine List.ext_getElem (by simp [h3]) fun m m1 m2 => ?_
    have := h4 m (by omega)
    rw [hac, if_pos ⟨rfl, .inl (by omega)⟩] at this
    simpa [m1] using this
end Go.Proofs.YtnckpafknojdhaaDoor
set_option linter.unusedSimpArgs false
set_option linter.unusedVariables false
namespace Go.Proofs.YtnckpafknojdhaaDoor
def addTo (row : List Int) (c : Int) (k : Nat) (v : List Int) : List Int := (row.take k).foldl (fun v t => v.set t.toNat (v.getD t.toNat 0 + c)) v
theorem addTo_zero (row : List Int) (c : Int) (v : List Int) : addTo row c 0 v = v := rfl
theorem addTo_succ {row : List Int} {c : Int} {k : Nat} {v : List Int} (h : k < row.length) : addTo row c (k + 1) v = (addTo row c k v).set (row.getD k 0).toNat ((addTo row c k v).getD (row.getD k 0).toNat 0 + c) := by
  unfold addTo
  rw [take_snoc 0 h, List.foldl_append]
  rfl
def stepTo (a : A) (cs : List Int) (q : Nat) : List Int := (List.range q).foldl (fun v i => addTo (a.next.getD i []) (cs.getD i 0) (a.next.getD i []).length v) (List.replicate a.next.length 0)
theorem stepTo_zero (a : A) (cs : List Int) : stepTo a cs 0 = List.replicate a.next.length 0 := rfl
theorem stepTo_succ (a : A) (cs : List Int) (q : Nat) : stepTo a cs (q + 1) = addTo (a.next.getD q []) (cs.getD q 0) (a.next.getD q []).length (stepTo a cs q) := by
  unfold stepTo
  rw [List.range_succ, List.foldl_append]
  rfl
def sumTo (a : A) (cs : List Int) (q : Nat) : Int := (List.range q).foldl (fun s i => if a.acc.getD i false then s + cs.getD i 0 else s) 0
def cnt (a : A) : Nat → List Int → Int
  | 0, cs => sumTo a cs a.next.length
  | m + 1, cs => sumTo a cs a.next.length + cnt a m (stepTo a cs a.next.length)
def start (a : A) : List Int := (List.replicate a.next.length (0 : Int)).set 0 1
def count (a : A) (n : Int) : Int := if validA a = true ∧ 0 ≤ n ∧ n ≤ 7 then cnt a n.toNat (start a) else -1
def InB (v : List Int) (b : Int) : Prop := ∀ x ∈ v, 0 ≤ x ∧ x ≤ b
theorem InB.at {v : List Int} {b : Int} (h : InB v b) (hb : 0 ≤ b) (k : Nat) : 0 ≤ v.getD k 0 ∧ v.getD k 0 ≤ b := by
  rcases Nat.lt_or_ge k v.length with hk | hk
  · exact h _ (getD_mem hk)
  · simp [hk, hb]
theorem InB.mono {v : List Int} {b b' : Int} (h : InB v b) (hb : b ≤ b') : InB v b' := fun x hx => ⟨(h x hx).1, Int.le_trans (h x hx).2 hb⟩
theorem InB.add {v : List Int} {b c m : Int} (h : InB v b) (hb : 0 ≤ b) (hc : 0 ≤ c ∧ c ≤ m) (k : Nat) : InB (v.set k (v.getD k 0 + c)) (b + m) := by
  intro x hx
  have hv := h.at hb k
  rcases List.mem_or_eq_of_mem_set hx with h1 | h1
  · have := h x h1; omega
  · subst h1; omega
theorem InB.addTo {row v : List Int} {c b m : Int} (hv : InB v b) (hb : 0 ≤ b) (hc : 0 ≤ c ∧ c ≤ m) (k : Nat) (hk : k ≤ row.length) : InB (addTo row c k v) (b + k * m) := by
  induction k with
  | zero => simpa [addTo_zero] using hv
  | succ k ih =>
    rw [addTo_succ (by omega)]
    have h1 := ih (by omega)
    have hm : 0 ≤ (k : Int) * m := Int.mul_nonneg (by omega) (by omega)
    have := InB.add h1 (by omega) hc (row.getD k 0).toNat
    rw [show b + ((k + 1 : Nat) : Int) * m = b + (k : Int) * m + m by rw [Int.natCast_add, Int.add_mul]; omega]
    exact this
theorem InB.stepTo {a : A} {cs : List Int} {m : Int} (hv : validA a = true) (h : InB cs m) (hm : 0 ≤ m) (q : Nat) : InB (stepTo a cs q) (q * (6 * m)) := by
  induction q with
  | zero => intro x hx; rw [stepTo_zero] at hx; have := List.eq_of_mem_replicate hx; omega
  | succ q ih =>
    rw [stepTo_succ]
    have h0 : 0 ≤ (q : Int) * (6 * m) := Int.mul_nonneg (by omega) (by omega)
    have h1 := InB.addTo ih h0 (h.at hm q) (a.next.getD q []).length (Nat.le_refl _)
    have h6 := valid_row6 hv (k := q)
    have h2 : (((a.next.getD q []).length : Nat) : Int) * m ≤ 6 * m := Int.mul_le_mul_of_nonneg_right (by omega) hm
    refine h1.mono ?_
    rw [Int.natCast_add, Int.add_mul]
    omega
end Go.Proofs.YtnckpafknojdhaaDoor
set_option linter.unusedSimpArgs false
set_option linter.unusedVariables false
namespace Go.Proofs.YtnckpafknojdhaaDoor
def lts (s : ByteArray) : List Int := s.data.toList.map fun b => (b.toNat : Int) - 97
theorem lts_length (s : ByteArray) : (lts s).length = s.size := by
  rw [lts, List.length_map]; rfl
theorem lts_at {s : ByteArray} {k : Nat} (h : k < s.size) : (lts s).getD k 0 = ((s.data.toList.getD k 0).toNat : Int) - 97 := by
  have h1 : k < s.data.toList.length := h
  rw [lts, List.getD_eq_getElem?_getD, List.getElem?_map, List.getElem?_eq_getElem h1, List.getD_eq_getElem?_getD, List.getElem?_eq_getElem h1]
  rfl
def within (s : ByteArray) (al : Int) : Bool := decide (0 ≤ al ∧ al ≤ 63) && (decide ((s.size : Int) ≤ 50000) && (lts s).all (hs al))
def runTo (a : A) (q : Int) (s : ByteArray) (k : Nat) : Int := ((lts s).take k).foldl (goA a) q
def after (a : A) (s : ByteArray) : Int := if validA a = true ∧ within s a.al = true then runTo a 0 s s.size else -1
def clip (x : Int) : Int := if 0 ≤ x ∧ x < 6 then x else -1
theorem clip_in {x : Int} (h : 0 ≤ x ∧ x < 6) : clip x = x := if_pos h
theorem clip_out {x : Int} (h : ¬ (0 ≤ x ∧ x < 6)) : clip x = -1 := if_neg h
def bit (x : Int) : Int := 2 ^ x.toNat
theorem bit_in {x : Int} (h : 0 ≤ x ∧ x < 6) : 0 ≤ bit x ∧ bit x ≤ 63 := by
  obtain ⟨m, rfl⟩ := Int.eq_ofNat_of_zero_le h.1
  have : ∀ m : Fin 6, 0 ≤ bit (m.val : Int) ∧ bit (m.val : Int) ≤ 63 := by decide
  exact this ⟨m, by omega⟩
end Go.Proofs.YtnckpafknojdhaaDoor
set_option linter.unusedSimpArgs false
set_option linter.unusedVariables false
namespace Go.Proofs.YtnckpafknojdhaaDoor
def run (a : A) (q : Int) (w : List Int) : Int := w.foldl (goA a) q
section
variable {P : Program} {N : Nat} {ops : Array Oper} {Q : Exit → Act → World → Prop} {S : World → Prop} {k fuel : Nat} {listed : Array Bool} {l : Slots} {w : World}
theorem Gq.beT {b : Bool} {d : Nat} (e : b = true) (h : Gq P N ops Q S k fuel listed ((d, .bool true) :: l) w) : Gq P N ops Q S k fuel listed ((d, .bool b) :: l) w := by rw [e]; exact h
theorem Gq.beF {b : Bool} {d : Nat} (e : b = false) (h : Gq P N ops Q S k fuel listed ((d, .bool false) :: l) w) : Gq P N ops Q S k fuel listed ((d, .bool b) :: l) w := by rw [e]; exact h
end
def RevAt (xs : List UInt8) (k : Nat) (ys : List UInt8) : Prop := ys.length = xs.length ∧ ∀ m, m < xs.length → ys.getD m 0 = if m < k ∨ xs.length - 1 - k < m then xs.getD (xs.length - 1 - m) 0 else xs.getD m 0
theorem RevAt.zero (xs : List UInt8) : RevAt xs 0 xs := ⟨rfl, fun m hm => by rw [if_neg (by omega)]⟩
theorem getD_setU (l : List UInt8) (k m : Nat) (x : UInt8) (hk : k < l.length) : (l.set k x).getD m 0 = if k = m then x else l.getD m 0 := by
  rw [List.getD_eq_getElem?_getD, List.getElem?_set]
  by_cases h : k = m
  · subst h; simp [hk]
  · simp [h]
theorem RevAt.step {xs ys : List UInt8} {k : Nat} (h : RevAt xs k ys) (hk : k < xs.length - 1 - k) : RevAt xs (k + 1) ((ys.set k (ys.getD (xs.length - 1 - k) 0)).set (xs.length - 1 - k) (ys.getD k 0)) := by
  obtain ⟨h1, h2⟩ := h
  refine ⟨by simp [h1], fun m hm => ?_⟩
  rw [getD_setU _ _ _ _ (by rw [List.length_set]; omega), getD_setU _ _ _ _ (by omega)]
  by_cases e1 : xs.length - 1 - k = m
  · subst e1
    rw [if_pos rfl, h2 k (by omega), if_neg (by omega), if_pos (by omega)]
    congr 1; omega
  · rw [if_neg e1]
    by_cases e2 : k = m
    · subst e2
      rw [if_pos rfl, h2 _ (by omega), if_neg (by omega), if_pos (by omega)]
    · rw [if_neg e2, h2 m hm]
      by_cases h3 : m < k ∨ xs.length - 1 - k < m
      · rw [if_pos h3, if_pos (by omega)]
      · rw [if_neg h3, if_neg (by omega)]
theorem RevAt.done {xs ys : List UInt8} {k : Nat} (h : RevAt xs k ys) (hk : xs.length - 1 ≤ k + k) : ys = xs.reverse := by
  obtain ⟨h1, h2⟩ := h
  refine List.ext_getElem (by rw [h1, List.length_reverse]) fun m m1 m2 => ?_
  have h3 := h2 m (by omega)
  rw [List.getD_eq_getElem?_getD, List.getElem?_eq_getElem m1] at h3
  rw [List.getElem_reverse]
  have h4 : xs.length - 1 - m < xs.length := by omega
  have e : xs.getD (xs.length - 1 - m) 0 = xs[xs.length - 1 - m] := by rw [List.getD_eq_getElem?_getD, List.getElem?_eq_getElem h4]; rfl
  rw [← e]
  by_cases h5 : m < k ∨ xs.length - 1 - k < m
  · rw [if_pos h5] at h3; exact h3
  · rw [if_neg h5] at h3
    have : xs.length - 1 - m = m := by omega
    rw [this]; exact h3
end Go.Proofs.YtnckpafknojdhaaDoor
set_option linter.unusedSimpArgs false
set_option linter.unusedVariables false
namespace Go.Proofs.YtnckpafknojdhaaDoor
def many (n : Nat) : Nat := if h : n = 0 then 200 else many (n - 1)
  termination_by n
section bfs
variable {α : Type} [DecidableEq α]
def addNode (ns : List α) (x : α) : List α := if x ∈ ns then ns else ns ++ [x]
def addAll (ns : List α) (xs : List α) : List α := xs.foldl addNode ns
def bfs (f : α → Int → α) (s : α) (L : List Int) : Nat → List α
  | 0 => [s]
  | i + 1 => match (bfs f s L i)[i]? with
    | some q => addAll (bfs f s L i) (L.map (f q))
    | none => bfs f s L i
variable {f : α → Int → α} {s : α} {L : List Int}
def ord (f : α → Int → α) (s : α) (L : List Int) : List α := bfs f s L (many 0)
def rowAt (f : α → Int → α) (L : List Int) (ns : List α) (q : α) : List Int := L.map fun l => (ns.idxOf (f q l) : Int)
end bfs
section maps
variable {α β : Type} [DecidableEq α] [DecidableEq β] {f : α → Int → α} {s : α} {L : List Int} {f' : β → Int → β} {g : α → β} {P : α → Prop}
end maps
def num {α : Type} [DecidableEq α] (al : Int) (f : α → Int → α) (s : α) (acc : α → Bool) : A :=
  ⟨al, (ord f s (letters al)).map (rowAt f (letters al) (ord f s (letters al))), (ord f s (letters al)).map acc⟩
section num
variable {α : Type} [DecidableEq α] {al : Int} {f : α → Int → α} {s : α} {acc : α → Bool}
end num
end Go.Proofs.YtnckpafknojdhaaDoor
set_option linter.unusedSimpArgs false
set_option linter.unusedVariables false
namespace Go.Proofs.YtnckpafknojdhaaDoor
open Go.RowKit
def OwnRowsZ (w : World) (B U : Nat) (e e' : TypeId) (v : Value) (xss : List (List Int)) (z : Value) : Prop :=
  ∃ rs, Own w B e v rs ∧ rs.length = xss.length ∧ (∀ i r, rs[i]? = some r → Own w B e' r ((xss.getD i []).map (Value.int .i64)) ∧ ∀ k, r.ownBlock = some k → k < U ∧ z.ownBlock ≠ some k) ∧
    ∀ (i j : Nat) (r r' : Value), rs[i]? = some r → rs[j]? = some r' → i ≠ j → ∀ k, r.ownBlock = some k → r'.ownBlock ≠ some k
section
variable {w w' : World} {B U : Nat} {e e' : TypeId} {v z : Value} {xss : List (List Int)}
theorem OwnRowsZ.nil (w : World) (B U : Nat) (e e' : TypeId) (z : Value) : OwnRowsZ w B U e e' (.slice none 0 0) [] z := ⟨[], Own.nil _ _ _, rfl, by simp, by simp⟩
theorem OwnRowsZ.ext (h : OwnRowsZ w B U e e' v xss z) (x : Ext w w') : OwnRowsZ w' B U e e' v xss z := by
  obtain ⟨rs, h1, h2, h3, h4⟩ := h
  exact ⟨rs, h1.ext x, h2, fun i r hr => ⟨(h3 i r hr).1.ext x, (h3 i r hr).2⟩, h4⟩
theorem OwnRowsZ.up {U' : Nat} (h : OwnRowsZ w B U e e' v xss z) (hU : U ≤ U') : OwnRowsZ w B U' e e' v xss z := by
  obtain ⟨rs, h1, h2, h3, h4⟩ := h
  exact ⟨rs, h1, h2, fun i r hr => ⟨(h3 i r hr).1, fun k hk => ⟨Nat.lt_of_lt_of_le ((h3 i r hr).2 k hk).1 hU, ((h3 i r hr).2 k hk).2⟩⟩, h4⟩
theorem OwnRowsZ.now (h : OwnRowsZ w B U e e' v xss z) : OwnRowsZ w B w.heap.size e e' v xss z := by
  obtain ⟨rs, h1, h2, h3, h4⟩ := h
  exact ⟨rs, h1, h2, fun i r hr => ⟨(h3 i r hr).1, fun k hk => ⟨((h3 i r hr).1.lt k hk).2, ((h3 i r hr).2 k hk).2⟩⟩, h4⟩
theorem OwnRowsZ.apart {B' : Nat} {u : Value} {us : List Value} (h : OwnRowsZ w B U e e' v xss z) (ho : Own w B' e' u us) (hg : w.grownBy w' u.ownBlock) (hB : U ≤ B') (hne : e' ≠ e) : OwnRowsZ w' B U e e' v xss z := by
  obtain ⟨rs, h1, h2, h3, h4⟩ := h
  refine ⟨rs, h1.owned ho hg hne, h2, fun i r hr => ⟨(h3 i r hr).1.grown hg (fun k hk hc => ?_), (h3 i r hr).2⟩, h4⟩
  have := ((h3 i r hr).2 k hk).1
  have := (ho.lt k hc).1
  omega
theorem OwnRowsZ.open (h : OwnRowsZ w B U e e' v xss z) (hne : e ≠ e') : ∃ rs, Own w B e v rs ∧ rs.length = xss.length ∧
    ∀ r xs w1 v' w', Ext w w1 → Own w1 U e' r (xs.map (Value.int .i64)) → Apart z r → B ≤ U → Own w' B e v' (rs ++ [r]) → w1.grownBy w' v.ownBlock → OwnRowsZ w' B w'.heap.size e e' v' (xss ++ [xs]) z := by
  obtain ⟨rs, h1, h2, h3, h4⟩ := h
  refine ⟨rs, h1, h2, fun r xs w1 v' w' x hr ha hBU hv hg => ?_⟩
  have hv1 := h1.ext x
  have hr' := hr.owned hv1 hg hne
  have hrow : ∀ i q, (rs ++ [r])[i]? = some q → (rs[i]? = some q ∧ i < rs.length) ∨ (i = rs.length ∧ q = r) := by
    intro i q hq
    rw [List.getElem?_append] at hq
    split at hq
    · exact .inl ⟨hq, by assumption⟩
    · right
      have : i - rs.length = 0 := by
        rcases Nat.eq_zero_or_pos (i - rs.length) with h | h
        · exact h
        · rw [List.getElem?_eq_none (by simp; omega)] at hq; cases hq
      rw [this] at hq
      simp at hq
      exact ⟨by omega, hq.symm⟩
  refine ⟨rs ++ [r], hv, by simp [h2], fun i q hq => ?_, fun i j q q' hq hq' hij k hk hk' => ?_⟩
  · rcases hrow i q hq with ⟨hq, hlt⟩ | ⟨rfl, rfl⟩
    · have e1 : (xss ++ [xs]).getD i [] = xss.getD i [] := by
        simp [List.getElem?_append, show i < xss.length by omega]
      rw [e1]
      have ho := ((h3 i q hq).1.ext x).owned hv1 hg hne
      exact ⟨ho, fun k hk => ⟨(ho.lt k hk).2, ((h3 i q hq).2 k hk).2⟩⟩
    · have e1 : (xss ++ [xs]).getD rs.length [] = xs := by
        simp [List.getElem?_append, h2]
      rw [e1]
      exact ⟨hr'.mono hBU, fun k hk => ⟨(hr'.lt k hk).2, fun hc => ha k hc hk⟩⟩
  · rcases hrow i q hq with ⟨hq1, _⟩ | ⟨hi1, hq1⟩ <;> rcases hrow j q' hq' with ⟨hq2, _⟩ | ⟨hj1, hq2⟩
    · exact h4 i j q q' hq1 hq2 hij k hk hk'
    · have a1 := ((h3 i q hq1).2 k hk).1
      have a2 := (hr.lt k (hq2 ▸ hk')).1
      omega
    · have a1 := ((h3 j q' hq2).2 k hk').1
      have a2 := (hr.lt k (hq1 ▸ hk)).1
      omega
    · exact hij (by omega)
end
theorem Ints.low {w : World} {e : TypeId} {v : Value} {xs : List Int} (h : Ints w e v xs) (hx : 0 < xs.length) : ∀ k, v.ownBlock = some k → k < w.heap.size := by
  intro k hk
  rcases h with ⟨h0, _⟩ | ⟨b, o, c, cur, fr, rfl, hb, _⟩
  · rw [List.map_eq_nil_iff] at h0; subst h0; simp at hx
  · simp [Value.ownBlock] at hk
    subst hk
    exact lt_of_block hb
section three
variable {P : Program} {N : Nat} {ops : Array Oper} {Q : Exit → Act → World → Prop} {S : World → Prop} {k fuel : Nat} {listed : Array Bool} {l : Slots} {w : World}
theorem Gq.three {o o' o'' : Oper} (i j m : Nat) (hi : ops[i]? = some o) (hj : ops[j]? = some o') (hm : ops[m]? = some o'') (hr : (Region.ready .any ops listed == [i, j, m]) = true) (h : Sq P N ops (AfterG P ops Q S k fuel i listed) [o] l w) (h' : Sq P N ops (AfterG P ops Q S k fuel j listed) [o'] l w) (h'' : Sq P N ops (AfterG P ops Q S k fuel m listed) [o''] l w) : Gq P N ops Q S k (fuel + 1) listed l w := by
  intro a ha
  have hr' : Region.ready .any ops listed = [i, j, m] := by simpa using hr
  refine ⟨fun h0 => absurd (hr' ▸ h0) (by simp), fun n hn => ?_⟩
  rw [hr'] at hn
  rcases List.mem_cons.1 hn with rfl | hn
  · exact wpOp_of_list (Q' := AfterG P ops Q S k fuel _ listed) hi (fun _ _ => rfl) (fun _ _ _ => rfl) (fun _ _ => rfl) (h a ha)
  · rcases List.mem_cons.1 hn with rfl | hn
    · exact wpOp_of_list (Q' := AfterG P ops Q S k fuel _ listed) hj (fun _ _ => rfl) (fun _ _ _ => rfl) (fun _ _ => rfl) (h' a ha)
    · obtain rfl : n = m := by simpa using hn
      exact wpOp_of_list (Q' := AfterG P ops Q S k fuel _ listed) hm (fun _ _ => rfl) (fun _ _ _ => rfl) (fun _ _ => rfl) (h'' a ha)
end three
section wid2
variable {w : World} {B : Nat} {e : TypeId} {v : Value} {ps : List (Int × Int)}
theorem Wid.shape {n : Nat} {rows : List (List Value)} (h : Wid w B e n v rows) : ∃ p c, v = .slice p rows.length c := by
  rcases h.cases with ⟨rfl, rfl⟩ | ⟨g, cap, cs, rfl, _⟩
  · exact ⟨none, 0, rfl⟩
  · exact ⟨_, _, rfl⟩
end wid2
section wid3
variable {P : Program} {N : Nat} {ops : Array Oper} {Q : Exit → Act → World → Prop} {rest : List Oper} {l : Slots} {w : World}
variable {d : Nat} {ty : TypeId} {pos : String} {after : Array Edge} {g : Option (Nat × Bool)}
end wid3
theorem Wid.low {w : World} {B n : Nat} {e : TypeId} {v : Value} {rows : List (List Value)} (h : Wid w B e n v rows) : ∀ k, v.ownBlock = some k → k < w.heap.size := fun k hk => (h.lt k hk).2
end Go.Proofs.YtnckpafknojdhaaDoor
set_option linter.unusedSimpArgs false
set_option linter.unusedVariables false
namespace Go.Proofs.YtnckpafknojdhaaDoor
def lexLt : List Int → List Int → Prop
  | [], [] => False
  | [], _ :: _ => True
  | _ :: _, [] => False
  | x :: v, y :: w => x < y ∨ (x = y ∧ lexLt v w)
def sl (v w : List Int) : Prop := v.length < w.length ∨ (v.length = w.length ∧ lexLt v w)
def sle (v w : List Int) : Prop := v = w ∨ sl v w
def nodeOf {α : Type} (f : α → Int → α) (s : α) (w : List Int) : α := w.foldl f s
section
variable {α : Type} [DecidableEq α]
def wadd (f : α → Int → α) (s : α) (ws : List (List Int)) (v : List Int) : List (List Int) := if nodeOf f s v ∈ ws.map (nodeOf f s) then ws else ws ++ [v]
variable {f : α → Int → α} {s : α} {L : List Int}
end
end Go.Proofs.YtnckpafknojdhaaDoor
set_option linter.unusedSimpArgs false
set_option linter.unusedVariables false
namespace Go.Proofs.YtnckpafknojdhaaDoor
open Go.RowKit
def txb (w : List Int) : List UInt8 := w.map fun x => UInt8.ofNat (97 + x).toNat
def txt (w : List Int) : ByteArray := ⟨(txb w).toArray⟩
theorem txt_snoc (w : List Int) (x : Int) : txt (w ++ [x]) = txt w ++ chr x := by
  apply ByteArray.ext
  simp [txt, txb, chr]
def stepV (r : Int × Int × Value) : List Value := [.int .i64 r.1, .int .i64 r.2.1, r.2.2]
def rows3 (rs : List (Int × Int × Value)) : List (List Value) := rs.map stepV
section
variable {w w' : World} {B : Nat} {e : TypeId} {v : Value} {rs : List (Int × Int × Value)}
end
def Link (ws : List (List Int)) (p l : Int) (v : List Int) : Prop := (v = [] ∧ p = -1) ∨ ∃ u, v = u ++ [l] ∧ 0 ≤ p ∧ ws[p.toNat]? = some u
theorem Link.more {ws : List (List Int)} {p l : Int} {v : List Int} (h : Link ws p l v) (us : List (List Int)) : Link (ws ++ us) p l v := by
  rcases h with h | ⟨u, h1, h2, h3⟩
  · exact .inl h
  · exact .inr ⟨u, h1, h2, by rw [List.getElem?_append_left (List.getElem?_eq_some_iff.1 h3).1]; exact h3⟩
structure Trail (w : World) (I : TypeId) (f : Int → Int → Int) (s : Int) (ws : List (List Int)) (rs : List (Int × Int × Value)) : Prop where
  len : rs.length = ws.length
  row : ∀ (j : Nat) (v : List Int), ws[j]? = some v → ∃ p l fv, rs[j]? = some (p, l, fv) ∧ Link ws p l v ∧ Ints w I fv [nodeOf f s v]
  lets : ∀ v ∈ ws, ∀ x ∈ v, 0 ≤ x ∧ x < 6
section
variable {w w' : World} {I : TypeId} {f : Int → Int → Int} {s : Int} {ws : List (List Int)} {rs : List (Int × Int × Value)}
theorem Trail.map (h : Trail w I f s ws rs) (k : ∀ v xs, Ints w I v xs → Ints w' I v xs) : Trail w' I f s ws rs :=
  ⟨h.len, fun j v hv => by
    obtain ⟨p, l, fv, h1, h2, h3⟩ := h.row j v hv
    exact ⟨p, l, fv, h1, h2, k _ _ h3⟩, h.lets⟩
theorem Trail.ext (h : Trail w I f s ws rs) (x : Ext w w') : Trail w' I f s ws rs := h.map fun _ _ h => h.ext x
theorem Trail.owned {B : Nat} {t : TypeId} {u : Value} {us : List Value} (h : Trail w I f s ws rs) (ho : Own w B t u us) (hg : w.grownBy w' u.ownBlock) (hne : t ≠ I) : Trail w' I f s ws rs := h.map fun _ _ h => Row.owned h ho hg hne
theorem Trail.stored {g : Nat} {t : TypeId} {cs : List Value} (h : Trail w I f s ws rs) (hg : w.grownBy w' (some g)) (hb : Blk w g t cs) (hne : t ≠ I) : Trail w' I f s ws rs := h.map fun _ _ h => Row.stored h hg hb hne
theorem Trail.nil (w : World) (I : TypeId) (f : Int → Int → Int) (s : Int) : Trail w I f s [] [] := ⟨rfl, by simp, by simp⟩
theorem Trail.snoc (h : Trail w I f s ws rs) {p l : Int} {fv : Value} {v : List Int} (hl : Link ws p l v) (hf : Ints w I fv [nodeOf f s v]) (hv : ∀ x ∈ v, 0 ≤ x ∧ x < 6) : Trail w I f s (ws ++ [v]) (rs ++ [(p, l, fv)]) := by
  refine ⟨by simp [h.len], fun j u hu => ?_, fun u hu => ?_⟩
  · rcases Nat.lt_or_ge j ws.length with hj | hj
    · rw [List.getElem?_append_left hj] at hu
      obtain ⟨p', l', fv', h1, h2, h3⟩ := h.row j u hu
      exact ⟨p', l', fv', by rw [List.getElem?_append_left (by rw [h.len]; exact hj)]; exact h1, h2.more _, h3⟩
    · have hj2 := (List.getElem?_eq_some_iff.1 hu).1
      rw [List.length_append, List.length_singleton] at hj2
      obtain rfl : j = ws.length := by omega
      rw [List.getElem?_append_right (Nat.le_refl _), Nat.sub_self] at hu
      have hu' : v = u := by simpa using hu
      subst hu'
      exact ⟨p, l, fv, by rw [List.getElem?_append_right (by rw [h.len]; exact Nat.le_refl _), h.len, Nat.sub_self]; rfl, hl.more _, hf⟩
  · rcases List.mem_append.1 hu with h' | h'
    · exact h.lets u h'
    · rw [List.mem_singleton.1 h']; exact hv
end
def seenOf (n : Nat) (ns : List Int) : List Bool := (List.range n).map fun (i : Nat) => decide ((i : Int) ∈ ns)
def NClo (P : Program) (w0 : World) (I : TypeId) (fv : Value) (D : Int → Prop) (f : Int → Int → Int) : Prop :=
  ∃ k fn, ∃ cs : List Value, fv = .func (.func k) #[] cs.toArray ∧ Fn P k fn ∧ ∀ w q x, Ext w0 w → D q → 0 ≤ x ∧ x < 6 → Ret P k ([Value.int .i64 q, Value.int .i64 x, Value.slice none 0 0] ++ cs).toArray w fun v w' => Own w' w.heap.size I v [Value.int .i64 (f q x)] ∧ Ext w w'
def GClo (P : Program) (w0 : World) (gv : Value) (D : Int → Prop) (G : Int → Bool) : Prop :=
  ∃ k fn, ∃ cs : List Value, gv = .func (.func k) #[] cs.toArray ∧ Fn P k fn ∧ ∀ w q, Ext w0 w → D q → Ret P k ([Value.int .i64 q] ++ cs).toArray w fun v w' => v = .bool (G q) ∧ Ext w w'
theorem NClo.up {P : Program} {w0 w1 : World} {I : TypeId} {fv : Value} {D : Int → Prop} {f : Int → Int → Int} (h : NClo P w0 I fv D f) (x : Ext w0 w1) : NClo P w1 I fv D f := by
  obtain ⟨k, fn, cs, h1, h2, h3⟩ := h
  exact ⟨k, fn, cs, h1, h2, fun w q y hw hq hy => h3 w q y (x.trans hw) hq hy⟩
theorem GClo.up {P : Program} {w0 w1 : World} {gv : Value} {D : Int → Prop} {G : Int → Bool} (h : GClo P w0 gv D G) (x : Ext w0 w1) : GClo P w1 gv D G := by
  obtain ⟨k, fn, cs, h1, h2, h3⟩ := h
  exact ⟨k, fn, cs, h1, h2, fun w q hw hq => h3 w q (x.trans hw) hq⟩
def BClo (P : Program) (w0 : World) (gv : Value) (g : Bool → Bool → Bool) : Prop :=
  ∃ k fn, ∃ cs : List Value, gv = .func (.func k) #[] cs.toArray ∧ Fn P k fn ∧ ∀ w x y, Ext w0 w → Ret P k ([Value.bool x, Value.bool y] ++ cs).toArray w fun v w' => v = .bool (g x y) ∧ Ext w w'
theorem BClo.up {P : Program} {w0 w1 : World} {gv : Value} {g : Bool → Bool → Bool} (h : BClo P w0 gv g) (x : Ext w0 w1) : BClo P w1 gv g := by
  obtain ⟨k, fn, cs, h1, h2, h3⟩ := h
  exact ⟨k, fn, cs, h1, h2, fun w a b hw => h3 w a b (x.trans hw)⟩
theorem BClo.one {P : Program} {w0 : World} {gv : Value} {g : Bool → Bool → Bool} (h : BClo P w0 gv g) : gv.oneCell' = true := by
  obtain ⟨k, fn, cs, h1, _⟩ := h
  rw [h1]; rfl
def SMem (wb w : World) (I Bo LB S LS GT : TypeId) (B bs bt bg : Nat) (gv : Value) (n : Nat) (f : Int → Int → Int) (s : Int) (ws : List (List Int)) : Prop :=
  ∃ sv tv rs, Blk w bs LB [sv] ∧ Own w B Bo sv ((seenOf n (ws.map (nodeOf f s))).map Value.bool) ∧ Blk w bt LS [tv] ∧ Wid w B S 3 tv (rows3 rs) ∧ Trail w I f s ws rs ∧ Blk w bg GT [gv] ∧ Ext wb w ∧ wb.heap.size ≤ B ∧ wb.heap.size ≤ bs ∧ wb.heap.size ≤ bt ∧ B ≤ w.heap.size
section
variable {wb w w' : World} {I Bo LB S LS GT : TypeId} {B bs bt bg n : Nat} {gv : Value} {f : Int → Int → Int} {s : Int} {ws : List (List Int)}
theorem SMem.ext (h : SMem wb w I Bo LB S LS GT B bs bt bg gv n f s ws) (x : Ext w w') : SMem wb w' I Bo LB S LS GT B bs bt bg gv n f s ws := by
  obtain ⟨sv, tv, rs, h1, h2, h3, h4, h5, h6, h7, h8, h9, h10, h11⟩ := h
  exact ⟨sv, tv, rs, h1.ext x, h2.ext x, h3.ext x, h4.ext x, h5.ext x, h6.ext x, h7.trans x, h8, h9, h10, Nat.le_trans h11 (Below.size x)⟩
theorem SMem.base (h : SMem wb w I Bo LB S LS GT B bs bt bg gv n f s ws) : Ext wb w := by
  obtain ⟨sv, tv, rs, h1, h2, h3, h4, h5, h6, h7, h8⟩ := h
  exact h7
end
theorem Wid.one {w : World} {B n : Nat} {e : TypeId} {v : Value} {rows : List (List Value)} (h : Wid w B e n v rows) : v.oneCell' = true := by
  rcases h.cases with ⟨rfl, _⟩ | ⟨g, cap, cs, rfl, _⟩ <;> rfl
theorem Own.snocT {w : World} {B : Nat} {e : TypeId} {v : Value} {t : List Int} {l : Int} (h : Own w B e v ((txb t.reverse).map (fun b => Value.int .u8 (b.toNat : Int)) ++ [Value.int .u8 (97 + l)])) (hl : 0 ≤ l ∧ l < 6) : Own w B e v ((txb (l :: t).reverse).map fun b => Value.int .u8 (b.toNat : Int)) := by
  have e1 : (txb (l :: t).reverse).map (fun b => Value.int .u8 (b.toNat : Int)) = (txb t.reverse).map (fun b => Value.int .u8 (b.toNat : Int)) ++ [Value.int .u8 (97 + l)] := by
    have := u8_of (n := 97 + l) (by omega)
    simp only [txb, List.reverse_cons, List.map_append, List.map_cons, List.map_nil, this]
  rw [e1]; exact h
section
variable {f : Int → Int → Int} {s : Int} {L : List Int} {G : Int → Bool}
end
section maps
variable {α β : Type} [DecidableEq α] [DecidableEq β] {f : α → Int → α} {s : α} {L : List Int} {f' : β → Int → β} {g : α → β} {P : α → Prop}
end maps
end Go.Proofs.YtnckpafknojdhaaDoor
set_option linter.unusedSimpArgs false
set_option linter.unusedVariables false
namespace Go.Proofs.YtnckpafknojdhaaDoor
open Go.RowKit
section
variable {w w' : World} {B n : Nat} {e : TypeId} {v : Value} {rows : List (List Value)}
theorem Wid.rowAt (h : Wid w B e n v rows) {i : Int} (h0 : 0 ≤ i) {r : List Value} (hr : rows[i.toNat]? = some r) : ∃ g c, v = .slice (some ⟨g, 0, none⟩) rows.length c ∧ i.toNat < rows.length := by
  have hi := (List.getElem?_eq_some_iff.1 hr).1
  obtain ⟨g, c, hv, _⟩ := h.at h0 (by omega)
  exact ⟨g, c, hv, hi⟩
end
def NetA (w : World) (AU SI I Bo : TypeId) (av : Value) (aas : List A) : Prop :=
  ∃ B rows, Wid w B AU 3 av rows ∧ rows.length = aas.length ∧ ∀ (j : Nat) (a : A), aas[j]? = some a → ∃ nx ac, rows[j]? = some [.int .i64 a.al, nx, ac] ∧ Rows w SI I nx a.next ∧ Bools w Bo ac a.acc
theorem NetA.ext {w w' : World} {AU SI I Bo : TypeId} {av : Value} {aas : List A} (h : NetA w AU SI I Bo av aas) (x : Ext w w') : NetA w' AU SI I Bo av aas := by
  obtain ⟨B, rows, h1, h2, h3⟩ := h
  refine ⟨B, rows, h1.ext x, h2, fun j a ha => ?_⟩
  obtain ⟨nx, ac, g1, g2, g3⟩ := h3 j a ha
  exact ⟨nx, ac, g1, g2.ext x, g3.ext x⟩
theorem NetA.one {w : World} {AU SI I Bo : TypeId} {av : Value} {aas : List A} (h : NetA w AU SI I Bo av aas) : av.oneCell' = true := by
  obtain ⟨B, rows, h1, _⟩ := h
  exact h1.one
def Cell1 (w : World) (p : Addr) (u : Value) : Prop := w.cell? p = some u
theorem Cell1.ext {w w' : World} {p : Addr} {u : Value} (h : Cell1 w p u) (x : Ext w w') : Cell1 w' p u := by
  have hb := World.block_lt_of_cell? w p h
  unfold Cell1 at *
  rw [← h]
  unfold World.cell?
  rw [x.block p.block hb]
def Read3 (w : World) (e3 e2 e1 : TypeId) (v : Value) (xsss : List (List (List Int))) : Prop := ∃ rs, Row w e3 v rs ∧ rs.length = xsss.length ∧ ∀ (i : Nat) (r : Value), rs[i]? = some r → Rows w e2 e1 r (xsss.getD i [])
def RowU (w : World) (U : Nat) (e : TypeId) (v : Value) (vs : List Value) : Prop := Row w e v vs ∧ ∀ k, v.ownBlock = some k → k < U
def RowsU (w : World) (U : Nat) (e e' : TypeId) (v : Value) (xss : List (List Int)) : Prop := ∃ rs, RowU w U e v rs ∧ rs.length = xss.length ∧ ∀ (i : Nat) (r : Value), rs[i]? = some r → RowU w U e' r ((xss.getD i []).map (Value.int .i64))
def Own3 (w : World) (B U : Nat) (e3 e2 e1 : TypeId) (v : Value) (xsss : List (List (List Int))) : Prop := ∃ rs, Own w B e3 v rs ∧ rs.length = xsss.length ∧ ∀ (i : Nat) (r : Value), rs[i]? = some r → RowsU w U e2 e1 r (xsss.getD i [])
section
variable {w w' : World} {B U : Nat} {e e' e1 e2 e3 : TypeId} {v : Value} {vs : List Value} {xss : List (List Int)} {xsss : List (List (List Int))}
theorem RowU.ext (h : RowU w U e v vs) (x : Ext w w') : RowU w' U e v vs := ⟨h.1.ext x, h.2⟩
theorem RowU.apart {g : Nat} (h : RowU w U e v vs) (hg : w.grownBy w' (some g)) (hU : U ≤ g) : RowU w' U e v vs := by
  refine ⟨?_, h.2⟩
  rcases h.1 with h1 | ⟨b, o, c, cur, fr, hv, hb, hx⟩
  · exact .inl h1
  · refine .inr ⟨b, o, c, cur, fr, hv, ?_, hx⟩
    have hlt := h.2 b (by rw [hv]; rfl)
    rw [hg.block b (lt_of_block hb) (fun h => by injection h with h; omega)]
    exact hb
theorem RowU.other {B' : Nat} {t : TypeId} {u : Value} {us : List Value} (h : RowU w U e v vs) (ho : Own w B' t u us) (hg : w.grownBy w' u.ownBlock) (hne : t ≠ e) : RowU w' U e v vs := ⟨h.1.owned ho hg hne, h.2⟩
theorem RowsU.ext (h : RowsU w U e e' v xss) (x : Ext w w') : RowsU w' U e e' v xss := by
  obtain ⟨rs, h1, h2, h3⟩ := h
  exact ⟨rs, h1.ext x, h2, fun i r hr => (h3 i r hr).ext x⟩
theorem RowsU.apart {g : Nat} (h : RowsU w U e e' v xss) (hg : w.grownBy w' (some g)) (hU : U ≤ g) : RowsU w' U e e' v xss := by
  obtain ⟨rs, h1, h2, h3⟩ := h
  exact ⟨rs, h1.apart hg hU, h2, fun i r hr => (h3 i r hr).apart hg hU⟩
theorem RowsU.other {B' : Nat} {t : TypeId} {u : Value} {us : List Value} (h : RowsU w U e e' v xss) (ho : Own w B' t u us) (hg : w.grownBy w' u.ownBlock) (hne : t ≠ e) (hne' : t ≠ e') : RowsU w' U e e' v xss := by
  obtain ⟨rs, h1, h2, h3⟩ := h
  exact ⟨rs, h1.other ho hg hne, h2, fun i r hr => (h3 i r hr).other ho hg hne'⟩
theorem RowsU.up {U' : Nat} (h : RowsU w U e e' v xss) (hU : U ≤ U') : RowsU w U' e e' v xss := by
  obtain ⟨rs, h1, h2, h3⟩ := h
  exact ⟨rs, ⟨h1.1, fun k hk => Nat.lt_of_lt_of_le (h1.2 k hk) hU⟩, h2, fun i r hr => ⟨(h3 i r hr).1, fun k hk => Nat.lt_of_lt_of_le ((h3 i r hr).2 k hk) hU⟩⟩
theorem RowsU.rows (h : RowsU w U e e' v xss) : Rows w e e' v xss := by
  obtain ⟨rs, h1, h2, h3⟩ := h
  exact ⟨rs, h1.1, h2, fun i r hr => (h3 i r hr).1⟩
theorem RowsU.of (h : OwnRows w B w.heap.size e e' v xss) : RowsU w w.heap.size e e' v xss := by
  obtain ⟨rs, h1, h2, h3, h4⟩ := h
  exact ⟨rs, ⟨h1.row, fun k hk => (h1.lt k hk).2⟩, h2, fun i r hr => ⟨(h3 i r hr).1.row, (h3 i r hr).2⟩⟩
theorem Own3.nil (w : World) (B U : Nat) (e3 e2 e1 : TypeId) {v : Value} (h : Own w B e3 v []) : Own3 w B U e3 e2 e1 v [] := ⟨[], h, rfl, by simp⟩
theorem Own3.now (h : Own3 w B U e3 e2 e1 v xsss) (hU : U ≤ w.heap.size := by omega) : Own3 w B w.heap.size e3 e2 e1 v xsss := by
  obtain ⟨rs, h1, h2, h3⟩ := h
  exact ⟨rs, h1, h2, fun i r hr => (h3 i r hr).up hU⟩
theorem Own3.ext (h : Own3 w B U e3 e2 e1 v xsss) (x : Ext w w') : Own3 w' B U e3 e2 e1 v xsss := by
  obtain ⟨rs, h1, h2, h3⟩ := h
  exact ⟨rs, h1.ext x, h2, fun i r hr => (h3 i r hr).ext x⟩
theorem Own3.apart {B' : Nat} {t : TypeId} {u : Value} {us : List Value} (h : Own3 w B U e3 e2 e1 v xsss) (ho : Own w B' t u us) (hg : w.grownBy w' u.ownBlock) (hB : U ≤ B') (hne : t ≠ e3) : Own3 w' B U e3 e2 e1 v xsss := by
  obtain ⟨rs, h1, h2, h3⟩ := h
  refine ⟨rs, h1.owned ho hg hne, h2, fun i r hr => ?_⟩
  rcases ho.cases with ⟨rfl, rfl⟩ | ⟨g, cap, cs, rfl, hg', hb, _⟩
  · exact (h3 i r hr).ext (Ext.of_grown hg)
  · exact (h3 i r hr).apart (g := g) hg (Nat.le_trans hB hg')
theorem Own3.open (h : Own3 w B U e3 e2 e1 v xsss) (hne : e3 ≠ e2) (hne' : e3 ≠ e1) : ∃ rs, Own w B e3 v rs ∧ rs.length = xsss.length ∧
    ∀ r xss w1 v' w', Ext w w1 → RowsU w1 w1.heap.size e2 e1 r xss → U ≤ w1.heap.size → Own w' B e3 v' (rs ++ [r]) → w1.grownBy w' v.ownBlock → Own3 w' B w'.heap.size e3 e2 e1 v' (xsss ++ [xss]) := by
  obtain ⟨rs, h1, h2, h3⟩ := h
  refine ⟨rs, h1, h2, fun r xss w1 v' w' x hr hU hv hg => ?_⟩
  have hv1 := h1.ext x
  have hsz := World.grownBy.size hg
  refine ⟨rs ++ [r], hv, by simp [h2], fun i q hq => ?_⟩
  rcases Nat.lt_or_ge i rs.length with hi | hi
  · rw [List.getElem?_append_left hi] at hq
    have e4 : (xsss ++ [xss]).getD i [] = xsss.getD i [] := by
      rw [List.getD_eq_getElem?_getD, List.getElem?_append_left (by omega), ← List.getD_eq_getElem?_getD]
    rw [e4]
    exact (((h3 i q hq).ext x).other hv1 hg hne hne').up (by omega)
  · have hi2 := (List.getElem?_eq_some_iff.1 hq).1
    rw [List.length_append, List.length_singleton] at hi2
    obtain rfl : i = rs.length := by omega
    rw [List.getElem?_append_right (Nat.le_refl _), Nat.sub_self] at hq
    have hq' : r = q := by simpa using hq
    subst hq'
    have e4 : (xsss ++ [xss]).getD rs.length [] = xss := by
      rw [h2, List.getD_eq_getElem?_getD, List.getElem?_append_right (Nat.le_refl _), Nat.sub_self]; rfl
    rw [e4]
    exact (hr.other hv1 hg hne hne').up hsz
theorem Read3.ext (h : Read3 w e3 e2 e1 v xsss) (x : Ext w w') : Read3 w' e3 e2 e1 v xsss := by
  obtain ⟨rs, h1, h2, h3⟩ := h
  exact ⟨rs, h1.ext x, h2, fun i r hr => (h3 i r hr).ext x⟩
theorem Read3.at (h : Read3 w e3 e2 e1 v xsss) {i : Int} (hi : 0 ≤ i) (hlt : i.toNat < xsss.length) : ∃ p r, At w e3 v i p r ∧ Rows w e2 e1 r (xsss.getD i.toNat []) := by
  obtain ⟨rs, h1, h2, h3⟩ := h
  have hl : i.toNat < rs.length := by omega
  obtain ⟨p, hp⟩ := h1.at hi hl
  exact ⟨p, rs[i.toNat], hp, h3 _ _ (List.getElem?_eq_getElem hl)⟩
end
section
variable {f : Int → Int → Int} {L : List Int} {G : Int → Bool} {n : Nat}
end
section
variable {w : World} {B : Nat} {AU SI I Bo : TypeId} {v nx ac nx' ac' : Value} {a b : A}
end
end Go.Proofs.YtnckpafknojdhaaDoor
set_option linter.unusedSimpArgs false
set_option linter.unusedVariables false
namespace Go.Proofs.YtnckpafknojdhaaDoor
def IsFirst (L : List Int) (G : List Int → Bool) : Option (List Int) → Prop
  | some w => (∀ x ∈ w, x ∈ L) ∧ G w = true ∧ ∀ v : List Int, (∀ x ∈ v, x ∈ L) → G v = true → sle w v
  | none => ∀ v : List Int, (∀ x ∈ v, x ∈ L) → G v = false
theorem IsFirst.isSome {L : List Int} {G : List Int → Bool} {o : Option (List Int)} (h : IsFirst L G o) : o.isSome = true ↔ ∃ v : List Int, (∀ x ∈ v, x ∈ L) ∧ G v = true := by
  cases o with
  | none => exact ⟨fun h' => (by cases h'), fun ⟨v, hv, hg⟩ => by rw [h v hv] at hg; cases hg⟩
  | some w => exact ⟨fun _ => ⟨w, h.1, h.2.1⟩, fun _ => rfl⟩
theorem IsFirst.isNone {L : List Int} {G : List Int → Bool} {o : Option (List Int)} (h : IsFirst L G o) : o.isSome = false ↔ ∀ v : List Int, (∀ x ∈ v, x ∈ L) → G v = false := by
  cases o with
  | none => exact ⟨fun _ => h, fun _ => rfl⟩
  | some w => exact ⟨fun h' => (by cases h'), fun h' => by have := h' w h.1; rw [h.2.1] at this; cases this⟩
section
variable {a b : A}
end
end Go.Proofs.YtnckpafknojdhaaDoor
set_option linter.unusedSimpArgs false
set_option linter.unusedVariables false
namespace Go.Proofs.YtnckpafknojdhaaDoor
section
variable {a b : A}
end
section
open Classical
variable {α : Type} {f : α → Int → α} {L : List Int} {G : α → Bool} {U : List α}
def Alike (f : α → Int → α) (L : List Int) (G : α → Bool) (k : Nat) (x y : α) : Prop := ∀ w : List Int, w.length < k → (∀ l ∈ w, l ∈ L) → G (nodeOf f x w) = G (nodeOf f y w)
theorem Alike.refl (k : Nat) (x : α) : Alike f L G k x x := fun _ _ _ => rfl
theorem Alike.symm {k : Nat} {x y : α} (h : Alike f L G k x y) : Alike f L G k y x := fun w h1 h2 => (h w h1 h2).symm
theorem Alike.trans {k : Nat} {x y z : α} (h : Alike f L G k x y) (h' : Alike f L G k y z) : Alike f L G k x z := fun w h1 h2 => (h w h1 h2).trans (h' w h1 h2)
end
section
variable {a b : A}
end
end Go.Proofs.YtnckpafknojdhaaDoor
set_option linter.unusedSimpArgs false
set_option linter.unusedVariables false
namespace Go.Proofs.YtnckpafknojdhaaDoor
section
variable {κ μ : Type} [DecidableEq κ] [DecidableEq μ] {xs : List κ}
def dd (xs : List κ) : List κ := addAll [] xs
end
section
variable {a : A}
end
end Go.Proofs.YtnckpafknojdhaaDoor
set_option linter.unusedSimpArgs false
set_option linter.unusedVariables false
namespace Go.Proofs.YtnckpafknojdhaaDoor
def rowQ (a : A) (cs : List Int) (q : Nat) : List Int := (a.next.getD q []).map fun t => cs.getD t.toNat 0
def quo (a : A) (cs : List Int) : A := ⟨a.al, (dd cs).map fun c => rowQ a cs (cs.idxOf c), (dd cs).map fun c => a.acc.getD (cs.idxOf c) false⟩
section
variable {a b : A}
end
section
variable {α β : Type} [DecidableEq α] [DecidableEq β] {f : α → Int → α} {s : α} {L : List Int} {f' : β → Int → β} {g : α → β}
def pick (f' : β → Int → β) (s' : β) (us : List (List Int)) (ws : List (List Int)) : List (List Int) := ws.foldl (fun us w => wadd f' s' us w) us
end
section
variable {a : A}
end
end Go.Proofs.YtnckpafknojdhaaDoor
set_option linter.unusedSimpArgs false
set_option linter.unusedVariables false
namespace Go.Proofs.YtnckpafknojdhaaDoor
instance memKeys (x : ByteArray) (l : List ByteArray) : Decidable (x ∈ l) := @List.instDecidableMemOfLawfulBEq ByteArray (@instBEqOfDecidableEq ByteArray _) _ x l
def itoa (x : Int) : ByteArray := if x < 10 then ⟨#[UInt8.ofNat (48 + x.toNat)]⟩ else ⟨#[UInt8.ofNat (48 + x.toNat / 10), UInt8.ofNat (48 + x.toNat % 10)]⟩
def digS : ByteArray := ⟨#[48, 49, 50, 51, 52, 53, 54, 55, 56, 57, 97, 98, 99, 100, 101, 102, 103, 104, 105, 106, 107, 108, 109, 110, 111, 112, 113, 114, 115, 116, 117, 118, 119, 120, 121, 122]⟩
def smallS : ByteArray := ⟨#[48, 48, 48, 49, 48, 50, 48, 51, 48, 52, 48, 53, 48, 54, 48, 55, 48, 56, 48, 57, 49, 48, 49, 49, 49, 50, 49, 51, 49, 52, 49, 53, 49, 54, 49, 55, 49, 56, 49, 57, 50, 48, 50, 49, 50, 50, 50, 51, 50, 52, 50, 53, 50, 54, 50, 55, 50, 56, 50, 57, 51, 48, 51, 49, 51, 50, 51, 51, 51, 52, 51, 53, 51, 54, 51, 55, 51, 56, 51, 57, 52, 48, 52, 49, 52, 50, 52, 51, 52, 52, 52, 53, 52, 54, 52, 55, 52, 56, 52, 57, 53, 48, 53, 49, 53, 50, 53, 51, 53, 52, 53, 53, 53, 54, 53, 55, 53, 56, 53, 57, 54, 48, 54, 49, 54, 50, 54, 51, 54, 52, 54, 53, 54, 54, 54, 55, 54, 56, 54, 57, 55, 48, 55, 49, 55, 50, 55, 51, 55, 52, 55, 53, 55, 54, 55, 55, 55, 56, 55, 57, 56, 48, 56, 49, 56, 50, 56, 51, 56, 52, 56, 53, 56, 54, 56, 55, 56, 56, 56, 57, 57, 48, 57, 49, 57, 50, 57, 51, 57, 52, 57, 53, 57, 54, 57, 55, 57, 56, 57, 57]⟩
theorem dig_cut : ∀ x : Fin 10, (digS.extract x.val (x.val + 1)).data.toList = (itoa (x.val : Int)).data.toList := by decide +kernel
theorem small_cut : ∀ x : Fin 100, 10 ≤ x.val → (smallS.extract (x.val * 2) (x.val * 2 + 2)).data.toList = (itoa (x.val : Int)).data.toList := by decide +kernel
theorem bytes_ext {s t : ByteArray} (h : s.data.toList = t.data.toList) : s = t := ByteArray.ext (Array.toList_inj.1 h)
theorem dig_lt {x : Int} (h0 : 0 ≤ x) (h : x < 10) : digS.extract x.toNat (x + 1).toNat = itoa x := by
  have := dig_cut ⟨x.toNat, by omega⟩
  simp only at this
  rw [show (x + 1).toNat = x.toNat + 1 by omega]
  rw [Int.toNat_of_nonneg h0] at this
  exact bytes_ext this
theorem small_lt {x : Int} (h0 : ¬ x < 10) (h : x < 100) : smallS.extract (x * 2).toNat (x * 2 + 2).toNat = itoa x := by
  have := small_cut ⟨x.toNat, by omega⟩ (by show 10 ≤ x.toNat; omega)
  simp only at this
  rw [show (x * 2 + 2).toNat = x.toNat * 2 + 2 by omega, show (x * 2).toNat = x.toNat * 2 by omega]
  rw [Int.toNat_of_nonneg (by omega)] at this
  exact bytes_ext this
def itL (x : Int) : List UInt8 := (itoa x).data.toList
theorem itL_eq (x : Int) : itL x = if x < 10 then [UInt8.ofNat (48 + x.toNat)] else [UInt8.ofNat (48 + x.toNat / 10), UInt8.ofNat (48 + x.toNat % 10)] := by
  unfold itL itoa
  split <;> rfl
theorem u8_ofNat_inj {m n : Nat} (hm : m < 256) (hn : n < 256) (h : UInt8.ofNat m = UInt8.ofNat n) : m = n := by
  have := congrArg UInt8.toNat h
  simp only [UInt8.toNat_ofNat'] at this
  omega
theorem itL_comma {x : Int} (hx : 0 ≤ x ∧ x < 100) : (44 : UInt8) ∉ itL x := by
  rw [itL_eq]
  intro hc
  have one : ∀ n : Nat, n < 10 → (44 : UInt8) ≠ UInt8.ofNat (48 + n) := fun n hn hc => by
    have := u8_ofNat_inj (m := 44) (n := 48 + n) (by omega) (by omega) hc
    omega
  split at hc
  · rw [List.mem_singleton] at hc; exact one _ (by omega) hc
  · rcases List.mem_cons.1 hc with hc | hc
    · exact one _ (by omega) hc
    · rw [List.mem_singleton] at hc; exact one _ (by omega) hc
theorem itoa_size (x : Int) : (itoa x).size ≤ 2 := by
  unfold itoa
  split
  · exact (show 1 ≤ 2 by decide)
  · exact (show 2 ≤ 2 by decide)
def keyTx : List Int → ByteArray
  | [] => ⟨#[]⟩
  | x :: l => l.foldl (fun s y => s ++ ((⟨#[44]⟩ : ByteArray) ++ itoa y)) (itoa x)
theorem keyTx_snoc (x : Int) (l : List Int) (y : Int) : keyTx ((x :: l) ++ [y]) = keyTx (x :: l) ++ ((⟨#[44]⟩ : ByteArray) ++ itoa y) := by
  show List.foldl _ _ (l ++ [y]) = _
  rw [List.foldl_append]; rfl
theorem keyTx_size : ∀ (n : Nat) (l : List Int), l.length = n → (keyTx l).size ≤ 3 * n
  | 0, l, h => by rw [List.eq_nil_of_length_eq_zero h]; exact Nat.le_refl _
  | n + 1, l, h => by
    rcases List.eq_nil_or_concat l with rfl | ⟨l', y, rfl⟩
    · simp at h
    · rw [List.concat_eq_append] at h ⊢
      cases l' with
      | nil => have := itoa_size y; show (itoa y).size ≤ _; omega
      | cons x l' =>
        rw [keyTx_snoc]
        have := keyTx_size n (x :: l') (by simpa using h)
        have := itoa_size y
        simp only [ByteArray.size_append]
        have : (⟨#[44]⟩ : ByteArray).size = 1 := rfl
        omega
section
variable {a : A}
end
theorem Still.field {P : Program} {N : Nat} {l : Slots} {w : World} {d : Nat} {ty : TypeId} {pos : String} {after : Array Edge} {g : Option (Nat × Bool)} {s f : Nat} {x : Operand} {u v : Value}
    (hf : ∀ w, (Instr.field s u f).run P w = .ok v w) (hx : ev l x = some u) : Still P N l ⟨some d, .field s x f, ty, pos, after, g⟩ v w := fun a ha => by
  simp [execOp, ha.ev hx, hf]
end Go.Proofs.YtnckpafknojdhaaDoor
set_option linter.unusedSimpArgs false
set_option linter.unusedVariables false
namespace Go.Proofs.YtnckpafknojdhaaDoor
def DecI (n m : Int) (t : ByteArray) : Prop := (m = n ∧ t = ⟨#[]⟩) ∨ (10 ≤ n ∧ m = n / 10 ∧ t = (⟨#[UInt8.ofNat (48 + n % 10).toNat]⟩ : ByteArray))
theorem cat_nil (s : ByteArray) : s ++ (⟨#[]⟩ : ByteArray) = s := by
  apply bytes_ext
  simp
theorem DecI.start (n : Int) : DecI n n ⟨#[]⟩ := .inl ⟨rfl, rfl⟩
theorem DecI.step {n m : Int} {t : ByteArray} (h : DecI n m t) (hn : 0 ≤ n ∧ n < 100) (h9 : 9 < m) : DecI n (m / 10) ((⟨#[UInt8.ofNat (48 + m % 10).toNat]⟩ : ByteArray) ++ t) := by
  rcases h with ⟨rfl, rfl⟩ | ⟨h1, rfl, rfl⟩
  · exact .inr ⟨by omega, rfl, cat_nil _⟩
  · omega
theorem DecI.done {n m : Int} {t : ByteArray} (h : DecI n m t) (hn : 0 ≤ n ∧ n < 100) (h9 : ¬ 9 < m) : (⟨#[UInt8.ofNat (48 + m).toNat]⟩ : ByteArray) ++ t = itoa n := by
  rcases h with ⟨rfl, rfl⟩ | ⟨h1, rfl, rfl⟩
  · rw [cat_nil, itoa, if_pos (by omega), show (48 + m).toNat = 48 + m.toNat by omega]
  · rw [itoa, if_neg (by omega), show (48 + n / 10).toNat = 48 + n.toNat / 10 by omega, show (48 + n % 10).toNat = 48 + n.toNat % 10 by omega]
    apply bytes_ext
    simp
theorem DecI.size {n m : Int} {t : ByteArray} (h : DecI n m t) : t.size ≤ 1 := by
  rcases h with ⟨_, rfl⟩ | ⟨_, _, rfl⟩
  · exact Nat.zero_le _
  · exact Nat.le_refl _
theorem fmtTo_txt {al : Int} : ∀ k, k ≤ (letters al).length → fmtTo al k = txt ((letters al).take k)
  | 0, _ => rfl
  | k + 1, h => by rw [fmtTo_succ (by omega), fmtTo_txt k (by omega), take_snoc 0 (by omega), txt_snoc]
theorem fmtAl_txt {al : Int} (h : 0 ≤ al ∧ al ≤ 63) (h0 : ¬ al = 0) : fmtAl al = txt (letters al) := by
  rw [fmtAl_good h h0 (k := (letters al).length) rfl, fmtTo_txt _ (Nat.le_refl _), List.take_length]
def markT (b : Bool) : ByteArray := if b then ⟨#[32, 43]⟩ else ⟨#[32, 45]⟩
theorem markT_size (b : Bool) : (markT b).size = 2 := by cases b <;> rfl
def rowFrom (u : ByteArray) (row : List Int) : Nat → ByteArray
  | 0 => u
  | k + 1 => (if 0 < k then rowFrom u row k ++ (⟨#[44]⟩ : ByteArray) else rowFrom u row k) ++ itoa (row.getD k 0)
theorem rowFrom_T {u : ByteArray} {row : List Int} {k : Nat} (h : 0 < k) : rowFrom u row (k + 1) = rowFrom u row k ++ (⟨#[44]⟩ : ByteArray) ++ itoa (row.getD k 0) := by rw [rowFrom, if_pos h]
theorem rowFrom_F {u : ByteArray} {row : List Int} {k : Nat} (h : ¬ 0 < k) : rowFrom u row (k + 1) = rowFrom u row k ++ itoa (row.getD k 0) := by rw [rowFrom, if_neg h]
theorem rowFrom_size (u : ByteArray) (row : List Int) : ∀ k, (rowFrom u row k).size ≤ u.size + 3 * k
  | 0 => Nat.le_refl _
  | k + 1 => by
    have h := rowFrom_size u row k
    have h2 := itoa_size (row.getD k 0)
    have h3 : (⟨#[44]⟩ : ByteArray).size = 1 := rfl
    rw [rowFrom, size_cat]
    split
    · rw [size_cat]; omega
    · omega
theorem cat3 (a b c : ByteArray) : a ++ b ++ c = a ++ (b ++ c) := by
  apply bytes_ext
  simp
theorem rowFrom_key (u : ByteArray) (row : List Int) : ∀ k, k ≤ row.length → rowFrom u row k = u ++ keyTx (row.take k)
  | 0, _ => (cat_nil u).symm
  | k + 1, h => by
    have ih := rowFrom_key u row k (by omega)
    rcases Nat.eq_zero_or_pos k with h0 | h0
    · subst h0
      rw [rowFrom_F (by omega), take_snoc 0 (by omega)]
      rfl
    · rw [rowFrom_T h0, ih, take_snoc 0 (by omega)]
      cases e : row.take k with
      | nil => have := congrArg List.length e; rw [List.length_take, List.length_nil] at this; omega
      | cons x l => rw [keyTx_snoc, cat3, cat3]
def fmtFrom (a : A) : Nat → ByteArray
  | 0 => fmtAl a.al
  | i + 1 => rowFrom (fmtFrom a i ++ markT (a.acc.getD i false)) (a.next.getD i []) (a.next.getD i []).length
def fmtV (a : A) : ByteArray := if validA a = true then fmtFrom a a.next.length else ⟨#[]⟩
section
variable {a : A}
theorem fmtV_no (hv : validA a = false) : fmtV a = ⟨#[]⟩ := if_neg (by rw [hv]; decide)
theorem fmtV_yes (hv : validA a = true) {i : Nat} (h : a.next.length = i) : fmtV a = fmtFrom a i := by rw [fmtV, if_pos hv, h]
theorem fmtFrom_size (hv : validA a = true) : ∀ i, i ≤ a.next.length → (fmtFrom a i).size ≤ 6 + 20 * i
  | 0, _ => fmtAl_size a.al
  | i + 1, h => by
    have h1 := fmtFrom_size hv i (by omega)
    have h2 := rowFrom_size (fmtFrom a i ++ markT (a.acc.getD i false)) (a.next.getD i []) (a.next.getD i []).length
    have h3 := valid_row hv (k := i) (by omega)
    have h4 := letters_len6 a.al
    rw [size_cat, markT_size] at h2
    show (rowFrom _ _ _).size ≤ _
    omega
end
end Go.Proofs.YtnckpafknojdhaaDoor
set_option linter.unusedSimpArgs false
set_option linter.unusedVariables false
namespace Go.Proofs.YtnckpafknojdhaaDoor
def cutGo (c : UInt8) : List UInt8 → List UInt8 → List (List UInt8)
  | cur, [] => [cur]
  | cur, x :: r => if x = c then cur :: cutGo c [] r else cutGo c (cur ++ [x]) r
theorem cutGo_skip {c : UInt8} : ∀ (p cur r : List UInt8), c ∉ p → cutGo c cur (p ++ r) = cutGo c (cur ++ p) r
  | [], cur, r, _ => by rw [List.nil_append, List.append_nil]
  | x :: p, cur, r, h => by
    rw [List.mem_cons, not_or] at h
    rw [List.cons_append, cutGo, if_neg (fun e => h.1 e.symm), cutGo_skip p _ r h.2, List.append_assoc]; rfl
theorem cutGo_end {c : UInt8} {p : List UInt8} (h : c ∉ p) : cutGo c [] p = [p] := by
  have := cutGo_skip p [] [] h
  rwa [List.append_nil] at this
theorem cutGo_hit {c : UInt8} {p r : List UInt8} (h : c ∉ p) : cutGo c [] (p ++ c :: r) = p :: cutGo c [] r := by
  rw [cutGo_skip p [] _ h, cutGo, if_pos rfl]; rfl
theorem cutGo_join {c : UInt8} : ∀ (ps : List (List UInt8)) (p : List UInt8), c ∉ p → (∀ q ∈ ps, c ∉ q) → cutGo c [] (p ++ ps.flatMap (fun q => c :: q)) = p :: ps
  | [], p, h, _ => by rw [List.flatMap_nil, List.append_nil, cutGo_end h]
  | q :: ps, p, h, hs => by
    rw [List.flatMap_cons, List.cons_append, cutGo_hit h, cutGo_join ps q (hs q (List.mem_cons_self ..)) fun q' hq => hs q' (List.mem_cons_of_mem _ hq)]
theorem cutGo_ne {c : UInt8} : ∀ (r cur : List UInt8), cutGo c cur r ≠ []
  | [], cur => by simp [cutGo]
  | x :: r, cur => by
    rw [cutGo]
    split
    · simp
    · exact cutGo_ne r _
def bytesL (s : ByteArray) : List UInt8 := s.data.toList
theorem bytesL_cat (s t : ByteArray) : bytesL (s ++ t) = bytesL s ++ bytesL t := by simp [bytesL]
theorem bytesL_len (s : ByteArray) : (bytesL s).length = s.size := Array.length_toList
theorem bytesL_cut (s : ByteArray) (m n : Nat) : bytesL (s.extract m n) = ((bytesL s).take n).drop m := by
  rw [bytesL, bytesL, ByteArray.data_extract, Array.toList_extract, List.drop_take]
def cuts (c : UInt8) (s : ByteArray) : List ByteArray := (cutGo c [] (bytesL s)).map fun l => ⟨l.toArray⟩
theorem cuts_list {c : UInt8} {s : ByteArray} {xs : List ByteArray} (h : xs.map bytesL = cutGo c [] (bytesL s)) : xs = cuts c s := by
  rw [cuts, ← h, List.map_map]
  conv => lhs; rw [← List.map_id xs]
  exact List.map_congr_left fun x _ => rfl
theorem cuts_ne (c : UInt8) (s : ByteArray) : 1 ≤ (cuts c s).length := by
  have := cutGo_ne (c := c) (bytesL s) []
  rw [cuts, List.length_map]
  exact List.length_pos_iff.2 this
def CutI (c : UInt8) (s : ByteArray) (q i : Nat) (xs : List ByteArray) : Prop :=
  (i ≤ s.size → xs.map bytesL ++ cutGo c (((bytesL s).take i).drop q) ((bytesL s).drop i) = cutGo c [] (bytesL s)) ∧ (i = s.size + 1 → xs.map bytesL = cutGo c [] (bytesL s))
theorem CutI.start (c : UInt8) (s : ByteArray) : CutI c s 0 0 [] := ⟨fun _ => by simp, fun h => by omega⟩
theorem drop_at {s : ByteArray} {i : Nat} (h : i < s.size) : (bytesL s).drop i = (s.data.toList.getD i 0) :: (bytesL s).drop (i + 1) := by
  have h' : i < (bytesL s).length := by rw [bytesL_len]; exact h
  rw [List.drop_eq_getElem_cons h']
  congr 1
  show (bytesL s)[i] = (bytesL s).getD i 0
  simp [h']
theorem CutI.hit {c : UInt8} {s : ByteArray} {q i : Nat} {xs : List ByteArray} (h : CutI c s q i xs) (hi : i < s.size) (hc : s.data.toList.getD i 0 = c) : CutI c s (i + 1) (i + 1) (xs ++ [s.extract q i]) := by
  refine ⟨fun _ => ?_, fun he => by omega⟩
  have := h.1 (by omega)
  rw [drop_at hi, cutGo, if_pos hc] at this
  rw [← this, List.map_append, List.append_assoc]
  congr 1
  rw [List.map_cons, List.map_nil, bytesL_cut, List.singleton_append]
  congr 2
  exact List.drop_eq_nil_of_le (by rw [List.length_take]; omega)
theorem CutI.miss {c : UInt8} {s : ByteArray} {q i : Nat} {xs : List ByteArray} (h : CutI c s q i xs) (hi : i < s.size) (hq : q ≤ i) (hc : ¬ s.data.toList.getD i 0 = c) : CutI c s q (i + 1) xs := by
  refine ⟨fun _ => ?_, fun he => by omega⟩
  have := h.1 (by omega)
  rw [drop_at hi, cutGo, if_neg hc] at this
  rw [← this]
  congr 2
  have h' : i < (bytesL s).length := by rw [bytesL_len]; exact hi
  rw [take_snoc 0 h', List.drop_append_of_le_length (by rw [List.length_take]; omega)]; rfl
theorem CutI.last {c : UInt8} {s : ByteArray} {q i : Nat} {xs : List ByteArray} (h : CutI c s q i xs) (hi : i = s.size) (q' : Nat) : CutI c s q' (i + 1) (xs ++ [s.extract q i]) := by
  refine ⟨fun he => by omega, fun _ => ?_⟩
  have := h.1 (by omega)
  have e : (bytesL s).drop i = [] := List.drop_eq_nil_of_le (by rw [bytesL_len]; omega)
  rw [e, cutGo] at this
  rw [← this, List.map_append, List.map_cons, List.map_nil, bytesL_cut]
theorem CutI.done {c : UInt8} {s : ByteArray} {q i : Nat} {xs : List ByteArray} (h : CutI c s q i xs) (hi : i = s.size + 1) : xs = cuts c s := cuts_list (h.2 hi)
theorem u8_same {x d : UInt8} {c : Int} (h : (x.toNat : Int) = c) (hd : c = (d.toNat : Int)) : x = d := UInt8.toNat_inj.1 (by omega)
theorem u8_diff {x d : UInt8} {c : Int} (h : ¬ (x.toNat : Int) = c) (hd : c = (d.toNat : Int)) : ¬ x = d := fun e => h (by rw [e, hd])
theorem index_at {l : List UInt8} {c : UInt8} {i : Nat} (h : Lib.indexByte l c = (i : Int)) : l = l.take i ++ c :: l.drop (i + 1) ∧ c ∉ l.take i ∧ i < l.length := by
  obtain ⟨h1, h2⟩ := Lib.indexByte_some h
  obtain ⟨h3, h4⟩ := List.getElem?_eq_some_iff.1 h1
  refine ⟨?_, fun hc => ?_, h3⟩
  · conv => lhs; rw [← List.take_append_drop i l, List.drop_eq_getElem_cons h3, h4]
  · obtain ⟨k, hk, hx⟩ := List.getElem_of_mem hc
    rw [List.length_take] at hk
    rw [List.getElem_take] at hx
    exact h2 k (by omega) (by rw [List.getElem?_eq_getElem (by omega), hx])
theorem index_no {l : List UInt8} {c : UInt8} (h : Lib.indexByte l c = -1) : c ∉ l := fun hc => by
  obtain ⟨k, hk, hx⟩ := List.getElem_of_mem hc
  exact Lib.indexByte_none h k (by rw [List.getElem?_eq_getElem hk, hx])
theorem cuts_next {c : UInt8} {s : ByteArray} {i : Nat} (h : Lib.indexByte (bytesL s) c = (i : Int)) : cuts c s = s.extract 0 i :: cuts c (s.extract (i + 1) s.size) := by
  obtain ⟨h1, h2, h3⟩ := index_at h
  rw [cuts, h1, cutGo_hit h2, List.map_cons]
  congr 1
  · apply bytes_ext
    show (bytesL s).take i = bytesL (s.extract 0 i)
    rw [bytesL_cut, List.drop_zero]
  · rw [cuts, bytesL_cut, ← bytesL_len, List.take_length]
theorem cuts_stop {c : UInt8} {s : ByteArray} (h : Lib.indexByte (bytesL s) c = -1) : cuts c s = [s] := by
  rw [cuts, cutGo_end (index_no h)]; rfl
theorem split_cuts (c : UInt8) : ∀ (n : Nat) (s : ByteArray), (bytesL s).count c = n → Lib.splitB ⟨#[c]⟩ 0 n s = cuts c s := fun n => by
  have hix : ∀ s : ByteArray, Lib.indexB s ⟨#[c]⟩ = Lib.indexByte (bytesL s) c := fun s => Lib.index_one _ _
  induction n with
  | zero =>
    intro s h
    rw [Lib.splitB_zero, cuts_stop]
    have hc : c ∉ bytesL s := List.count_eq_zero.1 h
    have hge := Lib.indexByte_ge (bytesL s) c
    rcases Int.lt_or_le (Lib.indexByte (bytesL s) c) 0 with h0 | h0
    · omega
    · obtain ⟨i, hi⟩ := Int.eq_ofNat_of_zero_le h0
      obtain ⟨h1, _, _⟩ := index_at hi
      exact absurd (by rw [h1]; simp) hc
  | succ n ih =>
    intro s h
    have hge := Lib.indexByte_ge (bytesL s) c
    rcases Int.lt_or_le (Lib.indexByte (bytesL s) c) 0 with h0 | h0
    · have := index_no (l := bytesL s) (c := c) (by omega)
      rw [List.count_eq_zero.2 this] at h; omega
    · obtain ⟨i, hi⟩ := Int.eq_ofNat_of_zero_le h0
      obtain ⟨h1, h2, _⟩ := index_at hi
      rw [Lib.splitB_hit _ _ _ _ i (by rw [hix]; exact hi), cuts_next hi]
      show s.extract 0 i :: Lib.splitB ⟨#[c]⟩ 0 n (s.extract (i + 1) s.size) = _
      rw [ih]
      rw [bytesL_cut, ← bytesL_len, List.take_length]
      rw [h1, List.count_append, List.count_eq_zero.2 h2, List.count_cons_self] at h
      omega
theorem cutGo_len {c : UInt8} : ∀ (r cur : List UInt8), (cutGo c cur r).length ≤ r.length + 1
  | [], cur => by simp [cutGo]
  | x :: r, cur => by
    rw [cutGo, List.length_cons]
    split
    · have := cutGo_len (c := c) r []
      rw [List.length_cons]; omega
    · have := cutGo_len (c := c) r (cur ++ [x]); omega
theorem cuts_len (c : UInt8) (s : ByteArray) : (cuts c s).length ≤ s.size + 1 := by
  have := cutGo_len (c := c) (bytesL s) []
  rw [bytesL_len] at this
  rwa [cuts, List.length_map]
theorem cutGo_mem {c : UInt8} : ∀ (r cur : List UInt8), ∀ p ∈ cutGo c cur r, p.length ≤ cur.length + r.length
  | [], cur => by simp [cutGo]
  | x :: r, cur => by
    intro p hp
    rw [cutGo] at hp
    rw [List.length_cons]
    split at hp
    · rcases List.mem_cons.1 hp with rfl | hp
      · omega
      · have := cutGo_mem r [] p hp
        rw [List.length_nil] at this; omega
    · have := cutGo_mem r _ p hp
      rw [List.length_append, List.length_singleton] at this; omega
theorem cuts_mem {c : UInt8} {s x : ByteArray} (h : x ∈ cuts c s) : x.size ≤ s.size := by
  obtain ⟨p, hp, rfl⟩ := List.mem_map.1 h
  have := cutGo_mem (bytesL s) [] p hp
  rw [bytesL_len, List.length_nil] at this
  show p.toArray.size ≤ _
  rw [List.size_toArray]; omega
theorem cuts_drop (c : UInt8) (s : ByteArray) (k : Nat) : ((cuts c s).drop 1).getD k ByteArray.empty = (cuts c s).getD (k + 1) ByteArray.empty := by
  rw [List.getD_eq_getElem?_getD, List.getElem?_drop, List.getD_eq_getElem?_getD, Nat.add_comm]
def Ent (row : List Int) : Prop := ∀ x ∈ row, 0 ≤ x ∧ x < 100
theorem key_list : ∀ (l : List Int) (x : Int), bytesL (keyTx (x :: l)) = itL x ++ (l.map itL).flatMap (fun q => 44 :: q) := fun l x => by
  have key : ∀ (l : List Int) (s : ByteArray), bytesL (l.foldl (fun s y => s ++ ((⟨#[44]⟩ : ByteArray) ++ itoa y)) s) = bytesL s ++ (l.map itL).flatMap (fun q => 44 :: q) := fun l => by
    induction l with
    | nil => intro s; simp
    | cons y l ih =>
      intro s
      rw [List.foldl_cons, ih, bytesL_cat, bytesL_cat, List.map_cons, List.flatMap_cons, List.append_assoc, List.append_assoc]
      rfl
  exact key l (itoa x)
theorem cuts_key {row : List Int} (h : Ent row) (h0 : row ≠ []) : cuts 44 (keyTx row) = row.map itoa := by
  cases row with
  | nil => exact absurd rfl h0
  | cons x l =>
    rw [cuts, key_list, cutGo_join _ _ (itL_comma (h x (List.mem_cons_self ..))) fun q hq => by
      obtain ⟨y, hy, rfl⟩ := List.mem_map.1 hq
      exact itL_comma (h y (List.mem_cons_of_mem _ hy))]
    rw [List.map_cons, List.map_cons, List.map_map]
    rfl
theorem keyTx_nil {row : List Int} : keyTx row = (⟨#[]⟩ : ByteArray) ↔ row = [] := by
  constructor
  · intro h
    cases row with
    | nil => rfl
    | cons x l =>
      have := congrArg bytesL h
      rw [key_list] at this
      have h2 : itL x = [] := (List.append_eq_nil_iff.1 this).1
      rw [itL_eq] at h2
      split at h2 <;> cases h2
  · rintro rfl; rfl
theorem join_key : ∀ row : List Int, Lib.join ((row.map itoa).map (·.data.toList)) [44] = bytesL (keyTx row)
  | [] => rfl
  | x :: l => by
    rw [List.map_cons, List.map_cons, Lib.join_cons, key_list, Lib.joinTail, List.flatMap_def, List.map_map, List.map_map, List.map_map]
    rfl
def entTo (row : List Int) (k : Nat) : List ByteArray := (row.take k).map itoa ++ List.replicate (row.length - k) ByteArray.empty
theorem entTo_zero (row : List Int) : entTo row 0 = List.replicate row.length ByteArray.empty := by simp [entTo]
theorem entTo_length {row : List Int} {k : Nat} (h : k ≤ row.length) : (entTo row k).length = row.length := by simp [entTo]; omega
theorem entTo_step {row : List Int} {k : Nat} (h : k < row.length) : (entTo row k).set k (itoa (row.getD k 0)) = entTo row (k + 1) := by
  have hl : ((row.take k).map itoa).length = k := by simp; omega
  have e : row.length - k = (row.length - (k + 1)) + 1 := by omega
  rw [entTo, List.set_append_right _ _ (by omega), hl, Nat.sub_self, e, List.replicate_succ, List.set_cons_zero, entTo, take_snoc 0 h, List.map_append, List.append_assoc]
  rfl
theorem entTo_done {row : List Int} {k : Nat} (h : row.length ≤ k) : entTo row k = row.map itoa := by
  rw [entTo, List.take_of_length_le h, Nat.sub_eq_zero_of_le h]; simp
def sgnL (b : Bool) : UInt8 := if b then 43 else 45
def rowT (b : Bool) (row : List Int) : ByteArray := ⟨(sgnL b :: bytesL (keyTx row)).toArray⟩
theorem rowT_list (b : Bool) (row : List Int) : bytesL (rowT b row) = sgnL b :: bytesL (keyTx row) := rfl
theorem rowT_size (b : Bool) (row : List Int) : (rowT b row).size = (keyTx row).size + 1 := by
  rw [← bytesL_len, rowT_list, List.length_cons, bytesL_len]
theorem rowT_tail (b : Bool) (row : List Int) : (rowT b row).extract 1 (rowT b row).size = keyTx row := by
  apply bytes_ext
  show bytesL _ = bytesL _
  rw [bytesL_cut, ← bytesL_len, List.take_length, rowT_list]; rfl
theorem rowT_head (b : Bool) (row : List Int) : (rowT b row).data.toList.getD 0 0 = sgnL b := rfl
theorem sgn_plus (b : Bool) : decide (((sgnL b).toNat : Int) = 43) = b := by cases b <;> rfl
theorem dig_not {n : Nat} (h : n < 10) : (32 : UInt8) ≠ UInt8.ofNat (48 + n) := fun hc => by
  have := u8_ofNat_inj (m := 32) (n := 48 + n) (by omega) (by omega) hc
  omega
theorem itL_space {x : Int} (hx : 0 ≤ x ∧ x < 100) : (32 : UInt8) ∉ itL x := by
  rw [itL_eq]
  intro hc
  split at hc
  · rw [List.mem_singleton] at hc; exact dig_not (by omega) hc
  · rcases List.mem_cons.1 hc with hc | hc
    · exact dig_not (by omega) hc
    · rw [List.mem_singleton] at hc; exact dig_not (by omega) hc
theorem key_space {row : List Int} (h : Ent row) : (32 : UInt8) ∉ bytesL (keyTx row) := by
  cases row with
  | nil => intro hc; cases hc
  | cons x l =>
    rw [key_list, List.mem_append, not_or]
    refine ⟨itL_space (h x (List.mem_cons_self ..)), fun hc => ?_⟩
    obtain ⟨q, hq, hc⟩ := List.mem_flatMap.1 hc
    obtain ⟨y, hy, rfl⟩ := List.mem_map.1 hq
    rcases List.mem_cons.1 hc with hc | hc
    · exact absurd hc (by decide)
    · exact itL_space (h y (List.mem_cons_of_mem _ hy)) hc
theorem rowT_space {b : Bool} {row : List Int} (h : Ent row) : (32 : UInt8) ∉ bytesL (rowT b row) := by
  rw [rowT_list, List.mem_cons, not_or]
  exact ⟨by cases b <;> decide, key_space h⟩
theorem fmt_space : ∀ n : Fin 64, (32 : UInt8) ∉ bytesL (fmtAl (n.val : Int)) := by decide +kernel
theorem fmt_size1 : ∀ n : Fin 64, 1 ≤ (fmtAl (n.val : Int)).size := by decide +kernel
def stepAl (m x : Int) : Int := if 0 ≤ clip x then orI m (bit (clip x)) else m
def alTo (s : ByteArray) (k : Nat) : Int := ((lts s).take k).foldl stepAl 0
theorem alTo_succ {s : ByteArray} {k : Nat} (h : k < s.size) : alTo s (k + 1) = stepAl (alTo s k) ((lts s).getD k 0) := by
  rw [alTo, take_snoc 0 (by rw [lts_length]; exact h), List.foldl_append]; rfl
theorem clip_bd (x : Int) : -1 ≤ clip x ∧ clip x < 6 := by unfold clip; split <;> omega
theorem stepAl_in {m x : Int} (h : 0 ≤ m ∧ m ≤ 63) : 0 ≤ stepAl m x ∧ stepAl m x ≤ 63 := by
  unfold stepAl
  split
  · exact orI_le h (bit_in ⟨by omega, (clip_bd x).2⟩)
  · exact h
theorem foldAl_in : ∀ (l : List Int) (m : Int), 0 ≤ m ∧ m ≤ 63 → 0 ≤ l.foldl stepAl m ∧ l.foldl stepAl m ≤ 63
  | [], m, h => h
  | x :: l, m, h => foldAl_in l _ (stepAl_in h)
theorem alTo_in (s : ByteArray) (k : Nat) : 0 ≤ alTo s k ∧ alTo s k ≤ 63 := foldAl_in _ _ (by decide)
def alOf (s : ByteArray) : Int := alTo s s.size
theorem alOf_fmt : ∀ n : Fin 64, alOf (fmtAl (n.val : Int)) = (n.val : Int) := by decide +kernel
theorem al_fin {al : Int} (h : 0 ≤ al ∧ al ≤ 63) : ∃ n : Fin 64, al = (n.val : Int) := ⟨⟨al.toNat, by omega⟩, by show al = ((al.toNat : Nat) : Int); omega⟩
theorem fmtAl_of {al : Int} (h : 0 ≤ al ∧ al ≤ 63) : alOf (fmtAl al) = al := by obtain ⟨n, rfl⟩ := al_fin h; exact alOf_fmt n
theorem fmtAl_space {al : Int} (h : 0 ≤ al ∧ al ≤ 63) : (32 : UInt8) ∉ bytesL (fmtAl al) := by obtain ⟨n, rfl⟩ := al_fin h; exact fmt_space n
theorem fmtAl_size1 {al : Int} (h : 0 ≤ al ∧ al ≤ 63) : 1 ≤ (fmtAl al).size := by obtain ⟨n, rfl⟩ := al_fin h; exact fmt_size1 n
theorem fmtAl_inj {m n : Int} (h : 0 ≤ m ∧ m ≤ 63) (h' : 0 ≤ n ∧ n ≤ 63) (e : fmtAl m = fmtAl n) : m = n := by
  rw [← fmtAl_of h, e, fmtAl_of h']
def rowsT (a : A) (n : Nat) : List ByteArray := (List.range n).map fun i => rowT (a.acc.getD i false) (a.next.getD i [])
theorem rowsT_length (a : A) (n : Nat) : (rowsT a n).length = n := by simp [rowsT]
theorem rowsT_at (a : A) {n i : Nat} (h : i < n) : (rowsT a n).getD i ByteArray.empty = rowT (a.acc.getD i false) (a.next.getD i []) := by
  simp [rowsT, h]
section
variable {a : A}
theorem valid_ent (hv : validA a = true) (i : Nat) : Ent (a.next.getD i []) := by
  intro x hx
  rcases Nat.lt_or_ge i a.next.length with h | h
  · have h2 := ((validA_spec.1 hv).2.2.2 _ (getD_mem (d := []) h)).2 x hx
    have := (validA_spec.1 hv).2.1
    omega
  · rw [List.getD_eq_getElem?_getD, List.getElem?_eq_none h] at hx
    cases hx
theorem rowFrom_list (u : ByteArray) (row : List Int) : rowFrom u row row.length = u ++ keyTx row := by
  rw [rowFrom_key u row _ (Nat.le_refl _), List.take_length]
theorem markT_list (b : Bool) : bytesL (markT b) = [32, sgnL b] := by cases b <;> rfl
theorem fmtFrom_list : ∀ n, bytesL (fmtFrom a n) = bytesL (fmtAl a.al) ++ ((rowsT a n).map bytesL).flatMap (fun q => 32 :: q)
  | 0 => by simp [fmtFrom, rowsT]
  | n + 1 => by
    rw [fmtFrom, rowFrom_list, bytesL_cat, bytesL_cat, fmtFrom_list n, markT_list, rowsT, rowsT, List.range_succ, List.map_append, List.map_append, List.flatMap_append]
    simp [rowT_list]
theorem cuts_fmt (hv : validA a = true) : cuts 32 (fmtV a) = fmtAl a.al :: rowsT a a.next.length := by
  have hal := (validA_spec.1 hv).1
  rw [cuts, fmtV_yes hv rfl, fmtFrom_list, cutGo_join _ _ (fmtAl_space hal) fun q hq => by
    obtain ⟨y, hy, rfl⟩ := List.mem_map.1 hq
    obtain ⟨i, hi, rfl⟩ := List.mem_map.1 hy
    exact rowT_space (valid_ent hv i)]
  rw [List.map_cons, List.map_map]
  congr 1
  conv => rhs; rw [← List.map_id (rowsT a a.next.length)]
  exact List.map_congr_left fun x _ => rfl
end
def Agr (s : ByteArray) (n : Int) (i : Nat) (xss : List (List Int)) (ys : List Bool) : Prop :=
  ∀ b, validA b = true → fmtV b = s → n = b.al ∧ xss = b.next.take i ∧ ys = b.acc.take i
def Parsed (s : ByteArray) (ok : Bool) (a : A) : Prop :=
  (ok = true → validA a = true ∧ fmtV a = s) ∧ (ok = false → a = zeroA) ∧ ∀ b, validA b = true → fmtV b = s → ok = true ∧ a = b
theorem Parsed.same {s : ByteArray} {ok ok' : Bool} {a a' : A} (h : Parsed s ok a) (h' : Parsed s ok' a') : ok = ok' ∧ a = a' := by
  cases hk : ok with
  | true =>
    obtain ⟨h1, h2⟩ := h.1 hk
    obtain ⟨h3, h4⟩ := h'.2.2 a h1 h2
    exact ⟨h3.symm, h4.symm⟩
  | false =>
    cases hk' : ok' with
    | true =>
      obtain ⟨h1, h2⟩ := h'.1 hk'
      obtain ⟨h3, _⟩ := h.2.2 a' h1 h2
      rw [hk] at h3; cases h3
    | false => exact ⟨rfl, (h.2.1 hk).trans (h'.2.1 hk').symm⟩
theorem Parsed.no {s : ByteArray} (h : ∀ b, validA b = true → fmtV b = s → False) : Parsed s false zeroA :=
  ⟨(fun hc => by cases hc), fun _ => rfl, fun b hb hs => (h b hb hs).elim⟩
section
variable {s : ByteArray} {b : A}
theorem fmt_cut0 (hv : validA b = true) (hs : fmtV b = s) : (cuts 32 s).getD 0 ByteArray.empty = fmtAl b.al := by rw [← hs, cuts_fmt hv]; rfl
theorem fmt_cutN (hv : validA b = true) (hs : fmtV b = s) : (cuts 32 s).length = b.next.length + 1 := by rw [← hs, cuts_fmt hv, List.length_cons, rowsT_length]
theorem fmt_cutI (hv : validA b = true) (hs : fmtV b = s) {i : Nat} (h : i < b.next.length) : (cuts 32 s).getD (i + 1) ByteArray.empty = rowT (b.acc.getD i false) (b.next.getD i []) := by
  rw [← hs, cuts_fmt hv]
  show (rowsT b b.next.length).getD i ByteArray.empty = _
  exact rowsT_at b h
end
def RowP (t : ByteArray) (ok : Bool) (xs : List Int) : Prop := ∀ row, Ent row → t = keyTx row → ok = true ∧ xs = row
theorem RowP.flag {t : ByteArray} {b ok : Bool} {xs : List Int} (h : RowP t b xs) (e : b = ok) : RowP t ok xs := e ▸ h
theorem RowP.nil : RowP ⟨#[]⟩ true [] := fun row _ h => ⟨rfl, (keyTx_nil.1 h.symm).symm⟩
def RowI (t : ByteArray) (k : Nat) (xs : List Int) : Prop := ∀ row, Ent row → t = keyTx row → xs = row.take k
def NumP (t : ByteArray) (ok : Bool) (n : Int) : Prop := ∀ x, (0 ≤ x ∧ x < 100) → t = itoa x → ok = true ∧ n = x
theorem key_cut {t : ByteArray} {row : List Int} (h : Ent row) (e : t = keyTx row) (h0 : ¬ t = ⟨#[]⟩) : cuts 44 t = row.map itoa := by
  rw [e] at h0 ⊢
  exact cuts_key h fun hc => h0 (keyTx_nil.2 hc)
theorem RowI.step {t : ByteArray} {k : Nat} {xs : List Int} {n : Int} (h : RowI t k xs) (h0 : ¬ t = ⟨#[]⟩) (hk : k < (cuts 44 t).length) (hn : NumP ((cuts 44 t).getD k ByteArray.empty) true n) : RowI t (k + 1) (xs ++ [n]) := by
  intro row hr e
  have hc := key_cut hr e h0
  have hkl : k < row.length := by rw [hc, List.length_map] at hk; exact hk
  rw [hc] at hn
  have h1 : (row.map itoa).getD k ByteArray.empty = itoa (row.getD k 0) := by simp [hkl]
  have := (hn (row.getD k 0) (hr _ (getD_mem hkl)) h1).2
  rw [this, take_snoc 0 hkl, h row hr e]
theorem RowI.fail {t : ByteArray} {k : Nat} {n : Int} {xs : List Int} (h0 : ¬ t = ⟨#[]⟩) (hk : k < (cuts 44 t).length) (hn : NumP ((cuts 44 t).getD k ByteArray.empty) false n) : RowP t false xs := by
  intro row hr e
  have hc := key_cut hr e h0
  have hkl : k < row.length := by rw [hc, List.length_map] at hk; exact hk
  rw [hc] at hn
  have h1 : (row.map itoa).getD k ByteArray.empty = itoa (row.getD k 0) := by simp [hkl]
  have := (hn (row.getD k 0) (hr _ (getD_mem hkl)) h1).1
  cases this
theorem RowI.done {t : ByteArray} {k : Nat} {xs : List Int} (h : RowI t k xs) (h0 : ¬ t = ⟨#[]⟩) (hk : (cuts 44 t).length ≤ k) : RowP t true xs := by
  intro row hr e
  have hc := key_cut hr e h0
  rw [hc, List.length_map] at hk
  exact ⟨rfl, by rw [h row hr e, List.take_of_length_le hk]⟩
def decV (s : ByteArray) (k : Nat) : Int := ((bytesL s).take k).foldl (fun n b => n * 10 + ((b.toNat : Int) - 48)) 0
theorem decV_succ {s : ByteArray} {k : Nat} (h : k < s.size) : decV s (k + 1) = decV s k * 10 + (((s.data.toList.getD k 0).toNat : Int) - 48) := by
  rw [decV, take_snoc 0 (by rw [bytesL_len]; exact h), List.foldl_append]; rfl
theorem itoa_num : ∀ x : Fin 100, decV (itoa (x.val : Int)) (itoa (x.val : Int)).size = (x.val : Int) := by decide +kernel
theorem itoa_dig : ∀ x : Fin 100, ((bytesL (itoa (x.val : Int))).all fun b => decide (48 ≤ b.toNat ∧ b.toNat ≤ 57)) = true := by decide +kernel
theorem itoa_lead : ∀ x : Fin 100, 1 ≤ (itoa (x.val : Int)).size ∧ ((itoa (x.val : Int)).size ≤ 1 ∨ ((bytesL (itoa (x.val : Int))).getD 0 0).toNat ≠ 48) := by decide +kernel
theorem num_fin {x : Int} (h : 0 ≤ x ∧ x < 100) : ∃ n : Fin 100, x = (n.val : Int) := ⟨⟨x.toNat, by omega⟩, by show x = ((x.toNat : Nat) : Int); omega⟩
theorem itoa_at {x : Int} (h : 0 ≤ x ∧ x < 100) {k : Nat} (hk : k < (itoa x).size) : 48 ≤ ((itoa x).data.toList.getD k 0).toNat ∧ ((itoa x).data.toList.getD k 0).toNat ≤ 57 := by
  obtain ⟨n, rfl⟩ := num_fin h
  have := List.all_eq_true.1 (itoa_dig n) _ (getD_mem (d := 0) (k := k) (by rw [bytesL_len]; exact hk))
  exact of_decide_eq_true this
section
variable {s : ByteArray} {ok : Bool} {n : Int}
theorem NumP.neg (h : 1 ≤ s.size) (hm : ((s.data.toList.getD 0 0).toNat : Int) = 45) : NumP s ok n := fun x hx e => by
  subst e
  have := itoa_at hx (k := 0) (by omega)
  omega
theorem NumP.none (h : (s.size : Int) = 0) : NumP s ok n := fun x hx e => by
  subst e
  obtain ⟨n, rfl⟩ := num_fin hx
  have := (itoa_lead n).1
  omega
theorem NumP.long (h : 2 < s.size) : NumP s ok n := fun x hx e => by
  subst e
  have := itoa_size x
  omega
theorem NumP.lead (h : (1 : Int) < s.size) (hm : ((s.data.toList.getD 0 0).toNat : Int) = 48) : NumP s ok n := fun x hx e => by
  subst e
  obtain ⟨n, rfl⟩ := num_fin hx
  rcases (itoa_lead n).2 with h1 | h1
  · omega
  · exact absurd (show ((bytesL (itoa (n.val : Int))).getD 0 0).toNat = 48 by have : ((bytesL (itoa (n.val : Int))).getD 0 0) = (itoa (n.val : Int)).data.toList.getD 0 0 := rfl; rw [this]; omega) h1
theorem NumP.digit {k : Nat} (hk : k < s.size) (h : ((s.data.toList.getD k 0).toNat : Int) < 48 ∨ 57 < ((s.data.toList.getD k 0).toNat : Int)) : NumP s ok n := fun x hx e => by
  subst e
  have := itoa_at hx hk
  omega
theorem NumP.good {k : Nat} (hk : k = s.size) : NumP s true (decV s k) := fun x hx e => by
  subst e; subst hk
  obtain ⟨n, rfl⟩ := num_fin hx
  exact ⟨rfl, itoa_num n⟩
theorem NumP.flag {b : Bool} (h : NumP s b n) (e : b = ok) : NumP s ok n := e ▸ h
end
def Nums (xs : List ByteArray) (ys : List Int) : Prop := xs.length = ys.length ∧ ∀ i, i < xs.length → NumP (xs.getD i ByteArray.empty) true (ys.getD i 0)
theorem Nums.nil : Nums [] [] := ⟨rfl, fun i h => by cases h⟩
theorem Nums.snoc {xs : List ByteArray} {ys : List Int} {x : ByteArray} {n : Int} (h : Nums xs ys) (hn : NumP x true n) : Nums (xs ++ [x]) (ys ++ [n]) := by
  refine ⟨by simp [h.1], fun i hi => ?_⟩
  rw [List.length_append, List.length_singleton] at hi
  rcases Nat.lt_or_ge i xs.length with h1 | h1
  · have := h.2 i h1
    rw [List.getD_eq_getElem?_getD, List.getElem?_append_left h1, ← List.getD_eq_getElem?_getD, List.getD_eq_getElem?_getD (l := ys ++ [n]), List.getElem?_append_left (by rw [← h.1]; exact h1), ← List.getD_eq_getElem?_getD]
    exact this
  · obtain rfl : i = xs.length := by omega
    have e1 : (xs ++ [x]).getD xs.length ByteArray.empty = x := by simp
    have e2 : (ys ++ [n]).getD xs.length 0 = n := by rw [h.1]; simp
    rw [e1, e2]; exact hn
theorem Nums.row {s : ByteArray} {ys : List Int} (h0 : ¬ s = ⟨#[]⟩) (h : Nums (cuts 44 s) ys) : RowP s true ys := by
  intro row hr e
  have hc := key_cut hr e h0
  rw [hc] at h
  have hl : row.length = ys.length := by have := h.1; rwa [List.length_map] at this
  have key : ∀ k, k ≤ row.length → ys.take k = row.take k := fun k => by
    induction k with
    | zero => intro _; simp
    | succ k ih =>
      intro hk
      have h1 : (row.map itoa).getD k ByteArray.empty = itoa (row.getD k 0) := by
        have : k < row.length := by omega
        simp [this]
      have h2 := h.2 k (by rw [List.length_map]; omega)
      rw [h1] at h2
      rw [take_snoc 0 (by omega), take_snoc 0 (by omega), ih (by omega), (h2 _ (hr _ (getD_mem (by omega))) rfl).2]
  have := key row.length (Nat.le_refl _)
  rw [List.take_length, hl, List.take_length] at this
  exact ⟨rfl, this⟩
theorem Nums.fail {s x : ByteArray} {xs : List ByteArray} {n : Int} {zs : List Int} (h0 : ¬ s = ⟨#[]⟩) (hx : ∃ ys, xs ++ x :: ys = cuts 44 s) (hn : NumP x false n) : RowP s false zs := by
  intro row hr e
  obtain ⟨ys, hys⟩ := hx
  rw [key_cut hr e h0] at hys
  have hm : x ∈ row.map itoa := by rw [← hys]; simp
  obtain ⟨y, hy, rfl⟩ := List.mem_map.1 hm
  cases (hn y (hr y hy) rfl).1
section
variable {s : ByteArray} {n : Int} {i : Nat} {xss : List (List Int)} {ys : List Bool}
theorem Agr.step (h : Agr s n i xss ys) {row : List Int} {ac : Bool} {t : ByteArray} (hi : i + 1 < (cuts 32 s).length) (ht : (cuts 32 s).getD (i + 1) ByteArray.empty = t) (hr : RowP (t.extract 1 t.size) true row) (ha : ac = decide (((t.data.toList.getD 0 0).toNat : Int) = 43)) : Agr s n (i + 1) (xss ++ [row]) (ys ++ [ac]) := by
  intro b hv hs
  obtain ⟨h1, h2, h3⟩ := h b hv hs
  have hl := fmt_cutN hv hs
  have hib : i < b.next.length := by omega
  have hac := (validA_spec.1 hv).2.2.1
  have hc := fmt_cutI hv hs hib
  rw [ht] at hc
  subst hc
  rw [rowT_tail] at hr
  rw [rowT_head, sgn_plus] at ha
  refine ⟨h1, ?_, ?_⟩
  · rw [take_snoc [] hib, ← h2, (hr _ (valid_ent hv i) rfl).2]
  · rw [take_snoc false (by omega), ← h3, ha]
theorem Agr.row (hi : i + 1 < (cuts 32 s).length) {t : ByteArray} (ht : (cuts 32 s).getD (i + 1) ByteArray.empty = t) {row : List Int} (hr : RowP (t.extract 1 t.size) false row) {b : A} (hv : validA b = true) (hs : fmtV b = s) : False := by
  have hl := fmt_cutN hv hs
  have hc := fmt_cutI hv hs (i := i) (by omega)
  rw [ht] at hc
  subst hc
  rw [rowT_tail] at hr
  cases (hr _ (valid_ent hv i) rfl).1
theorem Agr.empty (hi : i + 1 < (cuts 32 s).length) (ht : (cuts 32 s).getD (i + 1) ByteArray.empty = ⟨#[]⟩) {b : A} (hv : validA b = true) (hs : fmtV b = s) : False := by
  have hl := fmt_cutN hv hs
  have hc := fmt_cutI hv hs (i := i) (by omega)
  rw [ht] at hc
  have := congrArg ByteArray.size hc
  rw [rowT_size] at this
  exact absurd this (by show ¬ (0 = _); omega)
theorem Agr.done (h : Agr s n i xss ys) (hi : (cuts 32 s).length ≤ i + 1) (hn : 0 ≤ n ∧ n ≤ 63) (h0 : fmtAl n = (cuts 32 s).getD 0 ByteArray.empty) (hf : fmtV ⟨n, xss, ys⟩ = s) : Parsed s true ⟨n, xss, ys⟩ := by
  refine ⟨fun _ => ⟨?_, hf⟩, (fun h => by cases h), fun b hv hs => ⟨rfl, ?_⟩⟩
  · cases hv : validA ⟨n, xss, ys⟩ with
    | true => rfl
    | false =>
      rw [fmtV_no hv] at hf
      subst hf
      have h1 := fmtAl_size1 hn
      rw [h0] at h1
      exact absurd h1 (by decide)
  · obtain ⟨h1, h2, h3⟩ := h b hv hs
    have hl := fmt_cutN hv hs
    have hac := (validA_spec.1 hv).2.2.1
    rw [List.take_of_length_le (by omega)] at h2 h3
    obtain ⟨al, nx, ac⟩ := b
    subst h1; subst h2; subst h3; rfl
theorem Agr.last (h : Agr s n i xss ys) (hi : (cuts 32 s).length ≤ i + 1) (hf : ¬ fmtV ⟨n, xss, ys⟩ = s) {b : A} (hv : validA b = true) (hs : fmtV b = s) : False := by
  obtain ⟨h1, h2, h3⟩ := h b hv hs
  have hl := fmt_cutN hv hs
  have hac := (validA_spec.1 hv).2.2.1
  rw [List.take_of_length_le (by omega)] at h2 h3
  obtain ⟨al, nx, ac⟩ := b
  subst h1; subst h2; subst h3
  exact hf hs
def AlP (t : ByteArray) (ok : Bool) (n : Int) : Prop := (ok = true → fmtAl n = t) ∧ ∀ al, (0 ≤ al ∧ al ≤ 63) → fmtAl al = t → ok = true ∧ n = al
theorem AlP.of {t : ByteArray} (h : fmtAl (alOf t) = t) : AlP t true (alOf t) := ⟨fun _ => h, fun al hal e => ⟨rfl, by rw [← e, fmtAl_of hal]⟩⟩
theorem AlP.no {t : ByteArray} {n : Int} (h : ¬ fmtAl (alOf t) = t) : AlP t false n := ⟨(fun h => by cases h), fun al hal e => (h (by rw [← e, fmtAl_of hal])).elim⟩
theorem AlP.flag {t : ByteArray} {b ok : Bool} {n : Int} (h : AlP t b n) (e : b = ok) : AlP t ok n := e ▸ h
theorem Agr.start {ok : Bool} (h : AlP ((cuts 32 s).getD 0 ByteArray.empty) ok n) : Agr s n 0 [] [] := fun b hv hs => by
  have := (h.2 b.al (validA_spec.1 hv).1 (fmt_cut0 hv hs).symm).2
  exact ⟨this, by simp, by simp⟩
theorem Agr.al {x : Int} (h : AlP ((cuts 32 s).getD 0 ByteArray.empty) false x) {b : A} (hv : validA b = true) (hs : fmtV b = s) : False := by
  cases (h.2 b.al (validA_spec.1 hv).1 (fmt_cut0 hv hs).symm).1
theorem Agr.many (h : 13 < (cuts 32 s).length) {b : A} (hv : validA b = true) (hs : fmtV b = s) : False := by
  have hl := fmt_cutN hv hs
  have := (validA_spec.1 hv).2.1
  omega
end
end Go.Proofs.YtnckpafknojdhaaDoor
namespace Go.Proofs
open Go.Shelf Go.RowKit
def Tryd.laysC172_ren : Go.Shelf.Ren := ⟨fun | 172 => 46 | 244 => 72 | 245 => 73 | 247 => 89 | 279 => 90 | 280 => 91 | 281 => 92 | 282 => 93 | 287 => 107 | 316 => 108 | 171 => 38 | 205 => 109 | 321 => 117 | 322 => 118 | 243 => 59 | 246 => 76 | 283 => 94 | 284 => 95 | 285 => 96 | 286 => 97 | 129 => 111 | 317 => 110 | 318 => 112 | 319 => 113 | 320 => 114 | 337 => 119 | 338 => 120 | n => n, fun | 9 => 9 | 3 => 3 | 75 => 61 | 76 => 62 | 4 => 4 | 5 => 5 | 167 => 99 | 37 => 69 | 0 => 0 | 85 => 100 | 2 => 2 | 168 => 102 | 53 => 107 | 175 => 119 | 46 => 105 | 210 => 123 | 127 => 86 | 145 => 139 | 143 => 137 | 21 => 21 | 171 => 106 | 173 => 110 | 212 => 126 | 51 => 127 | 20 => 20 | 213 => 128 | 232 => 141 | 233 => 142 | 80 => 76 | n => n, fun | 15 => 1 | 16 => 2 | 17 => 3 | 18 => 6 | 19 => 7 | n => n⟩
theorem Tryd.laysC172 : Go.Proofs.LaysC.n172 Tryd.prog Tryd.laysC172_ren := {
  mixed := by kernel_rfl
  f129 := Tryd.func111.trans (congrArg some (by kernel_rfl))
  f171 := Tryd.func38.trans (congrArg some (by kernel_rfl))
  f172 := Tryd.func46.trans (congrArg some (by kernel_rfl))
  f205 := Tryd.func109.trans (congrArg some (by kernel_rfl))
  f243 := Tryd.func59.trans (congrArg some (by kernel_rfl))
  f244 := Tryd.func72.trans (congrArg some (by kernel_rfl))
  f245 := Tryd.func73.trans (congrArg some (by kernel_rfl))
  f246 := Tryd.func76.trans (congrArg some (by kernel_rfl))
  f247 := Tryd.func89.trans (congrArg some (by kernel_rfl))
  f279 := Tryd.func90.trans (congrArg some (by kernel_rfl))
  f280 := Tryd.func91.trans (congrArg some (by kernel_rfl))
  f281 := Tryd.func92.trans (congrArg some (by kernel_rfl))
  f282 := Tryd.func93.trans (congrArg some (by kernel_rfl))
  f283 := Tryd.func94.trans (congrArg some (by kernel_rfl))
  f284 := Tryd.func95.trans (congrArg some (by kernel_rfl))
  f285 := Tryd.func96.trans (congrArg some (by kernel_rfl))
  f286 := Tryd.func97.trans (congrArg some (by kernel_rfl))
  f287 := Tryd.func107.trans (congrArg some (by kernel_rfl))
  f316 := Tryd.func108.trans (congrArg some (by kernel_rfl))
  f317 := Tryd.func110.trans (congrArg some (by kernel_rfl))
  f318 := Tryd.func112.trans (congrArg some (by kernel_rfl))
  f319 := Tryd.func113.trans (congrArg some (by kernel_rfl))
  f320 := Tryd.func114.trans (congrArg some (by kernel_rfl))
  f321 := Tryd.func117.trans (congrArg some (by kernel_rfl))
  f322 := Tryd.func118.trans (congrArg some (by kernel_rfl))
  f337 := Tryd.func119.trans (congrArg some (by kernel_rfl))
  f338 := Tryd.func120.trans (congrArg some (by kernel_rfl))
  t0 := Tryd.underlying0
  a0 := Tryd.isAgg0
  z0 := Tryd.sizeOf0
  v0 := Tryd.zeroValue0
  t2 := Tryd.underlying2
  a2 := Tryd.isAgg2
  z2 := Tryd.sizeOf2
  v2 := Tryd.zeroValue2
  t3 := Tryd.underlying3
  a3 := Tryd.isAgg3
  z3 := Tryd.sizeOf3
  v3 := Tryd.zeroValue3
  t4 := Tryd.underlying4
  a4 := Tryd.isAgg4
  z4 := Tryd.sizeOf4
  v4 := Tryd.zeroValue4
  t5 := Tryd.underlying5
  a5 := Tryd.isAgg5
  z5 := Tryd.sizeOf5
  v5 := Tryd.zeroValue5
  t9 := Tryd.underlying9
  a9 := Tryd.isAgg9
  z9 := Tryd.sizeOf9
  v9 := Tryd.zeroValue9
  t20 := Tryd.underlying20
  a20 := Tryd.isAgg20
  z20 := Tryd.sizeOf20
  v20 := Tryd.zeroValue20
  t21 := Tryd.underlying21
  a21 := Tryd.isAgg21
  z21 := Tryd.sizeOf21
  v21 := Tryd.zeroValue21
  t37 := Tryd.underlying69
  a37 := Tryd.isAgg69
  z37 := Tryd.sizeOf69
  v37 := Tryd.zeroValue69
  t46 := Tryd.underlying105
  a46 := Tryd.isAgg105
  z46 := Tryd.sizeOf105
  v46 := Tryd.zeroValue105
  t51 := Tryd.underlying127
  a51 := Tryd.isAgg127
  z51 := Tryd.sizeOf127
  v51 := Tryd.zeroValue127
  t53 := Tryd.underlying107
  a53 := Tryd.isAgg107
  z53 := Tryd.sizeOf107
  v53 := Tryd.zeroValue107
  t75 := Tryd.underlying61
  a75 := Tryd.isAgg61
  z75 := Tryd.sizeOf61
  v75 := Tryd.zeroValue61
  t76 := Tryd.underlying62
  a76 := Tryd.isAgg62
  z76 := Tryd.sizeOf62
  v76 := Tryd.zeroValue62
  t85 := Tryd.underlying100
  a85 := Tryd.isAgg100
  z85 := Tryd.sizeOf100
  v85 := Tryd.zeroValue100
  t127 := Tryd.underlying86
  a127 := Tryd.isAgg86
  z127 := Tryd.sizeOf86
  v127 := Tryd.zeroValue86
  t143 := Tryd.underlying137
  a143 := Tryd.isAgg137
  z143 := Tryd.sizeOf137
  v143 := Tryd.zeroValue137
  t145 := Tryd.underlying139
  a145 := Tryd.isAgg139
  z145 := Tryd.sizeOf139
  v145 := Tryd.zeroValue139
  t167 := Tryd.underlying99
  a167 := Tryd.isAgg99
  z167 := Tryd.sizeOf99
  v167 := Tryd.zeroValue99
  t168 := Tryd.underlying102
  a168 := Tryd.isAgg102
  z168 := Tryd.sizeOf102
  v168 := Tryd.zeroValue102
  t171 := Tryd.underlying106
  a171 := Tryd.isAgg106
  z171 := Tryd.sizeOf106
  v171 := Tryd.zeroValue106
  t173 := Tryd.underlying110
  a173 := Tryd.isAgg110
  z173 := Tryd.sizeOf110
  v173 := Tryd.zeroValue110
  t175 := Tryd.underlying119
  a175 := Tryd.isAgg119
  z175 := Tryd.sizeOf119
  v175 := Tryd.zeroValue119
  t210 := Tryd.underlying123
  a210 := Tryd.isAgg123
  z210 := Tryd.sizeOf123
  v210 := Tryd.zeroValue123
  t212 := Tryd.underlying126
  a212 := Tryd.isAgg126
  z212 := Tryd.sizeOf126
  v212 := Tryd.zeroValue126
  t213 := Tryd.underlying128
  a213 := Tryd.isAgg128
  z213 := Tryd.sizeOf128
  t232 := Tryd.underlying141
  a232 := Tryd.isAgg141
  z232 := Tryd.sizeOf141
  v232 := Tryd.zeroValue141
  t233 := Tryd.underlying142
  a233 := Tryd.isAgg142
  z233 := Tryd.sizeOf142
  v233 := Tryd.zeroValue142
  g15 := by kernel_rfl
  g16 := by kernel_rfl
  g17 := by kernel_rfl
  g18 := by kernel_rfl
  g19 := by kernel_rfl
  t80 := Tryd.underlying76
  a80 := Tryd.isAgg76
  z80 := Tryd.sizeOf76
  v80 := Tryd.zeroValue76
  i0 := by kernel_rfl
  i2 := by kernel_rfl
  i3 := by kernel_rfl
  i4 := by kernel_rfl
  i5 := by kernel_rfl
  i9 := by kernel_rfl
  i20 := by kernel_rfl
  i21 := by kernel_rfl
  i37 := by kernel_rfl
  i46 := by kernel_rfl
  i51 := by kernel_rfl
  i53 := by kernel_rfl
  i75 := by kernel_rfl
  i76 := by kernel_rfl
  i80 := by kernel_rfl
  i85 := by kernel_rfl
  i127 := by kernel_rfl
  i143 := by kernel_rfl
  i145 := by kernel_rfl
  i167 := by kernel_rfl
  i168 := by kernel_rfl
  i171 := by kernel_rfl
  i173 := by kernel_rfl
  i175 := by kernel_rfl
  i210 := by kernel_rfl
  i212 := by kernel_rfl
  i232 := by kernel_rfl
  i233 := by kernel_rfl
  m15 := by kernel_rfl
  m16 := by kernel_rfl
  m17 := by kernel_rfl
  m18 := by kernel_rfl
  m19 := by kernel_rfl
  c0 := by kernel_rfl
  c2 := by kernel_rfl
  c3 := by kernel_rfl
  c4 := by kernel_rfl
  c5 := by kernel_rfl
  c9 := by kernel_rfl
  c20 := by kernel_rfl
  c21 := by kernel_rfl
  c37 := by kernel_rfl
  c46 := by kernel_rfl
  c51 := by kernel_rfl
  c53 := by kernel_rfl
  c75 := by kernel_rfl
  c76 := by kernel_rfl
  c80 := by kernel_rfl
  c85 := by kernel_rfl
  c127 := by kernel_rfl
  c143 := by kernel_rfl
  c145 := by kernel_rfl
  c167 := by kernel_rfl
  c168 := by kernel_rfl
  c171 := by kernel_rfl
  c173 := by kernel_rfl
  c175 := by kernel_rfl
  c210 := by kernel_rfl
  c212 := by kernel_rfl
  c213 := by kernel_rfl
  c232 := by kernel_rfl
  c233 := by kernel_rfl }
theorem Tryd.strconv_Atoi_ok (s : ByteArray) (hmax : s.size ≤ 9223372036854775806) (v : Int) (h : Lib.atoiAll s.data.toList = .ok v) (w : World) :
    Calls Tryd.prog 46 #[.string s] w fun e w' => e = .returned (.tuple #[.int .i64 v, .nilIface]) ∧ (w' = w ∨ ∃ t, w' = Lib.bytesWorld w 5 t) := Any.strconv_Atoi_ok Tryd.laysC172 s hmax v h w
theorem Tryd.strconv_Atoi_syntax (s : ByteArray) (hlim : s.size ≤ 281474976710656) (h : (∀ x, ¬ Lib.atoiAll s.data.toList = .ok x) ∧ ¬ Lib.atoiAll s.data.toList = .range) (ev : Value) (w : World) (hv : w.cell? ⟨1, 0, none⟩ = some ev) (hev : ev = .nilIface ∨ ∃ te pe, ev = .iface te pe) :
    Calls Tryd.prog 46 #[.string s] w fun e w' => ∃ N, e = .returned (.tuple #[.int .i64 (0), .iface 102 (.pointer (some ⟨N, 0, none⟩))]) ∧ w.heap.size ≤ N ∧ w'.heap[N]? = some (.cells #[.string ⟨#[65, 116, 111, 105]⟩, .string s, ev] 123 (0, 0)) ∧ Below w.heap.size w w' := Any.strconv_Atoi_syntax Tryd.laysC172 s hlim (by obtain ⟨h1, h2⟩ := h; cases e : Lib.atoiAll s.data.toList <;> first | rfl | exact absurd e (h1 _) | exact absurd e h2) ev w hv hev
theorem Tryd.strconv_Atoi_range (s : ByteArray) (hlim : s.size ≤ 281474976710656) (h : Lib.atoiAll s.data.toList = .range) (ev : Value) (w : World) (hv : w.cell? ⟨2, 0, none⟩ = some ev) (hev : ev = .nilIface ∨ ∃ te pe, ev = .iface te pe) :
    Calls Tryd.prog 46 #[.string s] w fun e w' => ∃ N, e = .returned (.tuple #[.int .i64 (Lib.atoiSat s.data.toList), .iface 102 (.pointer (some ⟨N, 0, none⟩))]) ∧ w.heap.size ≤ N ∧ w'.heap[N]? = some (.cells #[.string ⟨#[65, 116, 111, 105]⟩, .string s, ev] 123 (0, 0)) ∧ Below w.heap.size w w' := Any.strconv_Atoi_range Tryd.laysC172 s hlim h ev w hv hev
def Tryd.lays143_ren : Go.Shelf.Ren := ⟨fun | 143 => 70 | 219 => 87 | 217 => 103 | 225 => 104 | 224 => 105 | 267 => 106 | 266 => 115 | 314 => 116 | n => n, fun | 9 => 9 | 3 => 3 | 4 => 4 | 5 => 5 | 46 => 105 | 146 => 134 | 51 => 127 | n => n, fun | 1 => 0 | n => n⟩
theorem Tryd.lays143 : Go.Proofs.Lays.n143 Tryd.prog Tryd.lays143_ren := {
  mixed := by kernel_rfl
  f143 := Tryd.func70.trans (congrArg some (by kernel_rfl))
  f217 := Tryd.func103.trans (congrArg some (by kernel_rfl))
  f219 := Tryd.func87.trans (congrArg some (by kernel_rfl))
  f224 := Tryd.func105.trans (congrArg some (by kernel_rfl))
  f225 := Tryd.func104.trans (congrArg some (by kernel_rfl))
  f266 := Tryd.func115.trans (congrArg some (by kernel_rfl))
  f267 := Tryd.func106.trans (congrArg some (by kernel_rfl))
  f314 := Tryd.func116.trans (congrArg some (by kernel_rfl))
  t3 := Tryd.underlying3
  a3 := Tryd.isAgg3
  z3 := Tryd.sizeOf3
  v3 := Tryd.zeroValue3
  t4 := Tryd.underlying4
  a4 := Tryd.isAgg4
  z4 := Tryd.sizeOf4
  v4 := Tryd.zeroValue4
  t5 := Tryd.underlying5
  a5 := Tryd.isAgg5
  z5 := Tryd.sizeOf5
  v5 := Tryd.zeroValue5
  t9 := Tryd.underlying9
  a9 := Tryd.isAgg9
  z9 := Tryd.sizeOf9
  v9 := Tryd.zeroValue9
  t46 := Tryd.underlying105
  a46 := Tryd.isAgg105
  z46 := Tryd.sizeOf105
  v46 := Tryd.zeroValue105
  t51 := Tryd.underlying127
  a51 := Tryd.isAgg127
  z51 := Tryd.sizeOf127
  v51 := Tryd.zeroValue127
  t146 := Tryd.underlying134
  a146 := Tryd.isAgg134
  z146 := Tryd.sizeOf134
  v146 := Tryd.zeroValue134
  g1 := by kernel_rfl }
open Go.RowKit Go.Lib in
theorem Tryd.strings_Index_one (s : ByteArray) (c : UInt8) (w : World) :
    Calls Tryd.prog 70 #[.string s, .string ⟨#[c]⟩] w fun e w' => e = .returned (.int .i64 (Lib.indexByte s.data.toList c)) ∧ w' = w := Any.strings_Index_one Tryd.lays143 s c w
def Tryd.lays138_ren : Go.Shelf.Ren := ⟨fun | 138 => 69 | 195 => 84 | 218 => 86 | 143 => 70 | 219 => 87 | 217 => 103 | 225 => 104 | 224 => 105 | 267 => 106 | 266 => 115 | 314 => 116 | n => n, fun | 9 => 9 | 3 => 3 | 4 => 4 | 5 => 5 | 0 => 0 | 46 => 105 | 146 => 134 | 51 => 127 | n => n, fun | 1 => 0 | n => n⟩
theorem Tryd.lays138 : Go.Proofs.Lays.n138 Tryd.prog Tryd.lays138_ren := {
  mixed := by kernel_rfl
  f138 := Tryd.func69.trans (congrArg some (by kernel_rfl))
  f143 := Tryd.func70.trans (congrArg some (by kernel_rfl))
  f195 := Tryd.func84.trans (congrArg some (by kernel_rfl))
  f217 := Tryd.func103.trans (congrArg some (by kernel_rfl))
  f218 := Tryd.func86.trans (congrArg some (by kernel_rfl))
  f219 := Tryd.func87.trans (congrArg some (by kernel_rfl))
  f224 := Tryd.func105.trans (congrArg some (by kernel_rfl))
  f225 := Tryd.func104.trans (congrArg some (by kernel_rfl))
  f266 := Tryd.func115.trans (congrArg some (by kernel_rfl))
  f267 := Tryd.func106.trans (congrArg some (by kernel_rfl))
  f314 := Tryd.func116.trans (congrArg some (by kernel_rfl))
  t0 := Tryd.underlying0
  a0 := Tryd.isAgg0
  z0 := Tryd.sizeOf0
  v0 := Tryd.zeroValue0
  t3 := Tryd.underlying3
  a3 := Tryd.isAgg3
  z3 := Tryd.sizeOf3
  v3 := Tryd.zeroValue3
  t4 := Tryd.underlying4
  a4 := Tryd.isAgg4
  z4 := Tryd.sizeOf4
  v4 := Tryd.zeroValue4
  t5 := Tryd.underlying5
  a5 := Tryd.isAgg5
  z5 := Tryd.sizeOf5
  v5 := Tryd.zeroValue5
  t9 := Tryd.underlying9
  a9 := Tryd.isAgg9
  z9 := Tryd.sizeOf9
  v9 := Tryd.zeroValue9
  t46 := Tryd.underlying105
  a46 := Tryd.isAgg105
  z46 := Tryd.sizeOf105
  v46 := Tryd.zeroValue105
  t51 := Tryd.underlying127
  a51 := Tryd.isAgg127
  z51 := Tryd.sizeOf127
  v51 := Tryd.zeroValue127
  t146 := Tryd.underlying134
  a146 := Tryd.isAgg134
  z146 := Tryd.sizeOf134
  v146 := Tryd.zeroValue134
  g1 := by kernel_rfl }
open Go.RowKit Go.Lib in
theorem Tryd.strings_Count_one (s : ByteArray) (c : UInt8) (w : World) :
    Calls Tryd.prog 69 #[.string s, .string ⟨#[c]⟩] w fun e w' => e = .returned (.int .i64 (Lib.countByte s.data.toList c)) ∧ w' = w := Any.strings_Count_one Tryd.lays138 s c w
def Tryd.lays221_ren : Go.Shelf.Ren := ⟨fun | 221 => 43 | 268 => 68 | 138 => 69 | 143 => 70 | 195 => 84 | 197 => 85 | 218 => 86 | 219 => 87 | 260 => 102 | 217 => 103 | 225 => 104 | 224 => 105 | 267 => 106 | 266 => 115 | 314 => 116 | n => n, fun | 9 => 9 | 3 => 3 | 31 => 37 | 4 => 4 | 0 => 0 | 105 => 96 | 21 => 21 | 5 => 5 | 46 => 105 | 119 => 130 | 139 => 133 | 138 => 132 | 146 => 134 | 51 => 127 | n => n, fun | 1 => 0 | 3 => 4 | 4 => 5 | n => n⟩
theorem Tryd.lays221 : Go.Proofs.Lays.n221 Tryd.prog Tryd.lays221_ren := {
  mixed := by kernel_rfl
  f138 := Tryd.func69.trans (congrArg some (by kernel_rfl))
  f143 := Tryd.func70.trans (congrArg some (by kernel_rfl))
  f195 := Tryd.func84.trans (congrArg some (by kernel_rfl))
  f197 := Tryd.func85.trans (congrArg some (by kernel_rfl))
  f217 := Tryd.func103.trans (congrArg some (by kernel_rfl))
  f218 := Tryd.func86.trans (congrArg some (by kernel_rfl))
  f219 := Tryd.func87.trans (congrArg some (by kernel_rfl))
  f221 := Tryd.func43.trans (congrArg some (by kernel_rfl))
  f224 := Tryd.func105.trans (congrArg some (by kernel_rfl))
  f225 := Tryd.func104.trans (congrArg some (by kernel_rfl))
  f260 := Tryd.func102.trans (congrArg some (by kernel_rfl))
  f266 := Tryd.func115.trans (congrArg some (by kernel_rfl))
  f267 := Tryd.func106.trans (congrArg some (by kernel_rfl))
  f268 := Tryd.func68.trans (congrArg some (by kernel_rfl))
  f314 := Tryd.func116.trans (congrArg some (by kernel_rfl))
  t0 := Tryd.underlying0
  a0 := Tryd.isAgg0
  z0 := Tryd.sizeOf0
  v0 := Tryd.zeroValue0
  t3 := Tryd.underlying3
  a3 := Tryd.isAgg3
  z3 := Tryd.sizeOf3
  v3 := Tryd.zeroValue3
  t4 := Tryd.underlying4
  a4 := Tryd.isAgg4
  z4 := Tryd.sizeOf4
  v4 := Tryd.zeroValue4
  t5 := Tryd.underlying5
  a5 := Tryd.isAgg5
  z5 := Tryd.sizeOf5
  v5 := Tryd.zeroValue5
  t9 := Tryd.underlying9
  a9 := Tryd.isAgg9
  z9 := Tryd.sizeOf9
  v9 := Tryd.zeroValue9
  t21 := Tryd.underlying21
  a21 := Tryd.isAgg21
  z21 := Tryd.sizeOf21
  v21 := Tryd.zeroValue21
  t31 := Tryd.underlying37
  a31 := Tryd.isAgg37
  z31 := Tryd.sizeOf37
  v31 := Tryd.zeroValue37
  t46 := Tryd.underlying105
  a46 := Tryd.isAgg105
  z46 := Tryd.sizeOf105
  v46 := Tryd.zeroValue105
  t51 := Tryd.underlying127
  a51 := Tryd.isAgg127
  z51 := Tryd.sizeOf127
  v51 := Tryd.zeroValue127
  t105 := Tryd.underlying96
  a105 := Tryd.isAgg96
  z105 := Tryd.sizeOf96
  v105 := Tryd.zeroValue96
  t119 := Tryd.underlying130
  a119 := Tryd.isAgg130
  z119 := Tryd.sizeOf130
  t138 := Tryd.underlying132
  a138 := Tryd.isAgg132
  z138 := Tryd.sizeOf132
  v138 := Tryd.zeroValue132
  t139 := Tryd.underlying133
  a139 := Tryd.isAgg133
  z139 := Tryd.sizeOf133
  v139 := Tryd.zeroValue133
  t146 := Tryd.underlying134
  a146 := Tryd.isAgg134
  z146 := Tryd.sizeOf134
  v146 := Tryd.zeroValue134
  g1 := by kernel_rfl
  g3 := by kernel_rfl
  g4 := by kernel_rfl }
end Go.Proofs
set_option linter.unusedSimpArgs false
set_option linter.unusedVariables false
namespace Go.Proofs.YtnckpafknojdhaaDoor
set_option maxRecDepth 100000
theorem mixed : Tryd.prog.follows .mixedOrders = true := Tryd.checked.mixed
theorem fn6 : Fn Tryd.prog 6 Tryd.f6 := ⟨Tryd.func6, rfl, by kernel_rfl⟩
theorem fn7 : Fn Tryd.prog 7 Tryd.f7 := ⟨Tryd.func7, rfl, by kernel_rfl⟩
theorem fn8 : Fn Tryd.prog 8 Tryd.f8 := ⟨Tryd.func8, rfl, by kernel_rfl⟩
theorem fn9 : Fn Tryd.prog 9 Tryd.f9 := ⟨Tryd.func9, rfl, by kernel_rfl⟩
theorem fn10 : Fn Tryd.prog 10 Tryd.f10 := ⟨Tryd.func10, rfl, by kernel_rfl⟩
theorem fn12 : Fn Tryd.prog 12 Tryd.f12 := ⟨Tryd.func12, rfl, by kernel_rfl⟩
theorem fn14 : Fn Tryd.prog 14 Tryd.f14 := ⟨Tryd.func14, rfl, by kernel_rfl⟩
theorem fn17 : Fn Tryd.prog 17 Tryd.f17 := ⟨Tryd.func17, rfl, by kernel_rfl⟩
theorem fn18 : Fn Tryd.prog 18 Tryd.f18 := ⟨Tryd.func18, rfl, by kernel_rfl⟩
theorem fn19 : Fn Tryd.prog 19 Tryd.f19 := ⟨Tryd.func19, rfl, by kernel_rfl⟩
theorem fn20 : Fn Tryd.prog 20 Tryd.f20 := ⟨Tryd.func20, rfl, by kernel_rfl⟩
theorem fn21 : Fn Tryd.prog 21 Tryd.f21 := ⟨Tryd.func21, rfl, by kernel_rfl⟩
theorem fn22 : Fn Tryd.prog 22 Tryd.f22 := ⟨Tryd.func22, rfl, by kernel_rfl⟩
theorem fn23 : Fn Tryd.prog 23 Tryd.f23 := ⟨Tryd.func23, rfl, by kernel_rfl⟩
theorem fn24 : Fn Tryd.prog 24 Tryd.f24 := ⟨Tryd.func24, rfl, by kernel_rfl⟩
theorem fn25 : Fn Tryd.prog 25 Tryd.f25 := ⟨Tryd.func25, rfl, by kernel_rfl⟩
theorem fn26 : Fn Tryd.prog 26 Tryd.f26 := ⟨Tryd.func26, rfl, by kernel_rfl⟩
theorem fn27 : Fn Tryd.prog 27 Tryd.f27 := ⟨Tryd.func27, rfl, by kernel_rfl⟩
theorem fn28 : Fn Tryd.prog 28 Tryd.f28 := ⟨Tryd.func28, rfl, by kernel_rfl⟩
theorem fn31 : Fn Tryd.prog 31 Tryd.f31 := ⟨Tryd.func31, rfl, by kernel_rfl⟩
theorem fn32 : Fn Tryd.prog 32 Tryd.f32 := ⟨Tryd.func32, rfl, by kernel_rfl⟩
theorem fn33 : Fn Tryd.prog 33 Tryd.f33 := ⟨Tryd.func33, rfl, by kernel_rfl⟩
theorem fn36 : Fn Tryd.prog 36 Tryd.f36 := ⟨Tryd.func36, rfl, by kernel_rfl⟩
theorem fn37 : Fn Tryd.prog 37 Tryd.f37 := ⟨Tryd.func37, rfl, by kernel_rfl⟩
theorem fn38 : Fn Tryd.prog 38 Tryd.f38 := ⟨Tryd.func38, rfl, by kernel_rfl⟩
theorem fn39 : Fn Tryd.prog 39 Tryd.f39 := ⟨Tryd.func39, rfl, by kernel_rfl⟩
theorem fn42 : Fn Tryd.prog 42 Tryd.f42 := ⟨Tryd.func42, rfl, by kernel_rfl⟩
theorem fn43 : Fn Tryd.prog 43 Tryd.f43 := ⟨Tryd.func43, rfl, by kernel_rfl⟩
theorem fn44 : Fn Tryd.prog 44 Tryd.f44 := ⟨Tryd.func44, rfl, by kernel_rfl⟩
theorem fn45 : Fn Tryd.prog 45 Tryd.f45 := ⟨Tryd.func45, rfl, by kernel_rfl⟩
theorem fn46 : Fn Tryd.prog 46 Tryd.f46 := ⟨Tryd.func46, rfl, by kernel_rfl⟩
theorem fn47 : Fn Tryd.prog 47 Tryd.f47 := ⟨Tryd.func47, rfl, by kernel_rfl⟩
theorem fn48 : Fn Tryd.prog 48 Tryd.f48 := ⟨Tryd.func48, rfl, by kernel_rfl⟩
theorem fn49 : Fn Tryd.prog 49 Tryd.f49 := ⟨Tryd.func49, rfl, by kernel_rfl⟩
theorem fn51 : Fn Tryd.prog 51 Tryd.f51 := ⟨Tryd.func51, rfl, by kernel_rfl⟩
theorem fn52 : Fn Tryd.prog 52 Tryd.f52 := ⟨Tryd.func52, rfl, by kernel_rfl⟩
theorem fn53 : Fn Tryd.prog 53 Tryd.f53 := ⟨Tryd.func53, rfl, by kernel_rfl⟩
theorem fn54 : Fn Tryd.prog 54 Tryd.f54 := ⟨Tryd.func54, rfl, by kernel_rfl⟩
theorem fn56 : Fn Tryd.prog 56 Tryd.f56 := ⟨Tryd.func56, rfl, by kernel_rfl⟩
theorem fn57 : Fn Tryd.prog 57 Tryd.f57 := ⟨Tryd.func57, rfl, by kernel_rfl⟩
theorem fn58 : Fn Tryd.prog 58 Tryd.f58 := ⟨Tryd.func58, rfl, by kernel_rfl⟩
theorem fn59 : Fn Tryd.prog 59 Tryd.f59 := ⟨Tryd.func59, rfl, by kernel_rfl⟩
theorem fn70 : Fn Tryd.prog 70 Tryd.f70 := ⟨Tryd.func70, rfl, by kernel_rfl⟩
theorem fn71 : Fn Tryd.prog 71 Tryd.f71 := ⟨Tryd.func71, rfl, by kernel_rfl⟩
theorem fn74 : Fn Tryd.prog 74 Tryd.f74 := ⟨Tryd.func74, rfl, by kernel_rfl⟩
theorem fn75 : Fn Tryd.prog 75 Tryd.f75 := ⟨Tryd.func75, rfl, by kernel_rfl⟩
theorem fn76 : Fn Tryd.prog 76 Tryd.f76 := ⟨Tryd.func76, rfl, by kernel_rfl⟩
theorem fn88 : Fn Tryd.prog 88 Tryd.f88 := ⟨Tryd.func88, rfl, by kernel_rfl⟩
theorem fn94 : Fn Tryd.prog 94 Tryd.f94 := ⟨Tryd.func94, rfl, by kernel_rfl⟩
theorem one3 : One Tryd.prog 3 := ⟨fun _ => by kernel_rfl, fun _ => by kernel_rfl⟩
theorem one4 : One Tryd.prog 4 := ⟨fun _ => by kernel_rfl, fun _ => by kernel_rfl⟩
theorem zero4 : ∀ w, (zeroValue 4).run Tryd.prog w = .ok (.bool false) w := fun _ => by kernel_rfl
theorem one9 : One Tryd.prog 9 := ⟨fun _ => by kernel_rfl, fun _ => by kernel_rfl⟩
theorem one22 : One Tryd.prog 22 := ⟨fun _ => by kernel_rfl, fun _ => by kernel_rfl⟩
theorem one23 : One Tryd.prog 23 := ⟨fun _ => by kernel_rfl, fun _ => by kernel_rfl⟩
theorem one41 : One Tryd.prog 41 := ⟨fun _ => by kernel_rfl, fun _ => by kernel_rfl⟩
theorem zero41 : ∀ w, (zeroValue 41).run Tryd.prog w = .ok (.slice none 0 0) w := fun _ => by kernel_rfl
theorem und4 : Tryd.prog.underlying 4 = some .bool := by kernel_rfl
theorem und9 : Tryd.prog.underlying 9 = some .string := by kernel_rfl
theorem sl22 : SlT Tryd.prog 22 41 (.slice none 0 0) := ⟨by kernel_rfl, ⟨_, rfl, by kernel_rfl, by kernel_rfl, by decide⟩, rfl⟩
theorem und22 : Tryd.prog.underlying 22 = some (.slice (Tryd.prog.elem 22)) := by kernel_rfl
theorem sl23 : SlT Tryd.prog 23 4 (.bool false) := ⟨by kernel_rfl, ⟨_, rfl, by kernel_rfl, by kernel_rfl, by decide⟩, rfl⟩
theorem und23 : Tryd.prog.underlying 23 = some (.slice (Tryd.prog.elem 23)) := by kernel_rfl
theorem sl37 : SlT Tryd.prog 37 9 (.string ByteArray.empty) := ⟨by kernel_rfl, ⟨_, rfl, by kernel_rfl, by kernel_rfl, by decide⟩, rfl⟩
theorem und37 : Tryd.prog.underlying 37 = some (.slice (Tryd.prog.elem 37)) := by kernel_rfl
theorem sl41 : SlT Tryd.prog 41 3 (.int .i64 0) := ⟨by kernel_rfl, ⟨_, rfl, by kernel_rfl, by kernel_rfl, by decide⟩, rfl⟩
theorem und41 : Tryd.prog.underlying 41 = some (.slice (Tryd.prog.elem 41)) := by kernel_rfl
theorem und61 : Tryd.prog.underlying 61 = some (.interface (Tryd.prog.methodsAt 61)) := by kernel_rfl
theorem sl69 : SlT Tryd.prog 69 5 (.int .u8 0) := ⟨by kernel_rfl, ⟨_, rfl, by kernel_rfl, by kernel_rfl, by decide⟩, rfl⟩
theorem und69 : Tryd.prog.underlying 69 = some (.slice (Tryd.prog.elem 69)) := by kernel_rfl
theorem und8_69 : Tryd.prog.underlying (Tryd.prog.elem 69) = some (.int .u8) := by kernel_rfl
theorem agg25 : Agg Tryd.prog 25 3 := ⟨fun _ => by kernel_rfl, fun _ => by kernel_rfl⟩
theorem zero25 : ∀ w, (zeroValue 25).run Tryd.prog w = .ok (.agg [.int .i64 0, .slice none 0 0, .slice none 0 0].toArray) w := fun _ => by kernel_rfl
theorem st25 : StT Tryd.prog 25 3 [.int .i64 0, .slice none 0 0, .slice none 0 0] := StT.of (by kernel_rfl) (fun _ => by kernel_rfl) zero25
theorem fld25_0 : Fld Tryd.prog 25 0 0 := fun _ _ _ => by kernel_rfl
theorem fld25_1 : Fld Tryd.prog 25 1 1 := fun _ _ _ => by kernel_rfl
theorem fld25_2 : Fld Tryd.prog 25 2 2 := fun _ _ _ => by kernel_rfl
theorem conv3_5 : Cnv Tryd.prog 3 5 .u8 := Cnv.of (by kernel_rfl) (by kernel_rfl)
theorem conv3_105 : Cnv Tryd.prog 3 105 .u64 := Cnv.of (by kernel_rfl) (by kernel_rfl)
theorem conv5_3 : Cnv Tryd.prog 5 3 .i64 := Cnv.of (by kernel_rfl) (by kernel_rfl)
def OwnA (w : World) (B : Nat) (v : Value) (a : A) : Prop := ∃ nx ac, v = .agg #[.int .i64 a.al, nx, ac] ∧ OwnRows w B w.heap.size 41 3 nx a.next ∧ Own w B 4 ac (a.acc.map Value.bool)
end Go.Proofs.YtnckpafknojdhaaDoor
