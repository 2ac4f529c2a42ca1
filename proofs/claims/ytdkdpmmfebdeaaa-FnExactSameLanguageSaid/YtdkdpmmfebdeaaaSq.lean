/-
  A small calculus for walking through translated Go code: the frame of a call is told by a list of slots, one law an operation. Nothing of any one program stands here.
-/
import Derived.WalkKit
set_option linter.unusedSimpArgs false
set_option linter.unusedVariables false
namespace Go.Proofs.Ytdkdpmmfebdeaaa
open Go.RowKit

abbrev Slots := List (Nat × Value)
def look : Slots → Nat → Option Value
  | [], _ => none
  | (k, v) :: r, t => cond (Nat.beq k t) (some v) (look r t)

/-- What is known of a frame: its size, no deferred calls, and what some slots hold. -/
structure St (N : Nat) (l : Slots) (a : Act) : Prop where
  size : a.tmps.size = N
  defers : a.defers = []
  slot : ∀ t v, look l t = some v → a.tmps.getD t undef = v

def ev (l : Slots) : Operand → Option Value
  | .tmp t => look l t
  | .const v => some v
  | .global g => some (.pointer (some ⟨g, 0, none⟩))
  | .func f => some (.func (.func f) #[] #[])

theorem St.ev {N : Nat} {l : Slots} {a : Act} {x : Operand} {v : Value} (h : St N l a) (hx : ev l x = some v) : a.eval x = v := by
  cases x with
  | tmp t => exact h.slot t v hx
  | const u => simpa [Act.eval, Go.Proofs.Ytdkdpmmfebdeaaa.ev] using hx
  | global g => simpa [Act.eval, Go.Proofs.Ytdkdpmmfebdeaaa.ev] using hx
  | func f => simpa [Act.eval, Go.Proofs.Ytdkdpmmfebdeaaa.ev] using hx

theorem St.put {N : Nat} {l : Slots} {a : Act} {d : Nat} {v : Value} (h : St N l a) (hd : Nat.blt d N = true) : St N ((d, v) :: l) (a.put (some d) v) := by
  have hd' : d < N := Nat.lt_of_lt_of_le (Nat.lt_succ_self d) (Nat.le_of_ble_eq_true hd)
  refine ⟨by simp [Act.put, h.size], h.defers, fun t u hu => ?_⟩
  simp only [look] at hu
  cases hb : Nat.beq d t with
  | true =>
    obtain rfl := Nat.eq_of_beq_eq_true hb
    rw [hb] at hu
    simp at hu
    subst hu
    have : d < a.tmps.size := by rw [h.size]; exact hd'
    simp [Act.put, this]
  | false =>
    have hne : d ≠ t := Nat.ne_of_beq_eq_false hb
    rw [hb] at hu
    have := h.slot t u hu
    simp only [Act.put]
    rw [← this]
    simp [Array.getD_eq_getD_getElem?, hne]

theorem St.bool {N : Nat} {l : Slots} {a : Act} {t : Nat} {b : Bool} (h : St N l a) (hv : look l t = some (.bool b)) : a.tmps[t]? = some (.bool b) := by
  have := h.slot _ _ hv
  rw [Array.getD_eq_getD_getElem?] at this
  cases hx : a.tmps[t]? with
  | none => rw [hx] at this; simp [undef] at this
  | some v => rw [hx] at this; simpa using this

theorem St.putNone {N : Nat} {l : Slots} {a : Act} {v : Value} (h : St N l a) : St N l (a.put none v) := h

/-- A smaller list of slots. -/
def Sub (l l' : Slots) : Prop := ∀ t v, look l' t = some v → look l t = some v
theorem Sub.nil {l : Slots} : Sub l [] := fun t v hv => by simp [Go.Proofs.Ytdkdpmmfebdeaaa.look] at hv
theorem Sub.cons {l : Slots} {k : Nat} {v : Value} {r : Slots} (h : look l k = some v) (s : Sub l r) : Sub l ((k, v) :: r) := by
  intro t u hu
  simp only [Go.Proofs.Ytdkdpmmfebdeaaa.look] at hu
  cases hb : Nat.beq k t with
  | true =>
    obtain rfl := Nat.eq_of_beq_eq_true hb
    rw [hb] at hu
    simp at hu
    subst hu
    exact h
  | false => rw [hb] at hu; exact s t u hu

theorem St.sub {N : Nat} {l l' : Slots} {a : Act} (h : St N l a) (s : Sub l l') : St N l' a := ⟨h.size, h.defers, fun t v hv => h.slot t v (s t v hv)⟩

/-- The rest of a region. -/
def Sq (P : Program) (N : Nat) (ops : Array Oper) (Q : Exit → Act → World → Prop) (rest : List Oper) (l : Slots) (w : World) : Prop :=
  ∀ a, St N l a → wpList P ops Q rest a w
/-- A piece of code. -/
def Cq (P : Program) (N : Nat) (c : Code) (Q : Exit → Act → World → Prop) (l : Slots) (w : World) : Prop :=
  ∀ a, St N l a → c.wp P Q a w
/-- An exit. -/
def Eq (N : Nat) (Q : Exit → Act → World → Prop) (e : Exit) (l : Slots) (w : World) : Prop :=
  ∀ a, St N l a → Q e a w

section code
variable {P : Program} {N : Nat} {Q : Exit → Act → World → Prop} {l : Slots} {w : World}

theorem Cq.seq {x y : Code} (h : Cq P N x (Exit.then (y.wp P Q) Q) l w) : Cq P N (.seq x y) Q l w := fun a ha => wp_seq (h a ha)
theorem Cq.skip (h : Eq N Q .normal l w) : Cq P N .skip Q l w := fun a ha => wp_skip (h a ha)
theorem Cq.ret (h : Eq N Q .ret l w) : Cq P N .ret Q l w := fun a ha => wp_ret (h a ha)
theorem Cq.exit {id : Nat} (h : Eq N Q (.exit id) l w) : Cq P N (.exit id) Q l w := fun a ha => wp_exit (h a ha)
theorem Cq.block {id : Nat} {c : Code} (h : Cq P N c (Exit.inBlock id Q) l w) : Cq P N (.block id c) Q l w := fun a ha => wp_block (h a ha)
theorem Cq.thn {c : Operand} {x y : Code} (hc : ev l c = some (.bool true)) (h : Cq P N x Q l w) : Cq P N (.cond c x y) Q l w := fun a ha => wp_cond_true (ha.ev hc) (h a ha)
theorem Cq.els {c : Operand} {x y : Code} (hc : ev l c = some (.bool false)) (h : Cq P N y Q l w) : Cq P N (.cond c x y) Q l w := fun a ha => wp_cond_false (ha.ev hc) (h a ha)
theorem Cq.both {c : Operand} {x y : Code} {t : Bool} (hc : ev l c = some (.bool t)) (h1 : t = true → Cq P N x Q l w) (h2 : t = false → Cq P N y Q l w) : Cq P N (.cond c x y) Q l w :=
  fun a ha => wp_cond_split (ha.ev hc) (fun h => h1 h a ha) (fun h => h2 h a ha)
theorem Cq.region {id : Nat} {ops : List Oper} (h : Sq P N ops.toArray Q ops l w) : Cq P N (.region id ops.toArray false) Q l w := fun a ha => wp_region_lit (h a ha)
theorem Cq.sub {c : Code} {l' : Slots} (s : Sub l l') (h : Cq P N c Q l' w) : Cq P N c Q l w := fun a ha => h a (ha.sub s)
theorem Eq.sub {e : Exit} {l' : Slots} (s : Sub l l') (h : Eq N Q e l' w) : Eq N Q e l w := fun a ha => h a (ha.sub s)
theorem Cq.mono {c : Code} {Q' : Exit → Act → World → Prop} (h : Cq P N c Q' l w) (hq : ∀ e a w, Q' e a w → Q e a w) : Cq P N c Q l w := fun a ha => wp_mono (h a ha) hq

/-- Exits, by what they pass through. -/
theorem Eq.next {y : Code} (h : Cq P N y Q l w) : Eq N (Exit.then (y.wp P Q) Q) .normal l w := fun a ha => h a ha
theorem Eq.past {K : Act → World → Prop} {id : Nat} (h : Eq N Q (.exit id) l w) : Eq N (Exit.then K Q) (.exit id) l w := fun a ha => h a ha
theorem Eq.pastRet {K : Act → World → Prop} (h : Eq N Q .ret l w) : Eq N (Exit.then K Q) .ret l w := fun a ha => h a ha
theorem Eq.hit {id : Nat} (h : Eq N Q .normal l w) : Eq N (Exit.inBlock id Q) (.exit id) l w := fun a ha => by simpa [Exit.inBlock] using h a ha
theorem Eq.miss {id id' : Nat} (hne : Nat.beq id' id = false) (h : Eq N Q (.exit id') l w) : Eq N (Exit.inBlock id Q) (.exit id') l w := fun a ha => by
  simpa [Exit.inBlock, Nat.ne_of_beq_eq_false hne] using h a ha
theorem Eq.end {id : Nat} (h : Eq N Q .normal l w) : Eq N (Exit.inBlock id Q) .normal l w := fun a ha => h a ha
theorem Eq.outRet {id : Nat} (h : Eq N Q .ret l w) : Eq N (Exit.inBlock id Q) .ret l w := fun a ha => h a ha

/-- What a loop's rounds hand on: its relation at a smaller measure. -/
def Round (N : Nat) (I : Nat → World → Slots → Prop) (n : Nat) (a : Act) (w : World) : Prop := ∃ m l, I m w l ∧ St N l a ∧ m < n

theorem Cq.loop {c : Code} (I : Nat → World → Slots → Prop) (n0 : Nat) (l0 : Slots) (h0 : I n0 w l0) (s0 : Sub l l0)
    (h : ∀ n w l, I n w l → Cq P N c (Exit.then (Round N I n) Q) l w) : Cq P N (.loop c) Q l w := by
  intro a ha
  let J : Act → World → Nat → Prop := fun a w n => ∃ l, I n w l ∧ St N l a
  classical
  have least : ∀ (p : Nat → Prop), (∃ n, p n) → ∃ n, p n ∧ ∀ k, p k → n ≤ k := by
    intro p ⟨n, hn⟩
    induction n using Nat.strongRecOn with
    | _ n ih =>
      by_cases hx : ∃ k, k < n ∧ p k
      · obtain ⟨k, hk, hpk⟩ := hx
        exact ih k hk hpk
      · exact ⟨n, hn, fun k hk => Nat.le_of_not_lt fun hlt => hx ⟨k, hlt, hk⟩⟩
  let μ : Act → World → Nat := fun a w => if h : ∃ n, J a w n then Classical.choose (least _ h) else 0
  have hμ : ∀ a w, (∃ n, J a w n) → J a w (μ a w) ∧ ∀ n, J a w n → μ a w ≤ n := by
    intro a w hx
    have hs := Classical.choose_spec (least _ hx)
    have e : μ a w = Classical.choose (least _ hx) := dif_pos hx
    rw [e]
    exact hs
  refine wp_loop (fun a w => ∃ n, J a w n) μ ⟨n0, l0, h0, ha.sub s0⟩ fun a w hx => ?_
  obtain ⟨l, hI, hl⟩ := (hμ a w hx).1
  refine wp_mono (h _ w l hI a hl) fun e a' w' hq => ?_
  cases e <;> try exact hq
  obtain ⟨m, l', hj, hl', hlt⟩ := hq
  refine ⟨⟨m, l', hj, hl'⟩, ?_⟩
  have := (hμ a' w' ⟨m, l', hj, hl'⟩).2 _ ⟨l', hj, hl'⟩
  omega

theorem Eq.round {I : Nat → World → Slots → Prop} {n : Nat} (m : Nat) (l' : Slots) (hI : I m w l') (hm : m < n) (s : Sub l l') :
    Eq N (Exit.then (Round N I n) Q) .normal l w := fun _ ha => ⟨m, l', hI, ha.sub s, hm⟩

/-- A cut: what a piece of code that runs to its end leaves. -/
def Left (N : Nat) (R : Slots → World → Prop) : Exit → Act → World → Prop
  | .normal, a, w => ∃ l, R l w ∧ St N l a
  | _, _, _ => False
theorem Cq.cut {c : Code} (R : Slots → World → Prop) (h : Cq P N c (Left N R) l w) (h' : ∀ l' w', R l' w' → Eq N Q .normal l' w') : Cq P N c Q l w := fun a ha =>
  wp_mono (h a ha) fun e a' w' hq => by
    cases e <;> try exact hq.elim
    obtain ⟨l', hR, hl'⟩ := hq
    exact h' l' w' hR a' hl'
theorem Eq.left {R : Slots → World → Prop} (l' : Slots) (h : R l' w) (s : Sub l l') : Eq N (Left N R) .normal l w := fun _ ha => ⟨l', h, ha.sub s⟩
end code

/-! ### Operations -/
section ops
variable {P : Program} {N : Nat} {ops : Array Oper} {Q : Exit → Act → World → Prop} {rest : List Oper} {l : Slots} {w : World}

theorem Sq.nil (h : Eq N Q .normal l w) : Sq P N ops Q [] l w := fun a ha => wpList_nil (h a ha)

/-- Is the operation carried out? -/
def On (ops : Array Oper) (l : Slots) : Option (Nat × Bool) → Prop
  | none => True
  | some (j, b) => ∃ o d, ops[j]? = some o ∧ o.dst = some d ∧ look l d = some (.bool b)
theorem On.plain : On ops l none := trivial
theorem On.met {j : Nat} {b : Bool} {o : Oper} {d : Nat} (ho : ops[j]? = some o) (hd : o.dst = some d) (hv : look l d = some (.bool b)) : On ops l (some (j, b)) := ⟨o, d, ho, hd, hv⟩

theorem On.wanted {a : Act} {o : Oper} (h : On ops l o.guard) (ha : St N l a) : Region.wanted o (yielded ops a.tmps) = true := by
  revert h
  cases hg : o.guard with
  | none => intro _; simp [Region.wanted, hg]
  | some g =>
    obtain ⟨j, b⟩ := g
    rintro ⟨o', d, ho, hd, hv⟩
    simp [Region.wanted, hg, yielded, ho, hd, ha.bool hv]

theorem Sq.off {o : Oper} {j d d' : Nat} {b : Bool} {o' : Oper} (hg : o.guard = some (j, b)) (ho : ops[j]? = some o') (hd : o'.dst = some d) (hv : look l d = some (.bool (!b)))
    (hd' : o.dst = some d') (hN : Nat.blt d' N = true) (h : Sq P N ops Q rest ((d', undef) :: l) w) : Sq P N ops Q (o :: rest) l w := by
  intro a ha
  refine wpList_skip (by simp [Region.wanted, hg, yielded, ho, hd, ha.bool hv]) ?_
  rw [hd']
  exact h _ (ha.put hN)

theorem St.undefd {N : Nat} {l : Slots} {a : Act} {t : Nat} (h : St N l a) (hv : look l t = some undef) (b : Bool) : a.tmps[t]? ≠ some (.bool b) := by
  have := h.slot _ _ hv
  intro hc
  rw [Array.getD_eq_getD_getElem?, hc] at this
  simp [undef] at this
theorem not_wanted {a : Act} {o o' : Oper} {j d : Nat} {b : Bool} (ha : St N l a) (hg : o.guard = some (j, b)) (ho : ops[j]? = some o') (hd : o'.dst = some d) (hv : look l d = some undef) : Region.wanted o (yielded ops a.tmps) = false := by
  simp only [Region.wanted, hg, yielded, ho, hd, Option.bind_some]
  have h1 := ha.undefd hv
  cases hx : a.tmps[d]? with
  | none => simp
  | some v =>
    cases v <;> simp
    rename_i c
    exact absurd hx (h1 c)
/-- The operation that its guard names was not carried out. -/
theorem Sq.offU {o : Oper} {j d d' : Nat} {b : Bool} {o' : Oper} (hg : o.guard = some (j, b)) (ho : ops[j]? = some o') (hd : o'.dst = some d) (hv : look l d = some undef)
    (hd' : o.dst = some d') (hN : Nat.blt d' N = true) (h : Sq P N ops Q rest ((d', undef) :: l) w) : Sq P N ops Q (o :: rest) l w := by
  intro a ha
  refine wpList_skip (by simp [not_wanted ha hg ho hd hv]) ?_
  rw [hd']
  exact h _ (ha.put hN)

/-- An operation that yields a value. -/
theorem Sq.val {o : Oper} {d : Nat} {v : Value} {w' : World} (hg : On ops l o.guard) (hd : o.dst = some d) (hN : Nat.blt d N = true)
    (hrun : ∀ a, St N l a → (execOp a.eval o).run P w = .ok (.value v) w') (h : Sq P N ops Q rest ((d, v) :: l) w') : Sq P N ops Q (o :: rest) l w := by
  intro a ha
  refine wpList_step fun K hK => ?_
  rw [if_pos (hg.wanted ha)]
  unfold Oper.wp
  rw [hrun a ha, Oper.upon_value, hd]
  exact hK _ _ (h _ (ha.put hN))

/-- The operation yields v and leaves the world as it is. -/
def Still (P : Program) (N : Nat) (l : Slots) (o : Oper) (v : Value) (w : World) : Prop := ∀ a, St N l a → (execOp a.eval o).run P w = .ok (.value v) w

/-- An operation that yields nothing. -/
theorem Sq.unit {o : Oper} {w' : World} (hg : On ops l o.guard) (hd : o.dst = none)
    (hrun : ∀ a, St N l a → (execOp a.eval o).run P w = .ok .skip w') (h : Sq P N ops Q rest l w') : Sq P N ops Q (o :: rest) l w := by
  intro a ha
  refine wpList_step fun K hK => ?_
  rw [if_pos (hg.wanted ha)]
  unfold Oper.wp
  rw [hrun a ha, Oper.upon_skip, hd]
  exact hK _ _ (h _ ha)

section
variable {d : Nat} {ty : TypeId} {pos : String} {after : Array Edge} {g : Option (Nat × Bool)}

theorem Still.move {x : Operand} {v : Value} (hx : ev l x = some v) : Still P N l ⟨some d, .move x, ty, pos, after, g⟩ (v) w := fun a ha => by simp [execOp, ha.ev hx]
theorem Sq.move {x : Operand} {v : Value} (hg : On ops l g) (hN : Nat.blt d N = true) (hx : ev l x = some v) (h : Sq P N ops Q rest ((d, v) :: l) w) : Sq P N ops Q (⟨some d, .move x, ty, pos, after, g⟩ :: rest) l w := .val hg rfl hN (Still.move hx) h
theorem Still.assign {x : Operand} {v : Value} (hx : ev l x = some v) : Still P N l ⟨some d, .assign x, ty, pos, after, g⟩ (v) w := fun a ha => by simp [execOp, ha.ev hx]
theorem Sq.assign {x : Operand} {v : Value} (hg : On ops l g) (hN : Nat.blt d N = true) (hx : ev l x = some v) (h : Sq P N ops Q rest ((d, v) :: l) w) : Sq P N ops Q (⟨some d, .assign x, ty, pos, after, g⟩ :: rest) l w := .val hg rfl hN (Still.assign hx) h
theorem Still.pickT {c x y : Operand} {v : Value} (hc : ev l c = some (.bool true)) (hx : ev l x = some v) : Still P N l ⟨some d, .pick c x y, ty, pos, after, g⟩ (v) w := fun a ha => by simp [execOp, asBool, ha.ev hc, ha.ev hx]
theorem Sq.pickT {c x y : Operand} {v : Value} (hg : On ops l g) (hN : Nat.blt d N = true) (hc : ev l c = some (.bool true)) (hx : ev l x = some v) (h : Sq P N ops Q rest ((d, v) :: l) w) : Sq P N ops Q (⟨some d, .pick c x y, ty, pos, after, g⟩ :: rest) l w := .val hg rfl hN (Still.pickT hc hx) h
theorem Still.pickF {c x y : Operand} {v : Value} (hc : ev l c = some (.bool false)) (hx : ev l y = some v) : Still P N l ⟨some d, .pick c x y, ty, pos, after, g⟩ (v) w := fun a ha => by simp [execOp, asBool, ha.ev hc, ha.ev hx]
theorem Sq.pickF {c x y : Operand} {v : Value} (hg : On ops l g) (hN : Nat.blt d N = true) (hc : ev l c = some (.bool false)) (hx : ev l y = some v) (h : Sq P N ops Q rest ((d, v) :: l) w) : Sq P N ops Q (⟨some d, .pick c x y, ty, pos, after, g⟩ :: rest) l w := .val hg rfl hN (Still.pickF hc hx) h
theorem Still.pick {c x y : Operand} {b : Bool} {u v : Value} (hc : ev l c = some (.bool b)) (hx : ev l x = some u) (hy : ev l y = some v) : Still P N l ⟨some d, .pick c x y, ty, pos, after, g⟩ (if b then u else v) w := fun a ha => by simp [execOp, asBool, ha.ev hc, ha.ev hx, ha.ev hy]
theorem Sq.pick {c x y : Operand} {b : Bool} {u v : Value} (hg : On ops l g) (hN : Nat.blt d N = true) (hc : ev l c = some (.bool b)) (hx : ev l x = some u) (hy : ev l y = some v) (h : Sq P N ops Q rest ((d, if b then u else v) :: l) w) : Sq P N ops Q (⟨some d, .pick c x y, ty, pos, after, g⟩ :: rest) l w := .val hg rfl hN (Still.pick hc hx hy) h

/-! integers -/
theorem Still.add {xt yt : TypeId} {x y : Operand} {m n : Int} (hx : ev l x = some (.int .i64 m)) (hy : ev l y = some (.int .i64 n)) (hb : -9223372036854775808 ≤ m + n ∧ m + n ≤ 9223372036854775807) : Still P N l ⟨some d, .binOp .add xt x y yt, ty, pos, after, g⟩ (.int .i64 (m + n)) w := fun a ha => by simp [execOp, eqGuard, binOp, Op.intArith, ha.ev hx, ha.ev hy, IntWalk.i64_in _ hb]
theorem Sq.add {xt yt : TypeId} {x y : Operand} {m n : Int} (hg : On ops l g) (hN : Nat.blt d N = true) (hx : ev l x = some (.int .i64 m)) (hy : ev l y = some (.int .i64 n)) (hb : -9223372036854775808 ≤ m + n ∧ m + n ≤ 9223372036854775807) (h : Sq P N ops Q rest ((d, .int .i64 (m + n)) :: l) w) : Sq P N ops Q (⟨some d, .binOp .add xt x y yt, ty, pos, after, g⟩ :: rest) l w := .val hg rfl hN (Still.add hx hy hb) h
theorem Still.sub {xt yt : TypeId} {x y : Operand} {m n : Int} (hx : ev l x = some (.int .i64 m)) (hy : ev l y = some (.int .i64 n)) (hb : -9223372036854775808 ≤ m - n ∧ m - n ≤ 9223372036854775807) : Still P N l ⟨some d, .binOp .sub xt x y yt, ty, pos, after, g⟩ (.int .i64 (m - n)) w := fun a ha => by simp [execOp, eqGuard, binOp, Op.intArith, ha.ev hx, ha.ev hy, IntWalk.i64_in _ hb]
theorem Sq.sub {xt yt : TypeId} {x y : Operand} {m n : Int} (hg : On ops l g) (hN : Nat.blt d N = true) (hx : ev l x = some (.int .i64 m)) (hy : ev l y = some (.int .i64 n)) (hb : -9223372036854775808 ≤ m - n ∧ m - n ≤ 9223372036854775807) (h : Sq P N ops Q rest ((d, .int .i64 (m - n)) :: l) w) : Sq P N ops Q (⟨some d, .binOp .sub xt x y yt, ty, pos, after, g⟩ :: rest) l w := .val hg rfl hN (Still.sub hx hy hb) h
theorem Still.mul {xt yt : TypeId} {x y : Operand} {m n : Int} (hx : ev l x = some (.int .i64 m)) (hy : ev l y = some (.int .i64 n)) (hb : -9223372036854775808 ≤ m * n ∧ m * n ≤ 9223372036854775807) : Still P N l ⟨some d, .binOp .mul xt x y yt, ty, pos, after, g⟩ (.int .i64 (m * n)) w := fun a ha => by simp [execOp, eqGuard, binOp, Op.intArith, ha.ev hx, ha.ev hy, IntWalk.i64_in _ hb]
theorem Sq.mul {xt yt : TypeId} {x y : Operand} {m n : Int} (hg : On ops l g) (hN : Nat.blt d N = true) (hx : ev l x = some (.int .i64 m)) (hy : ev l y = some (.int .i64 n)) (hb : -9223372036854775808 ≤ m * n ∧ m * n ≤ 9223372036854775807) (h : Sq P N ops Q rest ((d, .int .i64 (m * n)) :: l) w) : Sq P N ops Q (⟨some d, .binOp .mul xt x y yt, ty, pos, after, g⟩ :: rest) l w := .val hg rfl hN (Still.mul hx hy hb) h
theorem Still.quo {xt yt : TypeId} {x y : Operand} {m n : Int} (hx : ev l x = some (.int .i64 m)) (hy : ev l y = some (.int .i64 n)) (hb : 0 ≤ m ∧ m ≤ 9223372036854775807 ∧ 1 ≤ n) : Still P N l ⟨some d, .binOp .quo xt x y yt, ty, pos, after, g⟩ (.int .i64 (m / n)) w := fun a ha => by
    have hn : ¬ n = 0 := by omega
    simp [execOp, eqGuard, binOp, Op.intDiv, ha.ev hx, ha.ev hy, IntWalk.i64_quo _ _ hb, hn]
theorem Sq.quo {xt yt : TypeId} {x y : Operand} {m n : Int} (hg : On ops l g) (hN : Nat.blt d N = true) (hx : ev l x = some (.int .i64 m)) (hy : ev l y = some (.int .i64 n)) (hb : 0 ≤ m ∧ m ≤ 9223372036854775807 ∧ 1 ≤ n) (h : Sq P N ops Q rest ((d, .int .i64 (m / n)) :: l) w) : Sq P N ops Q (⟨some d, .binOp .quo xt x y yt, ty, pos, after, g⟩ :: rest) l w := .val hg rfl hN (Still.quo hx hy hb) h
theorem Still.rem {xt yt : TypeId} {x y : Operand} {m n : Int} (hx : ev l x = some (.int .i64 m)) (hy : ev l y = some (.int .i64 n)) (hb : 0 ≤ m ∧ 1 ≤ n) : Still P N l ⟨some d, .binOp .rem xt x y yt, ty, pos, after, g⟩ (.int .i64 (m % n)) w := fun a ha => by
    have hn : ¬ n = 0 := by omega
    simp [execOp, eqGuard, binOp, Op.intDiv, ha.ev hx, ha.ev hy, hn, Int.tmod_eq_emod_of_nonneg hb.1]
theorem Sq.rem {xt yt : TypeId} {x y : Operand} {m n : Int} (hg : On ops l g) (hN : Nat.blt d N = true) (hx : ev l x = some (.int .i64 m)) (hy : ev l y = some (.int .i64 n)) (hb : 0 ≤ m ∧ 1 ≤ n) (h : Sq P N ops Q rest ((d, .int .i64 (m % n)) :: l) w) : Sq P N ops Q (⟨some d, .binOp .rem xt x y yt, ty, pos, after, g⟩ :: rest) l w := .val hg rfl hN (Still.rem hx hy hb) h
theorem Still.neg {xt : TypeId} {x : Operand} {m : Int} (hx : ev l x = some (.int .i64 m)) (hb : -9223372036854775808 ≤ 0 - m ∧ 0 - m ≤ 9223372036854775807) : Still P N l ⟨some d, .unOp .neg xt x, ty, pos, after, g⟩ (.int .i64 (0 - m)) w := fun a ha => by
    have := IntWalk.i64_in _ hb
    simp only [Int.zero_sub] at *
    simp [execOp, Op.unary, Op.intArith, ha.ev hx, this]
theorem Sq.neg {xt : TypeId} {x : Operand} {m : Int} (hg : On ops l g) (hN : Nat.blt d N = true) (hx : ev l x = some (.int .i64 m)) (hb : -9223372036854775808 ≤ 0 - m ∧ 0 - m ≤ 9223372036854775807) (h : Sq P N ops Q rest ((d, .int .i64 (0 - m)) :: l) w) : Sq P N ops Q (⟨some d, .unOp .neg xt x, ty, pos, after, g⟩ :: rest) l w := .val hg rfl hN (Still.neg hx hb) h

/-! comparisons of integers: the value as a Bool; 'T', 'F': decided; '2': parted -/
theorem Still.cmp {op : BinOp} {xt yt : TypeId} {x y : Operand} {k : IntKind} {m n : Int} {b : Bool} (hop : (Op.intCmp op m n) = pure (.bool b)) (hnot : (op matches .shl | .shr | .add | .sub | .mul | .quo | .rem | .and | .or | .xor | .andNot) = false) (hx : ev l x = some (.int k m)) (hy : ev l y = some (.int k n)) : Still P N l ⟨some d, .binOp op xt x y yt, ty, pos, after, g⟩ (.bool b) w := fun a ha => by
    have e : binOp op xt (.int k m) (.int k n) = Op.intCmp op m n := by cases op <;> simp_all [binOp]
    have e2 : eqGuard op xt x y (.int k m) (.int k n) = pure () := by unfold eqGuard; split <;> rfl
    simp [execOp, ha.ev hx, ha.ev hy, e, e2, hop]
theorem Sq.cmp {op : BinOp} {xt yt : TypeId} {x y : Operand} {k : IntKind} {m n : Int} {b : Bool} (hop : (Op.intCmp op m n) = pure (.bool b)) (hnot : (op matches .shl | .shr | .add | .sub | .mul | .quo | .rem | .and | .or | .xor | .andNot) = false) (hg : On ops l g) (hN : Nat.blt d N = true) (hx : ev l x = some (.int k m)) (hy : ev l y = some (.int k n)) (h : Sq P N ops Q rest ((d, .bool b) :: l) w) : Sq P N ops Q (⟨some d, .binOp op xt x y yt, ty, pos, after, g⟩ :: rest) l w := .val hg rfl hN (Still.cmp hop hnot hx hy) h
theorem Still.lss {xt yt : TypeId} {x y : Operand} {k : IntKind} {m n : Int} (hx : ev l x = some (.int k m)) (hy : ev l y = some (.int k n)) : Still P N l ⟨some d, .binOp .lss xt x y yt, ty, pos, after, g⟩ (.bool (decide (m < n))) w := Still.cmp rfl rfl hx hy
theorem Sq.lss {xt yt : TypeId} {x y : Operand} {k : IntKind} {m n : Int} (hg : On ops l g) (hN : Nat.blt d N = true) (hx : ev l x = some (.int k m)) (hy : ev l y = some (.int k n)) (h : Sq P N ops Q rest ((d, .bool (decide (m < n))) :: l) w) : Sq P N ops Q (⟨some d, .binOp .lss xt x y yt, ty, pos, after, g⟩ :: rest) l w := .val hg rfl hN (Still.lss hx hy) h
theorem Still.leq {xt yt : TypeId} {x y : Operand} {k : IntKind} {m n : Int} (hx : ev l x = some (.int k m)) (hy : ev l y = some (.int k n)) : Still P N l ⟨some d, .binOp .leq xt x y yt, ty, pos, after, g⟩ (.bool (decide (m ≤ n))) w := Still.cmp rfl rfl hx hy
theorem Sq.leq {xt yt : TypeId} {x y : Operand} {k : IntKind} {m n : Int} (hg : On ops l g) (hN : Nat.blt d N = true) (hx : ev l x = some (.int k m)) (hy : ev l y = some (.int k n)) (h : Sq P N ops Q rest ((d, .bool (decide (m ≤ n))) :: l) w) : Sq P N ops Q (⟨some d, .binOp .leq xt x y yt, ty, pos, after, g⟩ :: rest) l w := .val hg rfl hN (Still.leq hx hy) h
theorem Still.gtr {xt yt : TypeId} {x y : Operand} {k : IntKind} {m n : Int} (hx : ev l x = some (.int k m)) (hy : ev l y = some (.int k n)) : Still P N l ⟨some d, .binOp .gtr xt x y yt, ty, pos, after, g⟩ (.bool (decide (n < m))) w := Still.cmp rfl rfl hx hy
theorem Sq.gtr {xt yt : TypeId} {x y : Operand} {k : IntKind} {m n : Int} (hg : On ops l g) (hN : Nat.blt d N = true) (hx : ev l x = some (.int k m)) (hy : ev l y = some (.int k n)) (h : Sq P N ops Q rest ((d, .bool (decide (n < m))) :: l) w) : Sq P N ops Q (⟨some d, .binOp .gtr xt x y yt, ty, pos, after, g⟩ :: rest) l w := .val hg rfl hN (Still.gtr hx hy) h
theorem Still.geq {xt yt : TypeId} {x y : Operand} {k : IntKind} {m n : Int} (hx : ev l x = some (.int k m)) (hy : ev l y = some (.int k n)) : Still P N l ⟨some d, .binOp .geq xt x y yt, ty, pos, after, g⟩ (.bool (decide (n ≤ m))) w := Still.cmp rfl rfl hx hy
theorem Sq.geq {xt yt : TypeId} {x y : Operand} {k : IntKind} {m n : Int} (hg : On ops l g) (hN : Nat.blt d N = true) (hx : ev l x = some (.int k m)) (hy : ev l y = some (.int k n)) (h : Sq P N ops Q rest ((d, .bool (decide (n ≤ m))) :: l) w) : Sq P N ops Q (⟨some d, .binOp .geq xt x y yt, ty, pos, after, g⟩ :: rest) l w := .val hg rfl hN (Still.geq hx hy) h
theorem Still.eql {xt yt : TypeId} {x y : Operand} {k : IntKind} {m n : Int} (hx : ev l x = some (.int k m)) (hy : ev l y = some (.int k n)) : Still P N l ⟨some d, .binOp .eql xt x y yt, ty, pos, after, g⟩ (.bool (decide (m = n))) w := Still.cmp (by show pure (Value.bool (m == n)) = _; rw [show (m == n) = decide (m = n) from rfl]) rfl hx hy
theorem Sq.eql {xt yt : TypeId} {x y : Operand} {k : IntKind} {m n : Int} (hg : On ops l g) (hN : Nat.blt d N = true) (hx : ev l x = some (.int k m)) (hy : ev l y = some (.int k n)) (h : Sq P N ops Q rest ((d, .bool (decide (m = n))) :: l) w) : Sq P N ops Q (⟨some d, .binOp .eql xt x y yt, ty, pos, after, g⟩ :: rest) l w := .val hg rfl hN (Still.eql hx hy) h
theorem Still.neq {xt yt : TypeId} {x y : Operand} {k : IntKind} {m n : Int} (hx : ev l x = some (.int k m)) (hy : ev l y = some (.int k n)) : Still P N l ⟨some d, .binOp .neq xt x y yt, ty, pos, after, g⟩ (.bool (decide (m ≠ n))) w := Still.cmp (by show pure (Value.bool (m != n)) = _; rw [show (m != n) = decide (m ≠ n) from by by_cases h : m = n <;> simp [h]]) rfl hx hy
theorem Sq.neq {xt yt : TypeId} {x y : Operand} {k : IntKind} {m n : Int} (hg : On ops l g) (hN : Nat.blt d N = true) (hx : ev l x = some (.int k m)) (hy : ev l y = some (.int k n)) (h : Sq P N ops Q rest ((d, .bool (decide (m ≠ n))) :: l) w) : Sq P N ops Q (⟨some d, .binOp .neq xt x y yt, ty, pos, after, g⟩ :: rest) l w := .val hg rfl hN (Still.neq hx hy) h

/-- The Bool that has just been written is decided. -/
theorem Sq.isT {p : Prop} [Decidable p] (hp : p) (h : Sq P N ops Q rest ((d, .bool true) :: l) w) : Sq P N ops Q rest ((d, .bool (decide p)) :: l) w := by rw [decide_eq_true hp]; exact h
theorem Sq.isF {p : Prop} [Decidable p] (hp : ¬ p) (h : Sq P N ops Q rest ((d, .bool false) :: l) w) : Sq P N ops Q rest ((d, .bool (decide p)) :: l) w := by rw [decide_eq_false hp]; exact h
theorem Sq.part {p : Prop} [Decidable p] (ht : p → Sq P N ops Q rest ((d, .bool true) :: l) w) (hf : ¬ p → Sq P N ops Q rest ((d, .bool false) :: l) w) : Sq P N ops Q rest ((d, .bool (decide p)) :: l) w := by
  by_cases hp : p
  · rw [decide_eq_true hp]; exact ht hp
  · rw [decide_eq_false hp]; exact hf hp
theorem Sq.partB {b : Bool} (ht : b = true → Sq P N ops Q rest ((d, .bool true) :: l) w) (hf : b = false → Sq P N ops Q rest ((d, .bool false) :: l) w) : Sq P N ops Q rest ((d, .bool b) :: l) w := by
  cases b
  · exact hf rfl
  · exact ht rfl
/-- The value that has just been written, in other words. -/
theorem Sq.beT {b : Bool} (e : b = true) (h : Sq P N ops Q rest ((d, .bool true) :: l) w) : Sq P N ops Q rest ((d, .bool b) :: l) w := by rw [e]; exact h
theorem Sq.beF {b : Bool} (e : b = false) (h : Sq P N ops Q rest ((d, .bool false) :: l) w) : Sq P N ops Q rest ((d, .bool b) :: l) w := by rw [e]; exact h
theorem Sq.be {v v' : Value} (e : v = v') (h : Sq P N ops Q rest ((d, v') :: l) w) : Sq P N ops Q rest ((d, v) :: l) w := by rw [e]; exact h

theorem Still.not {xt : TypeId} {x : Operand} {b : Bool} (hx : ev l x = some (.bool b)) : Still P N l ⟨some d, .unOp .not xt x, ty, pos, after, g⟩ (.bool (!b)) w := fun a ha => by simp [execOp, Op.unary, ha.ev hx]
theorem Sq.not {xt : TypeId} {x : Operand} {b : Bool} (hg : On ops l g) (hN : Nat.blt d N = true) (hx : ev l x = some (.bool b)) (h : Sq P N ops Q rest ((d, .bool (!b)) :: l) w) : Sq P N ops Q (⟨some d, .unOp .not xt x, ty, pos, after, g⟩ :: rest) l w := .val hg rfl hN (Still.not hx) h
theorem Still.notT {xt : TypeId} {x : Operand} (hx : ev l x = some (.bool true)) : Still P N l ⟨some d, .unOp .not xt x, ty, pos, after, g⟩ (.bool false) w := Still.not hx
theorem Sq.notT {xt : TypeId} {x : Operand} (hg : On ops l g) (hN : Nat.blt d N = true) (hx : ev l x = some (.bool true)) (h : Sq P N ops Q rest ((d, .bool false) :: l) w) : Sq P N ops Q (⟨some d, .unOp .not xt x, ty, pos, after, g⟩ :: rest) l w := .val hg rfl hN (Still.notT hx) h
theorem Still.notF {xt : TypeId} {x : Operand} (hx : ev l x = some (.bool false)) : Still P N l ⟨some d, .unOp .not xt x, ty, pos, after, g⟩ (.bool true) w := Still.not hx
theorem Sq.notF {xt : TypeId} {x : Operand} (hg : On ops l g) (hN : Nat.blt d N = true) (hx : ev l x = some (.bool false)) (h : Sq P N ops Q rest ((d, .bool true) :: l) w) : Sq P N ops Q (⟨some d, .unOp .not xt x, ty, pos, after, g⟩ :: rest) l w := .val hg rfl hN (Still.notF hx) h

/-- A call of a Go function. -/
def Ret (P : Program) (f : FuncId) (args : Array Value) (w : World) (R : Value → World → Prop) : Prop :=
  Calls P f args w fun e w' => ∃ v, e = .returned v ∧ R v w'

theorem Ret.mono {f : FuncId} {args : Array Value} {R R' : Value → World → Prop} (h : Ret P f args w R) (hr : ∀ v w', R v w' → R' v w') : Ret P f args w R' :=
  Calls.mono h fun _ _ ⟨v, he, hv⟩ => ⟨v, he, hr _ _ hv⟩

/-- What is known of a function that may be called. -/
structure Fn (P : Program) (f : FuncId) (fn : Func) : Prop where
  get : P.funcs[f]? = some fn
  body : fn.body.isNone = false
  name : (fn.name == "runtime.NumGoroutine") = false

theorem run_callFunc {f : FuncId} {fn : Func} (hf : Fn P f fn) (args : Array Value) : (callFunc f args).run P w = .ok (.enter f args) w := by
  have h1 := hf.name
  have h2 := hf.body
  have h3 : fn.body ≠ none := by intro h; rw [h] at h2; cases h2
  have h4 : ¬ fn.name = "runtime.NumGoroutine" := by simpa using h1
  simp [callFunc, hf.get, h3, h4]

def evs (l : Slots) : List Operand → Option (List Value)
  | [] => some []
  | x :: r => match ev l x, evs l r with
    | some v, some vs => some (v :: vs)
    | _, _ => none

theorem St.evs {a : Act} (ha : St N l a) : ∀ {xs : List Operand} {vs : List Value}, evs l xs = some vs → xs.map a.eval = vs := by
  intro xs
  induction xs with
  | nil => intro vs h; simp [Go.Proofs.Ytdkdpmmfebdeaaa.evs] at h; simp [h]
  | cons x r ih =>
    intro vs h
    simp only [Go.Proofs.Ytdkdpmmfebdeaaa.evs] at h
    cases h1 : Go.Proofs.Ytdkdpmmfebdeaaa.ev l x with
    | none => rw [h1] at h; simp at h
    | some v =>
      cases h2 : Go.Proofs.Ytdkdpmmfebdeaaa.evs l r with
      | none => rw [h1, h2] at h; simp at h
      | some vs' =>
        rw [h1, h2] at h
        simp at h
        subst h
        simp [ha.ev h1, ih h2]

theorem Sq.call {f : FuncId} {fn : Func} {xs : List Operand} {ats : Array TypeId} {vs : List Value} {R : Value → World → Prop} (hf : Fn P f fn) (hg : On ops l g) (hN : Nat.blt d N = true)
    (hx : evs l xs = some vs) (hc : Ret P f vs.toArray w R) (h : ∀ v w', R v w' → Sq P N ops Q rest ((d, v) :: l) w') :
    Sq P N ops Q (⟨some d, .call ⟨.value (.func f), xs.toArray, ats⟩, ty, pos, after, g⟩ :: rest) l w := by
  intro a ha
  refine wpList_step fun K hK => ?_
  rw [if_pos (hg.wanted ha)]
  unfold Oper.wp
  rw [execOp_call_go, run_callFunc hf, Oper.upon_enter]
  have hargs : (#[] ++ xs.toArray.map a.eval ++ #[]) = vs.toArray := by
    rw [List.map_toArray, ha.evs hx]; simp
  rw [hargs]
  refine Calls.mono hc fun e w' he => ?_
  obtain ⟨v, rfl, hv⟩ := he
  exact hK _ _ (h v w' hv _ (ha.put hN))

/-- The parts of a call's result. -/
theorem Still.extract {x : Operand} {i : Nat} {vs : Array Value} {v : Value} (hx : ev l x = some (.tuple vs)) (hv : vs[i]? = some v) : Still P N l ⟨some d, .extract x i, ty, pos, after, g⟩ (v) w := fun a ha => by simp [execOp, Instr.extract, ha.ev hx, hv]
theorem Sq.extract {x : Operand} {i : Nat} {vs : Array Value} {v : Value} (hg : On ops l g) (hN : Nat.blt d N = true) (hx : ev l x = some (.tuple vs)) (hv : vs[i]? = some v) (h : Sq P N ops Q rest ((d, v) :: l) w) : Sq P N ops Q (⟨some d, .extract x i, ty, pos, after, g⟩ :: rest) l w := .val hg rfl hN (Still.extract hx hv) h
end
end ops

/-- The whole of a function's body. -/
theorem Ret.of {P : Program} {f : FuncId} {fn : Func} {c : Code} {N : Nat} {args : List Value} {w : World} {R : Value → World → Prop} (hf : P.funcs[f]? = some fn) (hb : fn.body = some c) (hN : fn.ntmps = N) (hle : Nat.ble args.length N = true)
    (h : ∀ l, l = args.zipIdx.map (fun p => (p.2, p.1)) → Cq P N c (bodyPost P fn fun e w' => ∃ v, e = .returned v ∧ R v w') l w) : Ret P f args.toArray w R := by
  refine calls_of_wp hf hb (h _ rfl _ ⟨?_, rfl, ?_⟩)
  · have := Nat.le_of_ble_eq_true hle
    simp [hN]
    omega
  · intro t v hv
    have key : ∀ (xs : List Value) (k : Nat), look ((xs.zipIdx k).map (fun p => (p.2, p.1))) t = some v → k ≤ t ∧ xs[t - k]? = some v := by
      intro xs
      induction xs with
      | nil => intro k h; simp [look] at h
      | cons x r ih =>
        intro k h
        simp only [List.zipIdx_cons, List.map_cons, look] at h
        cases hb : Nat.beq k t with
        | true =>
          obtain rfl := Nat.eq_of_beq_eq_true hb
          rw [hb] at h
          simp at h
          simp [h]
        | false =>
          rw [hb] at h
          obtain ⟨h1, h2⟩ := ih (k + 1) h
          have : t - k = (t - (k + 1)) + 1 := by omega
          exact ⟨by omega, by rw [this]; simpa using h2⟩
    obtain ⟨_, h2⟩ := key args 0 hv
    have h3 : args[t]? = some v := by simpa using h2
    have h4 : t < args.length := by
      rcases Nat.lt_or_ge t args.length with h | h
      · exact h
      · simp [List.getElem?_eq_none h] at h3
    have h5 : args[t] = v := by rw [List.getElem?_eq_getElem h4] at h3; exact Option.some.inj h3
    simp [Array.getD_eq_getD_getElem?, Array.getElem?_append, h4, h5]

theorem Eq.ret1 {P : Program} {fn : Func} {N t : Nat} {l : Slots} {w : World} {v : Value} {R : Value → World → Prop} (hr : fn.results = #[.tmp t]) (hv : look l t = some v) (h : R v w) :
    Eq N (bodyPost P fn fun e w' => ∃ v, e = .returned v ∧ R v w') .ret l w := fun _ ha =>
  bodyPost_ret (results_tmp hr _ _ _) ha.defers ⟨v, by rw [ha.slot _ _ hv], h⟩
theorem Eq.ret2 {P : Program} {fn : Func} {N t u : Nat} {l : Slots} {w : World} {v v' : Value} {R : Value → World → Prop} (hr : fn.results = #[.tmp t, .tmp u]) (hv : look l t = some v) (hv' : look l u = some v') (h : R (.tuple #[v, v']) w) :
    Eq N (bodyPost P fn fun e w' => ∃ v, e = .returned v ∧ R v w') .ret l w := fun _ ha =>
  bodyPost_ret (results_tmp2 hr _ _ _) ha.defers ⟨_, by rw [ha.slot _ _ hv, ha.slot _ _ hv'], h⟩

end Go.Proofs.Ytdkdpmmfebdeaaa
