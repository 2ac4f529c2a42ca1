/-
  More laws for the calculus of slots: bits, conversions, strings, typed rows, literals, appends, results that lie in a cell. Nothing of any one program stands here.
-/
import Derived.Test.YtdkdpmmfebdeaaaMem
set_option linter.unusedSimpArgs false
set_option linter.unusedVariables false
namespace Go.Proofs.Ytdkdpmmfebdeaaa
open Go.RowKit

/-- Is number n in the set of small numbers s? -/
def hs (s n : Int) : Bool := decide (0 ≤ n) && s.toNat.testBit n.toNat

theorem hs_shift (s n : Int) (h0 : 0 ≤ s) (h1 : s ≤ 9223372036854775807) (hn : 0 ≤ n) : decide (s / 2 ^ (min n.toNat 64) % 2 = 1) = hs s n := by
  obtain ⟨m, rfl⟩ := Int.eq_ofNat_of_zero_le h0
  simp only [hs, decide_eq_true hn, Bool.true_and, Int.toNat_natCast, Nat.testBit_eq_decide_div_mod_eq]
  rw [decide_eq_decide]
  have e : ((m : Int) / 2 ^ (min n.toNat 64) % 2 = 1) ↔ m / 2 ^ (min n.toNat 64) % 2 = 1 := by
    constructor
    · intro h; exact_mod_cast h
    · intro h; exact_mod_cast h
  rw [e]
  rcases Nat.le_total n.toNat 64 with h | h
  · rw [Nat.min_eq_left h]
  · rw [Nat.min_eq_right h]
    have h64 : m < 2 ^ 64 := by omega
    have hp : 2 ^ 64 ≤ 2 ^ n.toNat := Nat.pow_le_pow_right (by omega) h
    rw [Nat.div_eq_of_lt h64, Nat.div_eq_of_lt (by omega)]

theorem shr_ok {s : Int} {k : Nat} (h : 0 ≤ s ∧ s ≤ 9223372036854775807) : 0 ≤ s / 2 ^ k ∧ s / 2 ^ k ≤ 9223372036854775807 := by
  have hp : (0 : Int) < 2 ^ k := Int.pow_pos (by decide)
  exact ⟨Int.ediv_nonneg h.1 (Int.le_of_lt hp), Int.le_trans (Int.ediv_le_self _ h.1) h.2⟩

section ops
variable {P : Program} {N : Nat} {ops : Array Oper} {Q : Exit → Act → World → Prop} {rest : List Oper} {l : Slots} {w : World}
variable {d : Nat} {ty : TypeId} {pos : String} {after : Array Edge} {g : Option (Nat × Bool)}

theorem Still.shr {xt yt : TypeId} {x y : Operand} {m n : Int} {k : IntKind} (hx : ev l x = some (.int .i64 m)) (hy : ev l y = some (.int k n)) (hb : 0 ≤ n) : Still P N l ⟨some d, .binOp .shr xt x y yt, ty, pos, after, g⟩ (.int .i64 (m / 2 ^ (min n.toNat 64))) w := fun a ha => by
    have h1 : ¬ n < 0 := by omega
    have h2 : m.fdiv (2 ^ (min n.toNat 64)) = m / 2 ^ (min n.toNat 64) := Int.fdiv_eq_ediv_of_nonneg m (by
      have : (0 : Int) < 2 ^ (min n.toNat 64) := Int.pow_pos (by decide)
      omega)
    have h3 : eqGuard .shr xt x y (.int .i64 m) (.int k n) = pure () := rfl
    have h4 : binOp .shr xt (.int .i64 m) (.int k n) = Op.shift .shr .i64 m k n := rfl
    simp only [execOp, ha.ev hx, ha.ev hy, h3, h4, Op.shift, if_neg h1, IntKind.bits]
    simp [h2]
theorem Sq.shr {xt yt : TypeId} {x y : Operand} {m n : Int} {k : IntKind} (hg : On ops l g) (hN : Nat.blt d N = true) (hx : ev l x = some (.int .i64 m)) (hy : ev l y = some (.int k n)) (hb : 0 ≤ n) (h : Sq P N ops Q rest ((d, .int .i64 (m / 2 ^ (min n.toNat 64))) :: l) w) : Sq P N ops Q (⟨some d, .binOp .shr xt x y yt, ty, pos, after, g⟩ :: rest) l w := .val hg rfl hN (Still.shr hx hy hb) h
theorem Still.shl {xt yt : TypeId} {x y : Operand} {m n : Int} {k : IntKind} (hx : ev l x = some (.int .i64 m)) (hy : ev l y = some (.int k n)) (hb : 0 ≤ m ∧ m ≤ 1 ∧ 0 ≤ n ∧ n ≤ 60) : Still P N l ⟨some d, .binOp .shl xt x y yt, ty, pos, after, g⟩ (.int .i64 (m * 2 ^ n.toNat)) w := fun a ha => by
    have h1 : ¬ n < 0 := by omega
    have h2 : min n.toNat 64 = n.toNat := by omega
    have h3 : (2 : Int) ^ n.toNat ≤ 2 ^ 60 := by exact_mod_cast Nat.pow_le_pow_right (by omega : 0 < 2) (by omega : n.toNat ≤ 60)
    have h4 : (0 : Int) < 2 ^ n.toNat := Int.pow_pos (by decide)
    have h5 : m = 0 ∨ m = 1 := by omega
    have h6 : IntKind.i64.wrap (m * 2 ^ n.toNat) = m * 2 ^ n.toNat := IntWalk.i64_in _ (by rcases h5 with rfl | rfl <;> omega)
    have h7 : eqGuard .shl xt x y (.int .i64 m) (.int k n) = pure () := rfl
    have h8 : binOp .shl xt (.int .i64 m) (.int k n) = Op.shift .shl .i64 m k n := rfl
    simp only [execOp, ha.ev hx, ha.ev hy, h7, h8, Op.shift, if_neg h1, IntKind.bits, h2]
    simp [h6]
theorem Sq.shl {xt yt : TypeId} {x y : Operand} {m n : Int} {k : IntKind} (hg : On ops l g) (hN : Nat.blt d N = true) (hx : ev l x = some (.int .i64 m)) (hy : ev l y = some (.int k n)) (hb : 0 ≤ m ∧ m ≤ 1 ∧ 0 ≤ n ∧ n ≤ 60) (h : Sq P N ops Q rest ((d, .int .i64 (m * 2 ^ n.toNat)) :: l) w) : Sq P N ops Q (⟨some d, .binOp .shl xt x y yt, ty, pos, after, g⟩ :: rest) l w := .val hg rfl hN (Still.shl hx hy hb) h

theorem bits_nat (f : ∀ k : Nat, BitVec k → BitVec k → BitVec k) (F : Nat → Nat → Nat) (hf : ∀ a b : Nat, a < 2 ^ 63 → b < 2 ^ 63 → (f 64 (BitVec.ofNat 64 a) (BitVec.ofNat 64 b)).toNat = F a b) (hF : ∀ a b : Nat, a < 2 ^ 63 → b < 2 ^ 63 → F a b < 2 ^ 63)
    (m n : Int) (h : 0 ≤ m ∧ m ≤ 9223372036854775807 ∧ 0 ≤ n ∧ n ≤ 9223372036854775807) :
    IntKind.i64.wrap ((f 64 (BitVec.ofInt 64 m) (BitVec.ofInt 64 n)).toNat : Int) = (F m.toNat n.toNat : Nat) := by
  obtain ⟨a, rfl⟩ := Int.eq_ofNat_of_zero_le h.1
  obtain ⟨b, rfl⟩ := Int.eq_ofNat_of_zero_le h.2.2.1
  have ha : a < 2 ^ 63 := by omega
  have hb : b < 2 ^ 63 := by omega
  rw [BitVec.ofInt_natCast, BitVec.ofInt_natCast, hf a b ha hb]
  have := hF a b ha hb
  rw [IntWalk.i64_in _ (by omega)]
  simp

theorem Still.and {xt yt : TypeId} {x y : Operand} {m n : Int} (hx : ev l x = some (.int .i64 m)) (hy : ev l y = some (.int .i64 n)) (hb : 0 ≤ m ∧ m ≤ 9223372036854775807 ∧ 0 ≤ n ∧ n ≤ 9223372036854775807) : Still P N l ⟨some d, .binOp .and xt x y yt, ty, pos, after, g⟩ (.int .i64 ((m.toNat &&& n.toNat : Nat) : Int)) w := fun a ha => by
    have := bits_nat (fun _ a b => a &&& b) (fun a b => a &&& b) (fun a b ha hb => by simp [Nat.mod_eq_of_lt (show a < 18446744073709551616 by omega), Nat.mod_eq_of_lt (show b < 18446744073709551616 by omega)])
      (fun a b ha hb => Nat.and_lt_two_pow _ hb) m n hb
    simp only [execOp, eqGuard, binOp, Op.intBits, ha.ev hx, ha.ev hy]
    simp
    exact this
theorem Sq.and {xt yt : TypeId} {x y : Operand} {m n : Int} (hg : On ops l g) (hN : Nat.blt d N = true) (hx : ev l x = some (.int .i64 m)) (hy : ev l y = some (.int .i64 n)) (hb : 0 ≤ m ∧ m ≤ 9223372036854775807 ∧ 0 ≤ n ∧ n ≤ 9223372036854775807) (h : Sq P N ops Q rest ((d, .int .i64 ((m.toNat &&& n.toNat : Nat) : Int)) :: l) w) : Sq P N ops Q (⟨some d, .binOp .and xt x y yt, ty, pos, after, g⟩ :: rest) l w := .val hg rfl hN (Still.and hx hy hb) h
/-- '&' of any two numbers: a number of which nothing is said. -/
def andW (m n : Int) : Int := IntKind.i64.wrap ((BitVec.ofInt 64 m &&& BitVec.ofInt 64 n).toNat : Int)
theorem Still.andW {xt yt : TypeId} {x y : Operand} {m n : Int} (hx : ev l x = some (.int .i64 m)) (hy : ev l y = some (.int .i64 n)) : Still P N l ⟨some d, .binOp .and xt x y yt, ty, pos, after, g⟩ (.int .i64 (andW m n)) w := fun a ha => by
    simp only [execOp, eqGuard, binOp, Op.intBits, ha.ev hx, ha.ev hy]
    simp
    rfl
theorem Sq.andW {xt yt : TypeId} {x y : Operand} {m n : Int} (hg : On ops l g) (hN : Nat.blt d N = true) (hx : ev l x = some (.int .i64 m)) (hy : ev l y = some (.int .i64 n)) (h : Sq P N ops Q rest ((d, .int .i64 (Go.Proofs.Ytdkdpmmfebdeaaa.andW m n)) :: l) w) : Sq P N ops Q (⟨some d, .binOp .and xt x y yt, ty, pos, after, g⟩ :: rest) l w := .val hg rfl hN (Still.andW hx hy) h
theorem Still.or {xt yt : TypeId} {x y : Operand} {m n : Int} (hx : ev l x = some (.int .i64 m)) (hy : ev l y = some (.int .i64 n)) (hb : 0 ≤ m ∧ m ≤ 9223372036854775807 ∧ 0 ≤ n ∧ n ≤ 9223372036854775807) : Still P N l ⟨some d, .binOp .or xt x y yt, ty, pos, after, g⟩ (.int .i64 ((m.toNat ||| n.toNat : Nat) : Int)) w := fun a ha => by
    have := bits_nat (fun _ a b => a ||| b) (fun a b => a ||| b) (fun a b ha hb => by simp [Nat.mod_eq_of_lt (show a < 18446744073709551616 by omega), Nat.mod_eq_of_lt (show b < 18446744073709551616 by omega)])
      (fun a b ha hb => Nat.or_lt_two_pow ha hb) m n hb
    simp only [execOp, eqGuard, binOp, Op.intBits, ha.ev hx, ha.ev hy]
    simp
    exact this
theorem Sq.or {xt yt : TypeId} {x y : Operand} {m n : Int} (hg : On ops l g) (hN : Nat.blt d N = true) (hx : ev l x = some (.int .i64 m)) (hy : ev l y = some (.int .i64 n)) (hb : 0 ≤ m ∧ m ≤ 9223372036854775807 ∧ 0 ≤ n ∧ n ≤ 9223372036854775807) (h : Sq P N ops Q rest ((d, .int .i64 ((m.toNat ||| n.toNat : Nat) : Int)) :: l) w) : Sq P N ops Q (⟨some d, .binOp .or xt x y yt, ty, pos, after, g⟩ :: rest) l w := .val hg rfl hN (Still.or hx hy hb) h
theorem Still.xor {xt yt : TypeId} {x y : Operand} {m n : Int} (hx : ev l x = some (.int .i64 m)) (hy : ev l y = some (.int .i64 n)) (hb : 0 ≤ m ∧ m ≤ 9223372036854775807 ∧ 0 ≤ n ∧ n ≤ 9223372036854775807) : Still P N l ⟨some d, .binOp .xor xt x y yt, ty, pos, after, g⟩ (.int .i64 ((m.toNat ^^^ n.toNat : Nat) : Int)) w := fun a ha => by
    have := bits_nat (fun _ a b => a ^^^ b) (fun a b => a ^^^ b) (fun a b ha hb => by simp [Nat.mod_eq_of_lt (show a < 18446744073709551616 by omega), Nat.mod_eq_of_lt (show b < 18446744073709551616 by omega)])
      (fun a b ha hb => Nat.xor_lt_two_pow ha hb) m n hb
    simp only [execOp, eqGuard, binOp, Op.intBits, ha.ev hx, ha.ev hy]
    simp
    exact this
theorem Sq.xor {xt yt : TypeId} {x y : Operand} {m n : Int} (hg : On ops l g) (hN : Nat.blt d N = true) (hx : ev l x = some (.int .i64 m)) (hy : ev l y = some (.int .i64 n)) (hb : 0 ≤ m ∧ m ≤ 9223372036854775807 ∧ 0 ≤ n ∧ n ≤ 9223372036854775807) (h : Sq P N ops Q rest ((d, .int .i64 ((m.toNat ^^^ n.toNat : Nat) : Int)) :: l) w) : Sq P N ops Q (⟨some d, .binOp .xor xt x y yt, ty, pos, after, g⟩ :: rest) l w := .val hg rfl hN (Still.xor hx hy hb) h
/-- '.. & 1' -/
theorem Sq.and1 {xt yt : TypeId} {x : Operand} {m : Int} (hg : On ops l g) (hN : Nat.blt d N = true) (hx : ev l x = some (.int .i64 m))
    (hb : 0 ≤ m ∧ m ≤ 9223372036854775807) (h : Sq P N ops Q rest ((d, .int .i64 (m % 2)) :: l) w) :
    Sq P N ops Q (⟨some d, .binOp .and xt x (.const (.int .i64 1)) yt, ty, pos, after, g⟩ :: rest) l w := by
  refine Sq.and hg hN hx (n := 1) rfl (by omega) ?_
  have e : ((m.toNat &&& (1 : Int).toNat : Nat) : Int) = m % 2 := by
    show ((m.toNat &&& 1 : Nat) : Int) = m % 2
    rw [Nat.and_one_is_mod]
    omega
  rw [e]
  exact h

/-- Conversions of integers. -/
def Cnv (P : Program) (s t : TypeId) (k : IntKind) : Prop := ∀ (j : IntKind) (n : Int) w, (convert s t (.int j n)).run P w = .ok (.int k (k.wrap n)) w
theorem Cnv.of {s t : TypeId} {k : IntKind} (hs : (P.underlying s).isSome = true) (hd : P.underlying t = some (.int k)) : Cnv P s t k := by
  intro j n w
  obtain ⟨d, hd'⟩ := Option.isSome_iff_exists.mp hs
  simp [convert, run_underlying hd', run_underlying hd, Conv.intToInt]
theorem Still.conv {s t : TypeId} {x : Operand} {j : IntKind} {n : Int} (hc : Cnv P s t .i64) (hx : ev l x = some (.int j n)) (hb : -9223372036854775808 ≤ n ∧ n ≤ 9223372036854775807) : Still P N l ⟨some d, .convert s t x, ty, pos, after, g⟩ (.int .i64 n) w := fun a ha => by simp [execOp, ha.ev hx, hc j n w, IntWalk.i64_in _ hb]
theorem Sq.conv {s t : TypeId} {x : Operand} {j : IntKind} {n : Int} (hc : Cnv P s t .i64) (hg : On ops l g) (hN : Nat.blt d N = true) (hx : ev l x = some (.int j n)) (hb : -9223372036854775808 ≤ n ∧ n ≤ 9223372036854775807) (h : Sq P N ops Q rest ((d, .int .i64 n) :: l) w) : Sq P N ops Q (⟨some d, .convert s t x, ty, pos, after, g⟩ :: rest) l w := .val hg rfl hN (Still.conv hc hx hb) h
theorem Still.convU {s t : TypeId} {x : Operand} {j : IntKind} {n : Int} (hc : Cnv P s t .u64) (hx : ev l x = some (.int j n)) (hb : 0 ≤ n ∧ n ≤ 18446744073709551615) : Still P N l ⟨some d, .convert s t x, ty, pos, after, g⟩ (.int .u64 n) w := fun a ha => by simp [execOp, ha.ev hx, hc j n w, IntWalk.u64_in _ hb]
theorem Sq.convU {s t : TypeId} {x : Operand} {j : IntKind} {n : Int} (hc : Cnv P s t .u64) (hg : On ops l g) (hN : Nat.blt d N = true) (hx : ev l x = some (.int j n)) (hb : 0 ≤ n ∧ n ≤ 18446744073709551615) (h : Sq P N ops Q rest ((d, .int .u64 n) :: l) w) : Sq P N ops Q (⟨some d, .convert s t x, ty, pos, after, g⟩ :: rest) l w := .val hg rfl hN (Still.convU hc hx hb) h
theorem Still.conv8 {s t : TypeId} {x : Operand} {j : IntKind} {n : Int} (hc : Cnv P s t .u8) (hx : ev l x = some (.int j n)) (hb : 0 ≤ n ∧ n ≤ 255) : Still P N l ⟨some d, .convert s t x, ty, pos, after, g⟩ (.int .u8 n) w := fun a ha => by simp [execOp, ha.ev hx, hc j n w, IntWalk.u8_in _ hb]
theorem Sq.conv8 {s t : TypeId} {x : Operand} {j : IntKind} {n : Int} (hc : Cnv P s t .u8) (hg : On ops l g) (hN : Nat.blt d N = true) (hx : ev l x = some (.int j n)) (hb : 0 ≤ n ∧ n ≤ 255) (h : Sq P N ops Q rest ((d, .int .u8 n) :: l) w) : Sq P N ops Q (⟨some d, .convert s t x, ty, pos, after, g⟩ :: rest) l w := .val hg rfl hN (Still.conv8 hc hx hb) h

/-! Bools and strings compared -/
theorem Still.eqlB {xt yt : TypeId} {x y : Operand} {b c : Bool} (ht : P.underlying xt = some .bool) (hx : ev l x = some (.bool b)) (hy : ev l y = some (.bool c)) : Still P N l ⟨some d, .binOp .eql xt x y yt, ty, pos, after, g⟩ (.bool (b == c)) w := fun a ha => by simp [execOp, ha.ev hx, ha.ev hy, eqGuard, binOp, run_equal_bool w xt b c ht]
theorem Sq.eqlB {xt yt : TypeId} {x y : Operand} {b c : Bool} (ht : P.underlying xt = some .bool) (hg : On ops l g) (hN : Nat.blt d N = true) (hx : ev l x = some (.bool b)) (hy : ev l y = some (.bool c)) (h : Sq P N ops Q rest ((d, .bool (b == c)) :: l) w) : Sq P N ops Q (⟨some d, .binOp .eql xt x y yt, ty, pos, after, g⟩ :: rest) l w := .val hg rfl hN (Still.eqlB ht hx hy) h
theorem Still.neqB {xt yt : TypeId} {x y : Operand} {b c : Bool} (ht : P.underlying xt = some .bool) (hx : ev l x = some (.bool b)) (hy : ev l y = some (.bool c)) : Still P N l ⟨some d, .binOp .neq xt x y yt, ty, pos, after, g⟩ (.bool (b != c)) w := fun a ha => by simp [execOp, ha.ev hx, ha.ev hy, eqGuard, binOp, run_equal_bool w xt b c ht, bne]
theorem Sq.neqB {xt yt : TypeId} {x y : Operand} {b c : Bool} (ht : P.underlying xt = some .bool) (hg : On ops l g) (hN : Nat.blt d N = true) (hx : ev l x = some (.bool b)) (hy : ev l y = some (.bool c)) (h : Sq P N ops Q rest ((d, .bool (b != c)) :: l) w) : Sq P N ops Q (⟨some d, .binOp .neq xt x y yt, ty, pos, after, g⟩ :: rest) l w := .val hg rfl hN (Still.neqB ht hx hy) h
theorem Still.eqlS {xt yt : TypeId} {x y : Operand} {s t : ByteArray} (hx : ev l x = some (.string s)) (hy : ev l y = some (.string t)) : Still P N l ⟨some d, .binOp .eql xt x y yt, ty, pos, after, g⟩ (.bool (decide (s.data.toList = t.data.toList))) w := fun a ha => by
    have e : (s.data.toList == t.data.toList) = decide (s.data.toList = t.data.toList) := by rw [Bool.eq_iff_iff]; simp
    simp only [execOp, ha.ev hx, ha.ev hy, eqGuard, binOp_string_eql, ByteArray.toList_eq, e]
    simp
theorem Sq.eqlS {xt yt : TypeId} {x y : Operand} {s t : ByteArray} (hg : On ops l g) (hN : Nat.blt d N = true) (hx : ev l x = some (.string s)) (hy : ev l y = some (.string t)) (h : Sq P N ops Q rest ((d, .bool (decide (s.data.toList = t.data.toList))) :: l) w) : Sq P N ops Q (⟨some d, .binOp .eql xt x y yt, ty, pos, after, g⟩ :: rest) l w := .val hg rfl hN (Still.eqlS hx hy) h
theorem Still.neqS {xt yt : TypeId} {x y : Operand} {s t : ByteArray} (hx : ev l x = some (.string s)) (hy : ev l y = some (.string t)) : Still P N l ⟨some d, .binOp .neq xt x y yt, ty, pos, after, g⟩ (.bool (decide (¬ s.data.toList = t.data.toList))) w := fun a ha => by
    have e : (!(s.data.toList == t.data.toList)) = decide (¬ s.data.toList = t.data.toList) := by rw [Bool.eq_iff_iff]; simp
    simp only [execOp, ha.ev hx, ha.ev hy, eqGuard, binOp_string_neq, ByteArray.toList_eq, e]
    simp
theorem Sq.neqS {xt yt : TypeId} {x y : Operand} {s t : ByteArray} (hg : On ops l g) (hN : Nat.blt d N = true) (hx : ev l x = some (.string s)) (hy : ev l y = some (.string t)) (h : Sq P N ops Q rest ((d, .bool (decide (¬ s.data.toList = t.data.toList))) :: l) w) : Sq P N ops Q (⟨some d, .binOp .neq xt x y yt, ty, pos, after, g⟩ :: rest) l w := .val hg rfl hN (Still.neqS hx hy) h
theorem Still.cat {xt yt : TypeId} {x y : Operand} {s t : ByteArray} (hx : ev l x = some (.string s)) (hy : ev l y = some (.string t)) (hb : s.size + t.size ≤ 9223372036854775807) : Still P N l ⟨some d, .binOp .add xt x y yt, ty, pos, after, g⟩ (.string (s ++ t)) w := fun a ha => by simp [execOp, ha.ev hx, ha.ev hy, eqGuard, binOp_string_add, run_string_add_sum (P := P) (w := w) s t hb]
theorem Sq.cat {xt yt : TypeId} {x y : Operand} {s t : ByteArray} (hg : On ops l g) (hN : Nat.blt d N = true) (hx : ev l x = some (.string s)) (hy : ev l y = some (.string t)) (hb : s.size + t.size ≤ 9223372036854775807) (h : Sq P N ops Q rest ((d, .string (s ++ t)) :: l) w) : Sq P N ops Q (⟨some d, .binOp .add xt x y yt, ty, pos, after, g⟩ :: rest) l w := .val hg rfl hN (Still.cat hx hy hb) h

/-- Struct type t has n fields of one cell each, at zero they hold zs. -/
def StT (P : Program) (t : TypeId) (n : Nat) (zs : List Value) : Prop := ∀ parts w, (Instr.build t parts).run P w =
  (match Instr.fill (((List.range n).map fun i => (i, 1)).toArray[·]?) zs.toArray parts.toList with
   | some cells => (pure (.agg cells) : Sem Value)
   | none => stuck "build: no such field, or a part of the wrong size").run P w

def fieldsOf (P : Program) (t : TypeId) : Array Field := match P.underlying t with | some (.struct fs) => fs | _ => #[]
theorem StT.of {t : TypeId} {n : Nat} {zs : List Value} (h1 : P.underlying t = some (.struct (fieldsOf P t))) (h2 : ∀ w, ((fieldsOf P t).mapM fun f => do pure (f.offset, ← sizeOf f.type) : Sem _).run P w = .ok ((List.range n).map fun i => (i, 1)).toArray w)
    (h3 : ∀ w, (zeroValue t).run P w = .ok (.agg zs.toArray) w) : StT P t n zs := by
  intro parts w
  simp only [Instr.build, Sem.run_bind, h3, Result.andThen, run_underlying h1, h2, Value.cells]
  generalize Instr.fill _ zs.toArray parts.toList = r
  cases r <;> rfl

theorem fill_ones (n : Nat) : ∀ (parts : List (Nat × Value)) (cs : List Value), cs.length = n → (∀ p ∈ parts, p.1 < n ∧ p.2.oneCell' = true) →
    Instr.fill (((List.range n).map fun i => (i, 1)).toArray[·]?) cs.toArray parts = some (parts.foldl (fun cs p => cs.set p.1 p.2) cs).toArray := by
  intro parts
  induction parts with
  | nil => intro cs _ _; simp [Instr.fill]
  | cons p r ih =>
    intro cs hn h
    obtain ⟨i, v⟩ := p
    obtain ⟨h1, h2⟩ := h _ (List.mem_cons_self ..)
    simp only at h1 h2
    have hv : v.cells = #[v] := by cases v <;> simp_all [Value.cells, Value.oneCell']
    have hp : (((List.range n).map fun i => (i, 1)).toArray[i]?) = some (i, 1) := by simp [h1]
    have hlt : ¬ cs.length < i + 1 := by omega
    have := ih (cs.set i v) (by simpa using hn) (fun p hp => h p (List.mem_cons_of_mem _ hp))
    simp only [Instr.fill, hp, hv]
    simpa [hlt] using this

/-- A struct out of its parts. -/
theorem Still.build {t : TypeId} {n : Nat} {zs : List Value} {parts : List (Nat × Operand)} {vs cs : List Value} (hs : StT P t n zs) (hz : zs.length = n) (hp : (parts.map (·.1)).all (Nat.blt · n) = true) (hx : (evs l (parts.map (·.2))) = some vs) (h1 : ∀ v ∈ vs, v.oneCell' = true) (hv : ((parts.map (·.1)).zip vs).foldl (fun cs p => cs.set p.1 p.2) zs = cs) : Still P N l ⟨some d, .build t parts.toArray, ty, pos, after, g⟩ (.agg cs.toArray) w := fun a ha => by
    have e : (parts.toArray.map fun (i, x) => (i, a.eval x)) = ((parts.map (·.1)).zip vs).toArray := by
      rw [← ha.evs hx]
      simp [List.zip_map', List.map_map]
    have hb : ∀ p ∈ (parts.map (·.1)).zip vs, p.1 < n ∧ p.2.oneCell' = true := by
      rintro ⟨i, v⟩ hm
      have hm1 := (List.of_mem_zip hm).1
      have hm2 := (List.of_mem_zip hm).2
      exact ⟨Nat.lt_of_lt_of_le (Nat.lt_succ_self _) (Nat.le_of_ble_eq_true (List.all_eq_true.1 hp _ hm1)), h1 _ hm2⟩
    have hf := fill_ones n ((parts.map (·.1)).zip vs) zs hz hb
    rw [hv] at hf
    have hr := hs ((parts.map (·.1)).zip vs).toArray w
    rw [List.toList_toArray, hf] at hr
    simp only [execOp]
    rw [e]
    simp [hr]
theorem Sq.build {t : TypeId} {n : Nat} {zs : List Value} {parts : List (Nat × Operand)} {vs cs : List Value} (hs : StT P t n zs) (hz : zs.length = n) (hp : (parts.map (·.1)).all (Nat.blt · n) = true) (hg : On ops l g) (hN : Nat.blt d N = true) (hx : (evs l (parts.map (·.2))) = some vs) (h1 : ∀ v ∈ vs, v.oneCell' = true) (hv : ((parts.map (·.1)).zip vs).foldl (fun cs p => cs.set p.1 p.2) zs = cs) (h : Sq P N ops Q rest ((d, .agg cs.toArray) :: l) w) : Sq P N ops Q (⟨some d, .build t parts.toArray, ty, pos, after, g⟩ :: rest) l w := .val hg rfl hN (Still.build hs hz hp hx h1 hv) h
end ops

/-! ### Typed rows -/
def Ints (w : World) (e : TypeId) (v : Value) (xs : List Int) : Prop := Row w e v (xs.map (Value.int .i64))
def Bools (w : World) (e : TypeId) (v : Value) (xs : List Bool) : Prop := Row w e v (xs.map Value.bool)
def Strs (w : World) (e : TypeId) (v : Value) (xs : List ByteArray) : Prop := Row w e v (xs.map Value.string)
def Bytes (w : World) (e : TypeId) (v : Value) (xs : List UInt8) : Prop := Row w e v (xs.map fun b => Value.int .u8 b.toNat)
def Rows (w : World) (e e' : TypeId) (v : Value) (xss : List (List Int)) : Prop :=
  ∃ rs, Row w e v rs ∧ rs.length = xss.length ∧ ∀ i r, rs[i]? = some r → Ints w e' r (xss.getD i [])

section
variable {w w' : World} {e e' : TypeId} {v : Value}
theorem Ints.ext {xs : List Int} (h : Ints w e v xs) (x : Ext w w') : Ints w' e v xs := Row.ext h x
theorem Bools.ext {xs : List Bool} (h : Bools w e v xs) (x : Ext w w') : Bools w' e v xs := Row.ext h x
theorem Strs.ext {xs : List ByteArray} (h : Strs w e v xs) (x : Ext w w') : Strs w' e v xs := Row.ext h x
theorem Bytes.ext {xs : List UInt8} (h : Bytes w e v xs) (x : Ext w w') : Bytes w' e v xs := Row.ext h x
theorem Rows.ext {xss : List (List Int)} (h : Rows w e e' v xss) (x : Ext w w') : Rows w' e e' v xss := by
  obtain ⟨rs, h1, h2, h3⟩ := h
  exact ⟨rs, h1.ext x, h2, fun i r hr => (h3 i r hr).ext x⟩
theorem Row.stored {vs : List Value} (h : Row w e v vs) {g : Nat} {t : TypeId} {cs : List Value} (hg : w.grownBy w' (some g)) (hb : Blk w g t cs) (hne : t ≠ e) : Row w' e v vs := h.grown hg hb hne
theorem Ints.stored {xs : List Int} (h : Ints w e v xs) {g : Nat} {t : TypeId} {cs : List Value} (hg : w.grownBy w' (some g)) (hb : Blk w g t cs) (hne : t ≠ e) : Ints w' e v xs := Row.grown h hg hb hne
theorem Bools.stored {xs : List Bool} (h : Bools w e v xs) {g : Nat} {t : TypeId} {cs : List Value} (hg : w.grownBy w' (some g)) (hb : Blk w g t cs) (hne : t ≠ e) : Bools w' e v xs := Row.grown h hg hb hne
theorem Strs.stored {xs : List ByteArray} (h : Strs w e v xs) {g : Nat} {t : TypeId} {cs : List Value} (hg : w.grownBy w' (some g)) (hb : Blk w g t cs) (hne : t ≠ e) : Strs w' e v xs := Row.grown h hg hb hne
theorem Bytes.stored {xs : List UInt8} (h : Bytes w e v xs) {g : Nat} {t : TypeId} {cs : List Value} (hg : w.grownBy w' (some g)) (hb : Blk w g t cs) (hne : t ≠ e) : Bytes w' e v xs := Row.grown h hg hb hne
theorem Rows.stored {xss : List (List Int)} (h : Rows w e e' v xss) {g : Nat} {t : TypeId} {cs : List Value} (hg : w.grownBy w' (some g)) (hb : Blk w g t cs) (hne : t ≠ e) (hne' : t ≠ e') : Rows w' e e' v xss := by
  obtain ⟨rs, h1, h2, h3⟩ := h
  exact ⟨rs, h1.grown hg hb hne, h2, fun i r hr => (h3 i r hr).stored hg hb hne'⟩
theorem Own.stored {B : Nat} {vs : List Value} (h : Own w B e v vs) {g : Nat} {t : TypeId} {cs : List Value} (hg : w.grownBy w' (some g)) (hb : Blk w g t cs) (hne : t ≠ e) : Own w' B e v vs := by
  rcases h.cases with ⟨rfl, rfl⟩ | ⟨g', cap, cs', rfl, hg', hb', h3, h4, h5, h6⟩
  · exact Own.nil _ _ _
  · exact Own.mk hg' (hb'.grown hg (fun x => hb.ne hb' hne (Option.some.inj x))) h3 h4 h5 h6
variable {B : Nat} {t : TypeId} {u : Value} {us : List Value}
theorem Ints.owned {xs : List Int} (h : Ints w e v xs) (ho : Own w B t u us) (hg : w.grownBy w' u.ownBlock) (hne : t ≠ e) : Ints w' e v xs := Row.owned h ho hg hne
theorem Bools.owned {xs : List Bool} (h : Bools w e v xs) (ho : Own w B t u us) (hg : w.grownBy w' u.ownBlock) (hne : t ≠ e) : Bools w' e v xs := Row.owned h ho hg hne
theorem Strs.owned {xs : List ByteArray} (h : Strs w e v xs) (ho : Own w B t u us) (hg : w.grownBy w' u.ownBlock) (hne : t ≠ e) : Strs w' e v xs := Row.owned h ho hg hne
theorem Bytes.owned {xs : List UInt8} (h : Bytes w e v xs) (ho : Own w B t u us) (hg : w.grownBy w' u.ownBlock) (hne : t ≠ e) : Bytes w' e v xs := Row.owned h ho hg hne
theorem Rows.owned {xss : List (List Int)} (h : Rows w e e' v xss) (ho : Own w B t u us) (hg : w.grownBy w' u.ownBlock) (hne : t ≠ e) (hne' : t ≠ e') : Rows w' e e' v xss := by
  obtain ⟨rs, h1, h2, h3⟩ := h
  exact ⟨rs, h1.owned ho hg hne, h2, fun i r hr => (h3 i r hr).owned ho hg hne'⟩
theorem Own.owned {B' : Nat} {vs : List Value} (h : Own w B' e v vs) (ho : Own w B t u us) (hg : w.grownBy w' u.ownBlock) (hne : t ≠ e) : Own w' B' e v vs := by
  rcases ho.cases with ⟨rfl, rfl⟩ | ⟨g, cap, cs, rfl, _, hb, _⟩
  · exact h.ext (Ext.of_grown hg)
  · exact h.stored hg hb hne
end

section ops
variable {P : Program} {N : Nat} {ops : Array Oper} {Q : Exit → Act → World → Prop} {rest : List Oper} {l : Slots} {w : World}
variable {d : Nat} {ty : TypeId} {pos : String} {after : Array Edge} {g : Option (Nat × Bool)}

theorem Sq.lenInts {t e : TypeId} {x : Operand} {v : Value} {xs : List Int} (hr : Ints w e v xs) (hg : On ops l g) (hN : Nat.blt d N = true) (ht : P.underlying t = some (.slice (P.elem t))) (hx : ev l x = some v)
    (h : Sq P N ops Q rest ((d, .int .i64 xs.length) :: l) w) : Sq P N ops Q (⟨some d, .call ⟨.builtin .len, #[x], #[t]⟩, ty, pos, after, g⟩ :: rest) l w := .lenRow hr hg hN ht hx (by simpa using h)
theorem Sq.lenBools {t e : TypeId} {x : Operand} {v : Value} {xs : List Bool} (hr : Bools w e v xs) (hg : On ops l g) (hN : Nat.blt d N = true) (ht : P.underlying t = some (.slice (P.elem t))) (hx : ev l x = some v)
    (h : Sq P N ops Q rest ((d, .int .i64 xs.length) :: l) w) : Sq P N ops Q (⟨some d, .call ⟨.builtin .len, #[x], #[t]⟩, ty, pos, after, g⟩ :: rest) l w := .lenRow hr hg hN ht hx (by simpa using h)
theorem Sq.lenStrs {t e : TypeId} {x : Operand} {v : Value} {xs : List ByteArray} (hr : Strs w e v xs) (hg : On ops l g) (hN : Nat.blt d N = true) (ht : P.underlying t = some (.slice (P.elem t))) (hx : ev l x = some v)
    (h : Sq P N ops Q rest ((d, .int .i64 xs.length) :: l) w) : Sq P N ops Q (⟨some d, .call ⟨.builtin .len, #[x], #[t]⟩, ty, pos, after, g⟩ :: rest) l w := .lenRow hr hg hN ht hx (by simpa using h)
theorem Sq.lenBytes {t e : TypeId} {x : Operand} {v : Value} {xs : List UInt8} (hr : Bytes w e v xs) (hg : On ops l g) (hN : Nat.blt d N = true) (ht : P.underlying t = some (.slice (P.elem t))) (hx : ev l x = some v)
    (h : Sq P N ops Q rest ((d, .int .i64 xs.length) :: l) w) : Sq P N ops Q (⟨some d, .call ⟨.builtin .len, #[x], #[t]⟩, ty, pos, after, g⟩ :: rest) l w := .lenRow hr hg hN ht hx (by simpa using h)
theorem Sq.lenRows {t e e' : TypeId} {x : Operand} {v : Value} {xs : List (List Int)} (hr : Rows w e e' v xs) (hg : On ops l g) (hN : Nat.blt d N = true) (ht : P.underlying t = some (.slice (P.elem t))) (hx : ev l x = some v)
    (h : Sq P N ops Q rest ((d, .int .i64 xs.length) :: l) w) : Sq P N ops Q (⟨some d, .call ⟨.builtin .len, #[x], #[t]⟩, ty, pos, after, g⟩ :: rest) l w := by
  obtain ⟨rs, h1, h2, _⟩ := hr
  exact .lenRow h1 hg hN ht hx (by rw [h2]; exact h)

section
variable {t e lt : TypeId} {z : Value} {x ix : Operand} {v : Value} {k : IntKind} {i : Int} {d2 : Nat} {ty2 : TypeId} {pos2 : String} {after2 : Array Edge} {g2 : Option (Nat × Bool)}
theorem Sq.idxInts {xs : List Int} (hs : SlT P t e z) (h1 : One P lt) (hr : Ints w e v xs) (hg : On ops l g) (hN : Nat.blt d N = true) (hN2 : Nat.blt d2 N = true) (hd : look l d = none) (hg2 : On ops l g2) (hx : ev l x = some v) (hix : ev l ix = some (.int k i)) (hi : 0 ≤ i)
    (hlt : i.toNat < xs.length) (h : Sq P N ops Q rest ((d2, .int .i64 (xs.getD i.toNat 0)) :: l) w) :
    Sq P N ops Q (⟨some d, .indexAddr t x ix, ty, pos, after, g⟩ :: ⟨some d2, .load lt (.tmp d), ty2, pos2, after2, g2⟩ :: rest) l w :=
  .idx hs h1 hr hg hN hN2 hd hg2 hx hix hi (by simp [hlt]) h
theorem Sq.idxBools {xs : List Bool} (hs : SlT P t e z) (h1 : One P lt) (hr : Bools w e v xs) (hg : On ops l g) (hN : Nat.blt d N = true) (hN2 : Nat.blt d2 N = true) (hd : look l d = none) (hg2 : On ops l g2) (hx : ev l x = some v) (hix : ev l ix = some (.int k i)) (hi : 0 ≤ i)
    (hlt : i.toNat < xs.length) (h : Sq P N ops Q rest ((d2, .bool (xs.getD i.toNat false)) :: l) w) :
    Sq P N ops Q (⟨some d, .indexAddr t x ix, ty, pos, after, g⟩ :: ⟨some d2, .load lt (.tmp d), ty2, pos2, after2, g2⟩ :: rest) l w :=
  .idx hs h1 hr hg hN hN2 hd hg2 hx hix hi (by simp [hlt]) h
theorem Sq.idxStrs {xs : List ByteArray} (hs : SlT P t e z) (h1 : One P lt) (hr : Strs w e v xs) (hg : On ops l g) (hN : Nat.blt d N = true) (hN2 : Nat.blt d2 N = true) (hd : look l d = none) (hg2 : On ops l g2) (hx : ev l x = some v) (hix : ev l ix = some (.int k i)) (hi : 0 ≤ i)
    (hlt : i.toNat < xs.length) (h : Sq P N ops Q rest ((d2, .string (xs.getD i.toNat ByteArray.empty)) :: l) w) :
    Sq P N ops Q (⟨some d, .indexAddr t x ix, ty, pos, after, g⟩ :: ⟨some d2, .load lt (.tmp d), ty2, pos2, after2, g2⟩ :: rest) l w :=
  .idx hs h1 hr hg hN hN2 hd hg2 hx hix hi (by simp [hlt]) h
theorem Sq.idxBytes {e0 : TypeId} {xs : List UInt8} (hs : SlT P t e0 z) (h1 : One P lt) (hr : Bytes w e v xs) (hg : On ops l g) (hN : Nat.blt d N = true) (hN2 : Nat.blt d2 N = true) (hd : look l d = none) (hg2 : On ops l g2) (hx : ev l x = some v) (hix : ev l ix = some (.int k i)) (hi : 0 ≤ i)
    (hlt : i.toNat < xs.length) (h : Sq P N ops Q rest ((d2, .int .u8 ((xs.getD i.toNat 0).toNat : Int)) :: l) w) :
    Sq P N ops Q (⟨some d, .indexAddr t x ix, ty, pos, after, g⟩ :: ⟨some d2, .load lt (.tmp d), ty2, pos2, after2, g2⟩ :: rest) l w :=
  .idx hs h1 hr hg hN hN2 hd hg2 hx hix hi (by simp [hlt]) h
theorem Sq.idxRows {e' : TypeId} {xss : List (List Int)} (hs : SlT P t e z) (h1 : One P lt) (hr : Rows w e e' v xss) (hg : On ops l g) (hN : Nat.blt d N = true) (hN2 : Nat.blt d2 N = true) (hd : look l d = none) (hg2 : On ops l g2) (hx : ev l x = some v) (hix : ev l ix = some (.int k i)) (hi : 0 ≤ i)
    (hlt : i.toNat < xss.length) (h : ∀ r, Ints w e' r (xss.getD i.toNat []) → Sq P N ops Q rest ((d2, r) :: l) w) :
    Sq P N ops Q (⟨some d, .indexAddr t x ix, ty, pos, after, g⟩ :: ⟨some d2, .load lt (.tmp d), ty2, pos2, after2, g2⟩ :: rest) l w := by
  obtain ⟨rs, r1, r2, r3⟩ := hr
  have hl : i.toNat < rs.length := by omega
  exact .idx hs h1 r1 hg hN hN2 hd hg2 hx hix hi (List.getElem?_eq_getElem hl) (h _ (r3 _ _ (List.getElem?_eq_getElem hl)))
end

/-- A slice literal. -/
theorem Sq.lit {t e : TypeId} {z : Value} {parts : List (Nat × Operand)} {vs : List Value} {n : Nat} (hs : SlT P t e z) (hp : parts.map (·.1) = List.range n) (hn : Nat.ble n 1000 = true) (hg : On ops l g) (hN : Nat.blt d N = true)
    (hx : evs l (parts.map (·.2)) = some vs) (h1 : ∀ v ∈ vs, v.oneCell' = true)
    (h : ∀ b w', Ext w w' → w.heap.size ≤ b → (∀ B, B ≤ w.heap.size → Own w' B e (.slice (some ⟨b, 0, none⟩) vs.length vs.length) vs) → Blk w' b e vs → Sq P N ops Q rest ((d, .slice (some ⟨b, 0, none⟩) vs.length vs.length) :: l) w') :
    Sq P N ops Q (⟨some d, .buildSlice t n parts.toArray, ty, pos, after, g⟩ :: rest) l w := by
  have hlen : vs.length = n := by
    have h2 : parts.length = n := by have := congrArg List.length hp; simpa using this
    have key : ∀ (xs : List Operand) (vs : List Value), evs l xs = some vs → vs.length = xs.length := by
      intro xs
      induction xs with
      | nil => intro vs h; simp [evs] at h; simp [← h]
      | cons x r ih =>
        intro vs h
        simp only [evs] at h
        cases h3 : ev l x with
        | none => rw [h3] at h; simp at h
        | some v =>
          cases h4 : evs l r with
          | none => rw [h3, h4] at h; simp at h
          | some vs' => rw [h3, h4] at h; simp at h; subst h; simp [ih _ h4]
    have := key _ _ hx
    simpa [h2] using this
  subst hlen
  obtain ⟨i, hi, hz, hsz, hby⟩ := hs.info
  have hn' := Nat.le_of_ble_eq_true hn
  refine .val (w' := w.alloc (.cells vs.toArray e)) hg rfl hN (fun a ha => ?_) (h _ _ (Ext.alloc _ _) (Nat.le_refl _) (fun B hB => Own.mk hB (Blk.new _ _ _) (Nat.le_refl _) (by unfold maxLen; omega) rfl (by simp)) (Blk.new _ _ _))
  have e1 : (parts.toArray.map fun (i, x) => (i, a.eval x)) = ((List.range vs.length).zip vs).toArray := by
    rw [← hp, ← ha.evs hx]
    simp [List.zip_map', List.map_map]
  have hfill : ∀ (vs : List Value) (k : Nat) (cs : Array Value), (∀ v ∈ vs, v.oneCell' = true) → k + vs.length ≤ cs.size →
      ∃ cs', Instr.fill (fun i => some (i * 1, 1)) cs ((List.range' k vs.length).zip vs) = some cs' ∧ cs'.toList = cs.toList.take k ++ vs ++ cs.toList.drop (k + vs.length) := by
    intro vs
    induction vs with
    | nil => intro k cs _ _; exact ⟨cs, by simp [Instr.fill], by simp⟩
    | cons v r ih =>
      intro k cs h1 hk
      simp only [List.length_cons] at hk
      have hv : v.cells = #[v] := by
        have := h1 v (List.mem_cons_self ..)
        cases v <;> simp_all [Value.cells, Value.oneCell']
      obtain ⟨cs', f1, f2⟩ := ih (k + 1) (cs.setIfInBounds k v) (fun u hu => h1 u (List.mem_cons_of_mem _ hu)) (by simp; omega)
      refine ⟨cs', ?_, ?_⟩
      · have : ¬ cs.size < k + 1 := by omega
        simp only [List.length_cons, List.range'_succ, List.zip_cons_cons, Instr.fill, hv]
        simpa [this] using f1
      · rw [f2]
        have hlt : k < cs.toList.length := by simp; omega
        have h3 : (cs.toList.set k v).take (k + 1) = cs.toList.take k ++ [v] := by
          rw [List.take_succ_eq_append_getElem (by simpa using hlt)]
          simp [List.take_set_of_le (Nat.le_refl k)]
        have h4 : (cs.toList.set k v).drop (k + 1 + r.length) = cs.toList.drop (k + (r.length + 1)) := by
          rw [List.drop_set_of_lt (by omega)]
          congr 1
          omega
        simp only [Array.toList_setIfInBounds, h3, h4, List.length_cons]
        simp
  have hzc : z.cells = #[z] := by
    have := hs.one
    cases z <;> simp_all [Value.cells, Value.oneCell']
  obtain ⟨cs', f1, f2⟩ := hfill vs 0 (Array.replicate vs.length z) h1 (by simp)
  have f3 : cs' = vs.toArray := by
    have : cs'.toList = vs := by rw [f2]; simp
    rw [← this]
  subst f3
  have hlim : ¬ 16777216 < vs.length := by omega
  have hrow : (Array.range vs.length).map (fun i => (#[z] : Array Value)[i % 1]!) = Array.replicate vs.length z := by
    apply Array.ext
    · simp
    · intro i h1 h2
      have : i % 1 = 0 := Nat.mod_one i
      simp [this]
  have hrow2 : (Array.range vs.length).map (fun i => ([z] : List Value)[i % 1]?.getD default) = Array.replicate vs.length z := by
    apply Array.ext
    · simp
    · intro i h1 h2
      have : i % 1 = 0 := Nat.mod_one i
      simp [this]
  simp only [execOp]
  rw [e1]
  rw [List.range_eq_range']
  simp only [Nat.mul_one] at f1
  by_cases h0 : vs.length = 0
  · obtain rfl : vs = [] := List.eq_nil_of_length_eq_zero h0
    have hr0 : Array.map (fun _ : Nat => (default : Value)) (Array.range 0) = #[] := by apply Array.ext <;> simp
    simp [Instr.buildSlice, run_underlying hs.und, hs.sizeOf, newRow, Instr.fill, hr0]
  · simp [Instr.buildSlice, run_underlying hs.und, hs.sizeOf, newRow, zeroValue, typeInfo, hi, hz, hzc, hlim, h0, hrow2, f1]

/-- 'append(s, x)': the literal of one, and the append. -/
theorem Sq.app1 {t e : TypeId} {z : Value} {s x : Operand} {v u : Value} {vs : List Value} {B d2 : Nat} {ty2 : TypeId} {pos2 : String} {after2 : Array Edge} {g2 : Option (Nat × Bool)}
    (hs : SlT P t e z) (ho : Own w B e v vs) (hB : B ≤ w.heap.size) (hlen : vs.length < 1073741824) (hg : On ops l g) (hN : Nat.blt d N = true) (hN2 : Nat.blt d2 N = true) (hg2 : g2 = none) (hsv : ev ((d, undef) :: l) s = some v) (hd : look l d = none) (hxv : ev l x = some u) (h1 : u.oneCell' = true)
    (h : ∀ v' w', Own w' B e v' (vs ++ [u]) → w.grownBy w' v.ownBlock → v' ≠ .slice none 0 0 → Sq P N ops Q rest ((d2, v') :: l) w') :
    Sq P N ops Q (⟨some d, .buildSlice t 1 #[(0, x)], ty, pos, after, g⟩ :: ⟨some d2, .call ⟨.builtin .append, #[s, .tmp d], #[t, t]⟩, ty2, pos2, after2, g2⟩ :: rest) l w := by
  subst hg2
  refine Sq.lit (parts := [(0, x)]) (vs := [u]) (n := 1) hs rfl rfl hg hN (by simp [evs, hxv]) (by simpa using h1) fun b w1 x1 hb1 hown1 hblk1 => ?_
  intro a ha
  obtain ⟨i, hi, hz, hsz, hby⟩ := hs.info
  have hzc : z.cells.size = 1 := by
    have := hs.one
    cases z <;> simp_all [Value.cells, Value.oneCell']
  have ho1 : Own w1 B e v vs := ho.ext x1
  have hev : a.eval s = v := by
    cases s with
    | tmp t' =>
      simp only [ev, look] at hsv
      cases hb : Nat.beq d t' with
      | true => rw [hb] at hsv; simp at hsv; subst hsv; rcases ho.cases with ⟨h, _⟩ | ⟨_, _, _, h, _⟩ <;> simp [undef] at h
      | false => exact ha.slot t' v (by simp only [look, hb]; rw [hb] at hsv; exact hsv)
    | const c => simpa [ev, Act.eval] using hsv
    | global c => simpa [ev, Act.eval] using hsv
    | func c => simpa [ev, Act.eval] using hsv
  have hx2 : a.eval (.tmp d) = .slice (some ⟨b, 0, none⟩) 1 1 := ha.slot d _ (by simp [look])
  refine wpList_append_own w1 (P := P) rfl s (.tmp d) t rfl B e i z 1 i.bytes hs.und hi hz hsz rfl hzc (by omega) v vs.length vs hev ho1 ⟨b, 0, none⟩ 1 1 [u] hx2 rfl ?_ (by simpa using h1)
    (by unfold maxLen; omega) ?_ (Nat.le_trans hB x1.size) fun v' w' r1 r2 r3 => ?_
  · intro j u' hj
    rw [addr_add, hblk1.cell]
    simpa using hj
  · have : (vs.length + 1) * i.bytes ≤ 1073741824 * 64 := Nat.mul_le_mul (by omega) hby
    omega
  · have hgr : w.grownBy w' v.ownBlock := grown_trans (x1.to_grown _) r2
    have ho' : Own w' B e v' (vs ++ [u]) := by unfold Own; simpa using r1
    have hnn : v' ≠ .slice none 0 0 := fun hc => by simpa using r3.1 hc
    refine h v' w' ho' hgr hnn _ ?_
    · refine ⟨by simp [Act.put, ha.size], ha.defers, fun t u' hu => ?_⟩
      have hst : St N l a := ⟨ha.size, ha.defers, fun t' v'' hv'' => ha.slot t' v'' (by
        have : Nat.beq d t' = false := by
          cases hb : Nat.beq d t' with
          | false => rfl
          | true => obtain rfl := Nat.eq_of_beq_eq_true hb; rw [hd] at hv''; cases hv''
        simp [look, this, hv''])⟩
      exact (hst.put hN2).slot t u' hu
end ops

theorem Eq.retCell {P : Program} {fn : Func} {N t b n : Nat} {ty u : TypeId} {l : Slots} {w : World} {cs : List Value} {R : Value → World → Prop} (hr : fn.results = #[.cell t ty]) (hv : look l t = some (.pointer (some ⟨b, 0, none⟩))) (h1 : Agg P ty n) (hb : Blk w b u cs) (hn : cs.length = n) (h : R (.agg cs.toArray) w) :
    Eq N (bodyPost P fn fun e w' => ∃ v, e = .returned v ∧ R v w') .ret l w := fun a ha => by
  have hl : (loadCells ⟨b, 0, none⟩ n).run P w = .ok cs.toArray w := by
    rw [← hn]
    refine run_loadCells_list _ _ _ fun j v hv => ?_
    rw [addr_add, hb.cell]
    simpa using hv
  have hs := ha.slot _ _ hv
  refine bodyPost_ret (v := .agg cs.toArray) ?_ ha.defers ⟨_, rfl, h⟩
  simp only [results, hr]
  simp only [Array.getD_eq_getD_getElem?] at hs
  simp [hs, asAddr, loadVar, h1.agg, h1.size, hl]
theorem Eq.retCell2 {P : Program} {fn : Func} {N t t' b n : Nat} {ty u : TypeId} {l : Slots} {w : World} {cs : List Value} {v' : Value} {R : Value → World → Prop} (hr : fn.results = #[.cell t ty, .tmp t']) (hv : look l t = some (.pointer (some ⟨b, 0, none⟩))) (h1 : Agg P ty n) (hb : Blk w b u cs) (hn : cs.length = n) (hv' : look l t' = some v') (h : R (.tuple #[.agg cs.toArray, v']) w) :
    Eq N (bodyPost P fn fun e w' => ∃ v, e = .returned v ∧ R v w') .ret l w := fun a ha => by
  have hl : (loadCells ⟨b, 0, none⟩ n).run P w = .ok cs.toArray w := by
    rw [← hn]
    refine run_loadCells_list _ _ _ fun j v hv => ?_
    rw [addr_add, hb.cell]
    simpa using hv
  have hs := ha.slot _ _ hv
  have hs' := ha.slot _ _ hv'
  refine bodyPost_ret (v := .tuple #[.agg cs.toArray, v']) ?_ ha.defers ⟨_, rfl, h⟩
  simp only [results, hr]
  simp only [Array.getD_eq_getD_getElem?] at hs hs'
  simp [hs, hs', asAddr, loadVar, h1.agg, h1.size, hl]
theorem Eq.ret0 {P : Program} {fn : Func} {N : Nat} {l : Slots} {w : World} {R : Value → World → Prop} (hr : fn.results = #[]) (h : R (.tuple #[]) w) :
    Eq N (bodyPost P fn fun e w' => ∃ v, e = .returned v ∧ R v w') .ret l w := fun _ ha => bodyPost_ret (results_none hr _ _ _) ha.defers ⟨_, rfl, h⟩
theorem Eq.fall0 {P : Program} {fn : Func} {N : Nat} {l : Slots} {w : World} {R : Value → World → Prop} (hr : fn.results = #[]) (h : R (.tuple #[]) w) :
    Eq N (bodyPost P fn fun e w' => ∃ v, e = .returned v ∧ R v w') .normal l w := fun _ ha => bodyPost_end (results_none hr _ _ _) ha.defers ⟨_, rfl, h⟩

end Go.Proofs.Ytdkdpmmfebdeaaa
