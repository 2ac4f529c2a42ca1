/-
  Laws for strings that are cut and made of bytes, and for bytes that are subtracted. Nothing of any one program stands here.
-/
import Derived.Test.YtdkdpmmfebdeaaaOwn
import Derived.Laws.IdiomStrings
import Derived.Laws.DeepStrings4
import Derived.Laws.BytesArg
set_option linter.unusedSimpArgs false
set_option linter.unusedVariables false
namespace Go.Proofs.Ytdkdpmmfebdeaaa
open Go.RowKit

section
variable {P : Program} {N : Nat} {ops : Array Oper} {Q : Exit → Act → World → Prop} {rest : List Oper} {l : Slots} {w : World}
variable {d : Nat} {ty : TypeId} {pos : String} {after : Array Edge} {g : Option (Nat × Bool)}

theorem Still.sub8 {xt yt : TypeId} {x y : Operand} {m n : Int} (hx : ev l x = some (.int .u8 m)) (hy : ev l y = some (.int .u8 n)) (hb : 0 ≤ m - n ∧ m - n ≤ 255) : Still P N l ⟨some d, .binOp .sub xt x y yt, ty, pos, after, g⟩ (.int .u8 (m - n)) w := fun a ha => by
  have h6 : IntKind.u8.wrap (m - n) = m - n := by
    simp [IntKind.wrap, IntKind.bits, IntKind.signed]
    omega
  have h7 : eqGuard .sub xt x y (.int .u8 m) (.int .u8 n) = pure () := rfl
  have h8 : binOp .sub xt (.int .u8 m) (.int .u8 n) = pure (.int .u8 (IntKind.u8.wrap (m - n))) := rfl
  simp only [execOp, ha.ev hx, ha.ev hy, h7, h8, h6]
  simp
theorem Sq.sub8 {xt yt : TypeId} {x y : Operand} {m n : Int} (hg : On ops l g) (hN : Nat.blt d N = true) (hx : ev l x = some (.int .u8 m)) (hy : ev l y = some (.int .u8 n)) (hb : 0 ≤ m - n ∧ m - n ≤ 255) (h : Sq P N ops Q rest ((d, .int .u8 (m - n)) :: l) w) : Sq P N ops Q (⟨some d, .binOp .sub xt x y yt, ty, pos, after, g⟩ :: rest) l w := .val hg rfl hN (Still.sub8 hx hy hb) h

/-- 's[lo:hi]', 's[lo:]', 's[:hi]' of a string. -/
theorem Still.cutLH {t : TypeId} {x lo hi : Operand} {s : ByteArray} {m n : Int} (ht : P.underlying t = some .string) (hx : ev l x = some (.string s)) (hlo : ev l lo = some (.int .i64 m)) (hhi : ev l hi = some (.int .i64 n)) (hb : 0 ≤ m ∧ m ≤ n ∧ n ≤ (s.size : Int)) : Still P N l ⟨some d, .slice t x (some lo) (some hi) none, ty, pos, after, g⟩ (.string (s.extract m.toNat n.toNat)) w := fun a ha => by
  have h1 := run_sliceAt_string (P := P) w t (.string s) (some (.int .i64 m)) (some (.int .i64 n)) none ht
  have h2 := run_slice_string_if (P := P) w t s .i64 .i64 m n ht
  have h3 : 0 ≤ n ∧ n ≤ (s.size : Int) := by omega
  have h4 : 0 ≤ m ∧ m ≤ n := by omega
  rw [if_pos h3, if_pos h4] at h2
  simp [execOp, ha.ev hx, ha.ev hlo, ha.ev hhi, h1, h2]
theorem Still.cutL {t : TypeId} {x lo : Operand} {s : ByteArray} {m : Int} (ht : P.underlying t = some .string) (hx : ev l x = some (.string s)) (hlo : ev l lo = some (.int .i64 m)) (hb : 0 ≤ m ∧ m ≤ (s.size : Int)) : Still P N l ⟨some d, .slice t x (some lo) none none, ty, pos, after, g⟩ (.string (s.extract m.toNat s.size)) w := fun a ha => by
  have h1 := run_sliceAt_string (P := P) w t (.string s) (some (.int .i64 m)) none none ht
  have h2 := run_slice_string_l (P := P) w t s ht .i64 m hb.1 hb.2
  simp [execOp, ha.ev hx, ha.ev hlo, h1, h2]
theorem Still.cutH {t : TypeId} {x hi : Operand} {s : ByteArray} {n : Int} (ht : P.underlying t = some .string) (hx : ev l x = some (.string s)) (hhi : ev l hi = some (.int .i64 n)) (hb : 0 ≤ n ∧ n ≤ (s.size : Int)) : Still P N l ⟨some d, .slice t x none (some hi) none, ty, pos, after, g⟩ (.string (s.extract 0 n.toNat)) w := fun a ha => by
  have h1 := run_sliceAt_string (P := P) w t (.string s) none (some (.int .i64 n)) none ht
  have h2 := run_slice_string_h (P := P) w t s ht .i64 n hb.1 hb.2
  simp [execOp, ha.ev hx, ha.ev hhi, h1, h2]

/-- 'string(bytes)' of bytes that lie there. -/
theorem Still.text {s t e e' : TypeId} {x : Operand} {v : Value} {xs : List UInt8} (hs : P.underlying s = some (.slice e)) (he : P.underlying e = some (.int .u8)) (hd : P.underlying t = some .string) (hr : Row w e' v (xs.map fun b => Value.int .u8 (b.toNat : Int))) (hx : ev l x = some v) :
    Still P N l ⟨some d, .convert s t x, ty, pos, after, g⟩ (.string ⟨xs.toArray⟩) w := fun a ha => by
  rcases hr with ⟨h0, p, c, rfl, hpc⟩ | ⟨b, o, c, cur, fr, rfl, hb, hc⟩
  · obtain rfl : xs = [] := by simpa using h0
    cases p with
    | none =>
      have h1 := run_convert_bytes_string (P := P) w s t e none 0 c hs he hd
      simp [execOp, ha.ev hx, h1, Conv.bytesToString]
      rfl
    | some p =>
      have h1 := run_convert_bytes_back (P := P) w s t e p c [] hs he hd (by simp)
      simp only [List.length_nil] at h1
      simp [execOp, ha.ev hx, h1]
  · have h1 := run_convert_bytes_back (P := P) w s t e ⟨b, o, none⟩ c xs hs he hd (fun j hj => by
      rw [addr_add]
      have := hc j (.int .u8 (xs[j].toNat : Int)) (by simp [hj])
      simp [World.cell?, hb, this])
    have hx' := ha.ev hx
    rw [List.length_map] at hx'
    simp [execOp, hx', h1]
theorem u8_of {n : Int} (h : 0 ≤ n ∧ n ≤ 255) : ((UInt8.ofNat n.toNat).toNat : Int) = n := by
  rw [UInt8.toNat_ofNat']
  omega
theorem Still.text1 {s t e e' : TypeId} {x : Operand} {v : Value} {B : Nat} {n : Int} (hs : P.underlying s = some (.slice e)) (he : P.underlying e = some (.int .u8)) (hd : P.underlying t = some .string) (hr : Own w B e' v [Value.int .u8 n]) (hn : 0 ≤ n ∧ n ≤ 255) (hx : ev l x = some v) :
    Still P N l ⟨some d, .convert s t x, ty, pos, after, g⟩ (.string ⟨#[UInt8.ofNat n.toNat]⟩) w :=
  Still.text (xs := [UInt8.ofNat n.toNat]) hs he hd (by
    have := hr.row
    rw [List.map_cons, u8_of hn]
    exact this) hx
end

theorem str_at {s : ByteArray} {k : Nat} (h : k < s.size) : s.data.toList[k]? = some (s.data.toList.getD k 0) := by
  have : k < s.data.toList.length := by simpa using h
  rw [List.getD_eq_getElem?_getD, List.getElem?_eq_getElem this]
  rfl
theorem size_cat (s t : ByteArray) : (s ++ t).size = s.size + t.size := by simp
theorem size_cut (s : ByteArray) {m n : Nat} : (s.extract m n).size ≤ s.size := by simp; omega
theorem pow_step {n d : Int} {k : Nat} (h : 0 ≤ n ∧ n < 10 ^ k) (hd : 0 ≤ d ∧ d ≤ 9) : 0 ≤ n * 10 + d ∧ n * 10 + d < 10 ^ (k + 1) := by
  rw [Int.pow_succ]
  generalize (10 : Int) ^ k = q at *
  omega
theorem pow_small {k : Nat} (h : k ≤ 17) : (10 : Int) ^ k ≤ 100000000000000000 := by
  have h1 : (10 : Nat) ^ k ≤ 10 ^ 17 := Nat.pow_le_pow_right (by decide) h
  have h2 : (((10 : Nat) ^ k : Nat) : Int) ≤ ((10 ^ 17 : Nat) : Int) := Int.ofNat_le.2 h1
  rw [Int.natCast_pow] at h2
  exact h2
end Go.Proofs.Ytdkdpmmfebdeaaa
