/-
  Plain mathematics of runs: one letter more, complements, safety parts, extensions. No program in sight.
-/
import Derived.Test.YtdkdpmmfebdeaaaWord
set_option linter.unusedSimpArgs false
set_option linter.unusedVariables false
namespace Go.Proofs.Ytdkdpmmfebdeaaa

theorem lts_cat (s t : ByteArray) : lts (s ++ t) = lts s ++ lts t := by
  unfold lts
  rw [ByteArray.data_append, Array.toList_append, List.map_append]
theorem lts_chr {x : Int} (h : 0 ≤ x ∧ x < 6) : lts (chr x) = [x] := by
  obtain ⟨m, rfl⟩ := Int.eq_ofNat_of_zero_le h.1
  have : ∀ m : Fin 6, lts (chr (m.val : Int)) = [(m.val : Int)] := by decide
  exact this ⟨m, by omega⟩
theorem lts_cut (s : ByteArray) (k : Nat) : lts (s.extract 0 k) = (lts s).take k := by
  unfold lts
  rw [ByteArray.data_extract, Array.toList_extract, List.map_take]
  simp [List.extract]
theorem within_cut {s : ByteArray} {al : Int} (h : within s al = true) (k : Nat) : within (s.extract 0 k) al = true := by
  obtain ⟨h1, h2, h3⟩ := within_spec.1 h
  refine within_spec.2 ⟨h1, Nat.le_trans (size_cut s) h2, fun x hx => ?_⟩
  rw [lts_cut] at hx
  exact h3 x (List.mem_of_mem_take hx)
def run (a : A) (q : Int) (w : List Int) : Int := w.foldl (goA a) q
theorem run_cat (a : A) (q : Int) (v w : List Int) : run a q (v ++ w) = run a (run a q v) w := List.foldl_append
theorem runTo_run (a : A) (q : Int) (s : ByteArray) (k : Nat) : runTo a q s k = run a q ((lts s).take k) := rfl
theorem runTo_all (a : A) (q : Int) (s : ByteArray) : runTo a q s s.size = run a q (lts s) := by rw [runTo_run, List.take_of_length_le (by rw [lts_length]; exact Nat.le_refl _)]
theorem after_run {a : A} {s : ByteArray} (h : validA a = true) (hw : within s a.al = true) : after a s = run a 0 (lts s) := by rw [after_good h hw rfl, runTo_all]
theorem after_spec {a : A} {s : ByteArray} (h : 0 ≤ after a s) : validA a = true ∧ within s a.al = true := by
  rcases Classical.em (validA a = true ∧ within s a.al = true) with hc | hc
  · exact hc
  · rw [after_bad hc] at h; omega
theorem word_in {s : ByteArray} {al : Int} (h : within s al = true) : ∀ x ∈ lts s, 0 ≤ x ∧ x < 6 := fun x hx => hs_small (within_spec.1 h).1 ((within_spec.1 h).2.2 x hx)
theorem run_stay {a : A} (hv : validA a = true) {w : List Int} (hw : ∀ x ∈ w, 0 ≤ x ∧ x < 6) {q : Int} (hq : 0 ≤ q ∧ q < a.next.length) : 0 ≤ run a q w ∧ run a q w < a.next.length := foldl_in hv w q hw hq
theorem zero_in {a : A} (hv : validA a = true) : 0 ≤ (0 : Int) ∧ (0 : Int) < a.next.length := by have := (validA_spec.1 hv).2.1; omega
theorem after_ge {a : A} {s : ByteArray} (h : validA a = true) (hw : within s a.al = true) : 0 ≤ after a s ∧ after a s < a.next.length := by
  rw [after_run h hw]; exact run_stay h (word_in hw) (zero_in h)
theorem accepts_run {a : A} {s : ByteArray} (h : validA a = true) (hw : within s a.al = true) : accepts a s = a.acc.getD (run a 0 (lts s)).toNat false := by
  rw [accepts_T (after_ge h hw).1, after_run h hw]
theorem accepts_spec {a : A} {s : ByteArray} (h : accepts a s = true) : validA a = true ∧ within s a.al = true := by
  unfold accepts at h
  simp only [Bool.and_eq_true, decide_eq_true_eq] at h
  exact after_spec h.1

/-! one letter more -/
theorem after_chr_no {a : A} {s : ByteArray} {x : Int} (hx : 0 ≤ x ∧ x < 6) (h : hs a.al x = false) : after a (s ++ chr x) = -1 := by
  apply after_bad
  rintro ⟨_, h2⟩
  have := (within_spec.1 h2).2.2 x (by rw [lts_cat, lts_chr hx]; simp)
  rw [h] at this; cases this
theorem after_chr {a : A} {s : ByteArray} {x : Int} (hx : 0 ≤ x ∧ x < 6) (h : hs a.al x = true) (h0 : 0 ≤ after a s) (hz : s.size < 50000) : after a (s ++ chr x) = (a.next.getD (after a s).toNat []).getD (place a.al x) 0 := by
  obtain ⟨hv, hw⟩ := after_spec h0
  have hw2 : within (s ++ chr x) a.al = true := by
    obtain ⟨h1, h2, h3⟩ := within_spec.1 hw
    refine within_spec.2 ⟨h1, by rw [size_cat, chr_size]; omega, fun y hy => ?_⟩
    rw [lts_cat, lts_chr hx] at hy
    rcases List.mem_append.1 hy with hy | hy
    · exact h3 y hy
    · rw [List.mem_singleton.1 hy]; exact h
  rw [after_run hv hw2, lts_cat, lts_chr hx, run_cat, ← after_run hv hw]
  exact goA_yes h
theorem within_nil {al : Int} (h : 0 ≤ al ∧ al ≤ 63) : within ⟨#[]⟩ al = true := within_spec.2 ⟨h, by decide, fun x hx => by cases hx⟩
theorem after_nil {a : A} (hv : validA a = true) : after a ⟨#[]⟩ = 0 := by rw [after_run hv (within_nil (validA_spec.1 hv).1)]; rfl

/-! complements -/
theorem run_compl (a : A) (q : Int) (w : List Int) : run (compl a) q w = run a q w := rfl
theorem after_compl (a : A) (s : ByteArray) : after (compl a) s = after a s := by
  unfold after
  rw [compl_valid]
  rfl
theorem acc_compl {a : A} {k : Nat} (h : k < a.acc.length) : (compl a).acc.getD k false = !a.acc.getD k false := by simp [compl, h]
theorem accepts_compl {a : A} {s : ByteArray} (hv : validA a = true) (hw : within s a.al = true) : accepts (compl a) s = !accepts a s := by
  have h := after_ge hv hw
  have h2 := (validA_spec.1 hv).2.2.1
  rw [accepts_T (by rw [after_compl]; exact h.1), accepts_T h.1, after_compl, acc_compl (by omega)]
theorem compl_compl (a : A) : compl (compl a) = a := by
  obtain ⟨al, nx, ac⟩ := a
  simp only [compl, List.map_map, A.mk.injEq, true_and]
  exact (List.map_congr_left fun b _ => Bool.not_not b).trans (List.map_id' _)

/-! safety parts -/
theorem run_safe {a : A} (hv : validA a = true) : ∀ (w : List Int) (q : Int), (∀ x ∈ w, 0 ≤ x ∧ x < 6) → 0 ≤ q ∧ q < a.next.length →
    (a.acc.getD (run (safe a) q w).toNat false = true ↔ ∀ k ≤ w.length, a.acc.getD (run a q (w.take k)).toNat false = true)
  | [], q, _, _ => by simp [run]
  | x :: w, q, h, hq => by
    have hx := h x (by simp)
    have hg := goA_in hv hq hx
    have e1 : run (safe a) q (x :: w) = run (safe a) (goA (safe a) q x) w := rfl
    have e2 : ∀ k, run a q ((x :: w).take (k + 1)) = run a (goA a q x) (w.take k) := fun k => rfl
    rw [e1, goA_safe hv hq hx]
    cases hac : a.acc.getD q.toNat false with
    | true =>
      rw [if_pos rfl, run_safe hv w _ (fun y hy => h y (by simp [hy])) hg]
      constructor
      · intro hk k hl
        cases k with
        | zero => exact hac
        | succ k => rw [e2]; exact hk k (by simpa using hl)
      · intro hk k hl
        have := hk (k + 1) (by simpa using hl)
        rwa [e2] at this
    | false =>
      rw [if_neg (by simp), run_safe hv w _ (fun y hy => h y (by simp [hy])) hq]
      constructor
      · intro hk
        have := hk 0 (Nat.zero_le _)
        exact absurd (this.symm.trans hac) (by simp)
      · intro hk
        have := hk 0 (Nat.zero_le _)
        exact absurd (this.symm.trans hac) (by simp)
def accTo (a : A) (s : ByteArray) (k : Nat) : Bool := (List.range k).all fun j => accepts a (s.extract 0 j)
theorem accTo_succ (a : A) (s : ByteArray) (k : Nat) : accTo a s (k + 1) = (accTo a s k && accepts a (s.extract 0 k)) := by simp [accTo, List.range_succ]
theorem accepts_safe {a : A} {s : ByteArray} (hv : validA a = true) (hw : within s a.al = true) : accepts (safe a) s = accTo a s (s.size + 1) := by
  rw [accepts_run (safe_valid hv) hw, Bool.eq_iff_iff]
  refine (run_safe hv (lts s) 0 (word_in hw) (zero_in hv)).trans ?_
  unfold accTo
  rw [List.all_eq_true]
  constructor
  · intro h j hj
    rw [accepts_run hv (within_cut hw j), lts_cut]
    exact h j (by rw [lts_length]; have := List.mem_range.1 hj; omega)
  · intro h k hk
    rw [lts_length] at hk
    have := h k (List.mem_range.2 (by omega))
    rwa [accepts_run hv (within_cut hw k), lts_cut] at this
theorem safe_first {a : A} {s : ByteArray} (h : accepts (safe a) s = true) (hv : validA a = true) : a.acc.getD 0 false = true := by
  obtain ⟨_, hw⟩ := accepts_spec h
  rw [accepts_run (safe_valid hv) hw] at h
  exact (run_safe hv (lts s) 0 (word_in hw) (zero_in hv)).1 h 0 (Nat.zero_le _)
theorem safe_meet {a : A} {s : ByteArray} (hv : validA a = true) (h : accepts (safe a) s = true) : accepts (safe (compl a)) s = false := by
  have h1 := safe_first h hv
  have h2 := validA_spec.1 hv
  cases hb : accepts (safe (compl a)) s with
  | false => rfl
  | true =>
    have := safe_first hb (compl_valid' hv)
    rw [acc_compl (by omega), h1] at this
    cases this
theorem sum_start (a : A) (hn : 1 ≤ a.next.length) : ∀ q, sumTo a (start a) (q + 1) = if a.acc.getD 0 false then 1 else 0
  | 0 => by
    have : (start a).getD 0 0 = 1 := getD_set_self (by simp; omega)
    rw [sumTo_succ, this]; simp [sumTo]
  | q + 1 => by
    have : (start a).getD (q + 1) 0 = 0 := by
      unfold start
      rw [List.getD_eq_getElem?_getD, List.getElem?_set_ne (by omega)]
      rcases Nat.lt_or_ge (q + 1) a.next.length with h | h
      · simp [h]
      · rw [List.getElem?_eq_none (by simpa using h)]; rfl
    rw [sumTo_succ, sum_start a hn q, this]
    split <;> simp
theorem count_nil {a : A} (hv : validA a = true) : count a 0 = if a.acc.getD 0 false then 1 else 0 := by
  have h2 := (validA_spec.1 hv).2.1
  unfold count
  rw [if_pos ⟨hv, by decide, by decide⟩, Int.toNat_zero, cnt, show a.next.length = (a.next.length - 1) + 1 by omega]
  exact sum_start a h2.1 _
theorem count_meet {a : A} (hv : validA a = true) : (decide (count (safe a) 0 = 1) != decide (count (safe (compl a)) 0 = 1)) = true := by
  have h2 := validA_spec.1 hv
  have e1 : (safe a).acc.getD 0 false = a.acc.getD 0 false := rfl
  have e2 : (safe (compl a)).acc.getD 0 false = !a.acc.getD 0 false := acc_compl (by omega)
  rw [count_nil (safe_valid hv), count_nil (safe_valid (compl_valid' hv)), e1, e2]
  cases a.acc.getD 0 false <;> decide

/-! extensions -/
def restr (s : ByteArray) (al : Int) : ByteArray := ⟨(s.data.toList.filter fun b => hs al ((b.toNat : Int) - 97)).toArray⟩
theorem lts_restr (s : ByteArray) (al : Int) : lts (restr s al) = (lts s).filter (hs al) := by
  unfold lts restr
  rw [List.filter_map]
  rfl
theorem restr_within {s : ByteArray} {al b : Int} (h : within s b = true) (hal : 0 ≤ al ∧ al ≤ 63) : within (restr s al) al = true := by
  refine within_spec.2 ⟨hal, ?_, fun x hx => ?_⟩
  · rw [← lts_length, lts_restr]
    have := List.length_filter_le (hs al) (lts s)
    rw [lts_length] at this
    exact Nat.le_trans this (within_spec.1 h).2.1
  · rw [lts_restr] at hx
    exact (List.mem_filter.1 hx).2
theorem run_ext {a : A} {k : Int} (hv : validA a = true) (hk : 0 ≤ k ∧ k ≤ 63) : ∀ (w : List Int) (q : Int), (∀ x ∈ w, 0 ≤ x ∧ x < 6) → 0 ≤ q ∧ q < a.next.length → run (extend a k) q w = run a q (w.filter (hs a.al))
  | [], q, _, _ => rfl
  | x :: w, q, h, hq => by
    have hx := h x (by simp)
    have hg := goA_in hv hq hx
    have e1 : run (extend a k) q (x :: w) = run (extend a k) (goA (extend a k) q x) w := rfl
    rw [e1, goA_ext hv hk hq hx, run_ext hv hk w _ (fun y hy => h y (by simp [hy])) hg]
    cases hh : hs a.al x with
    | true => rw [List.filter_cons_of_pos hh]; rfl
    | false => rw [List.filter_cons_of_neg (by simp [hh]), goA_no hh]
theorem after_ext {a : A} {k : Int} {s : ByteArray} (hv : validA a = true) (hk : 0 ≤ k ∧ k ≤ 63) (hw : within s (orI a.al k) = true) : after (extend a k) s = after a (restr s a.al) := by
  rw [after_run (extend_valid hv hk) hw, after_run hv (restr_within hw (validA_spec.1 hv).1), lts_restr]
  exact run_ext hv hk _ 0 (word_in hw) (zero_in hv)
theorem accepts_ext {a : A} {k : Int} {s : ByteArray} (hv : validA a = true) (hk : 0 ≤ k ∧ k ≤ 63) (hw : within s (orI a.al k) = true) : accepts (extend a k) s = accepts a (restr s a.al) := by
  have : (extend a k).acc = a.acc := rfl
  unfold accepts
  rw [after_ext hv hk hw, this]
theorem accepts_out {a : A} {s : ByteArray} (hw : within s a.al = false) : accepts a s = false := by
  cases h : accepts a s with
  | false => rfl
  | true => exact absurd (hw.symm.trans (accepts_spec h).2) (by decide)
theorem restr_size (s : ByteArray) (al : Int) : (restr s al).size ≤ s.size := by
  rw [← lts_length, lts_restr, ← lts_length s]
  exact List.length_filter_le _ _

/-! doubling a text -/
theorem many_step {o s K : Nat} {n : Int} (h : o + s * n.toNat ≤ K) (hn : 0 < n) : s ≤ K ∧ o + s ≤ K ∧ (n % 2 = 1 → (o + s) + (s + s) * (n / 2).toNat ≤ K) ∧ (n % 2 ≠ 1 → o + (s + s) * (n / 2).toNat ≤ K) := by
  obtain ⟨k, rfl⟩ := Int.eq_ofNat_of_zero_le (Int.le_of_lt hn)
  rw [Int.toNat_natCast] at h
  have h1 : s ≤ s * k := Nat.le_mul_of_pos_right s (by omega)
  refine ⟨by omega, by omega, fun h2 => ?_, fun h2 => ?_⟩
  · obtain ⟨m, rfl⟩ : ∃ m, k = 2 * m + 1 := ⟨k / 2, by omega⟩
    have e : (((2 * m + 1 : Nat) : Int) / 2).toNat = m := by omega
    rw [e]
    have : s * (2 * m + 1) = (s + s) * m + s := by rw [Nat.mul_succ, ← Nat.mul_assoc, Nat.mul_two]
    omega
  · obtain ⟨m, rfl⟩ : ∃ m, k = 2 * m := ⟨k / 2, by omega⟩
    have e : (((2 * m : Nat) : Int) / 2).toNat = m := by omega
    rw [e]
    have : s * (2 * m) = (s + s) * m := by rw [← Nat.mul_assoc, Nat.mul_two]
    omega
theorem Own.snocU {w : World} {B : Nat} {e : TypeId} {v : Value} {ys : List UInt8} {y : UInt8} (h : Own w B e v (ys.map (fun b => Value.int .u8 (b.toNat : Int)) ++ [Value.int .u8 (y.toNat : Int)])) : Own w B e v ((ys ++ [y]).map fun b => Value.int .u8 (b.toNat : Int)) := by simpa using h
def restrTo (s : ByteArray) (al : Int) (k : Nat) : List UInt8 := (s.data.toList.take k).filter fun b => hs al ((b.toNat : Int) - 97)
theorem restrTo_length (s : ByteArray) (al : Int) (k : Nat) : (restrTo s al k).length ≤ k := by
  have h1 := List.length_filter_le (fun b : UInt8 => hs al ((b.toNat : Int) - 97)) (s.data.toList.take k)
  have h2 := List.length_take_le k s.data.toList
  exact Nat.le_trans h1 h2
theorem restrTo_T {s : ByteArray} {al : Int} {k : Nat} (h : k < s.size) (hh : hs al ((lts s).getD k 0) = true) : restrTo s al (k + 1) = restrTo s al k ++ [s.data.toList.getD k 0] := by
  rw [lts_at h] at hh
  unfold restrTo
  rw [take_snoc 0 (show k < s.data.toList.length from h), List.filter_append, List.filter_cons_of_pos (p := fun b : UInt8 => hs al ((b.toNat : Int) - 97)) hh]
  rfl
theorem restrTo_F {s : ByteArray} {al : Int} {k : Nat} (h : k < s.size) (hh : hs al ((lts s).getD k 0) = false) : restrTo s al (k + 1) = restrTo s al k := by
  rw [lts_at h] at hh
  unfold restrTo
  rw [take_snoc 0 (show k < s.data.toList.length from h), List.filter_append, List.filter_cons_of_neg (p := fun b : UInt8 => hs al ((b.toNat : Int) - 97)) (by rw [hh]; decide)]
  simp
theorem restrTo_done {s : ByteArray} {al : Int} {k : Nat} (h : s.size ≤ k) : (⟨(restrTo s al k).toArray⟩ : ByteArray) = restr s al := by
  unfold restrTo restr
  rw [List.take_of_length_le (show s.data.toList.length ≤ k from h)]
def restrictW (s : ByteArray) (al : Int) : ByteArray := if within s 63 = true ∧ 0 ≤ al ∧ al ≤ 63 then restr s al else ⟨#[]⟩
theorem within_all {s : ByteArray} {al : Int} (h : within s al = true) : within s 63 = true := within_spec.2 ⟨by decide, (within_spec.1 h).2.1, fun x hx => by rw [hs63]; exact decide_eq_true (word_in h x hx)⟩
theorem restrictW_good {s : ByteArray} {al : Int} (h : within s 63 = true) (hal : 0 ≤ al ∧ al ≤ 63) : restrictW s al = restr s al := if_pos ⟨h, hal⟩
theorem restrictW_size (s : ByteArray) (al : Int) : (restrictW s al).size ≤ s.size := by
  unfold restrictW
  split
  · exact restr_size s al
  · exact Nat.zero_le _
theorem within_neg {a : A} {s : ByteArray} (hv : validA a = true) (h : after a s < 0) : within s a.al = false := by
  cases hw : within s a.al with
  | false => rfl
  | true => have := after_ge hv hw; omega
theorem lw_at {xs : List Int} (h : ∀ x ∈ xs, 0 ≤ x ∧ x < 6) {k : Nat} (hk : k < xs.length) : 0 ≤ xs.getD k 0 ∧ xs.getD k 0 ≤ 100 := by
  have := h _ (getD_mem (d := 0) hk)
  omega
theorem of_size {xs : List ByteArray} {n : Nat} (h : xs.all (fun x => Nat.ble x.size n) = true) {x : ByteArray} (hx : x ∈ xs) : x.size ≤ n := all_size h x hx
section
variable {P : Program} {N : Nat} {ops : Array Oper} {Q : Exit → Act → World → Prop} {S : World → Prop} {k fuel : Nat} {listed : Array Bool} {l : Slots} {w : World}
theorem Gq.beT {b : Bool} {d : Nat} (e : b = true) (h : Gq P N ops Q S k fuel listed ((d, .bool true) :: l) w) : Gq P N ops Q S k fuel listed ((d, .bool b) :: l) w := by rw [e]; exact h
theorem Gq.beF {b : Bool} {d : Nat} (e : b = false) (h : Gq P N ops Q S k fuel listed ((d, .bool false) :: l) w) : Gq P N ops Q S k fuel listed ((d, .bool b) :: l) w := by rw [e]; exact h
end
theorem Own.setU2 {w : World} {B : Nat} {e : TypeId} {v : Value} {ys : List UInt8} {x y : UInt8} {i j : Nat} (h : Own w B e v (((ys.map fun b => Value.int .u8 (b.toNat : Int)).set i (Value.int .u8 (x.toNat : Int))).set j (Value.int .u8 (y.toNat : Int)))) : Own w B e v (((ys.set i x).set j y).map fun b => Value.int .u8 (b.toNat : Int)) := by
  rw [List.map_set, List.map_set]; exact h
/-- The first k and the last k are turned round. -/
def RevAt (xs : List UInt8) (k : Nat) (ys : List UInt8) : Prop := ys.length = xs.length ∧ ∀ m, m < xs.length → ys.getD m 0 = if m < k ∨ xs.length - 1 - k < m then xs.getD (xs.length - 1 - m) 0 else xs.getD m 0
theorem RevAt.zero (xs : List UInt8) : RevAt xs 0 xs := ⟨rfl, fun m hm => by rw [if_neg (by omega)]⟩
theorem getD_setU (l : List UInt8) (k m : Nat) (x : UInt8) (hk : k < l.length) : (l.set k x).getD m 0 = if k = m then x else l.getD m 0 := by
  rw [List.getD_eq_getElem?_getD, List.getElem?_set]
  by_cases h : k = m
  · subst h; simp [hk]
  · simp [h]
theorem RevAt.step {xs ys : List UInt8} {k : Nat} (h : RevAt xs k ys) (hk : k < xs.length - 1 - k) : RevAt xs (k + 1) ((ys.set k (ys.getD (xs.length - 1 - k) 0)).set (xs.length - 1 - k) (ys.getD k 0)) := by
  obtain ⟨h1, h2⟩ := h
  refine ⟨by simp [h1], fun m hm => ?_⟩
  rw [getD_setU _ _ _ _ (by rw [List.length_set]; omega), getD_setU _ _ _ _ (by omega)]
  by_cases e1 : xs.length - 1 - k = m
  · subst e1
    rw [if_pos rfl, h2 k (by omega), if_neg (by omega), if_pos (by omega)]
    congr 1; omega
  · rw [if_neg e1]
    by_cases e2 : k = m
    · subst e2
      rw [if_pos rfl, h2 _ (by omega), if_neg (by omega), if_pos (by omega)]
    · rw [if_neg e2, h2 m hm]
      by_cases h3 : m < k ∨ xs.length - 1 - k < m
      · rw [if_pos h3, if_pos (by omega)]
      · rw [if_neg h3, if_neg (by omega)]
theorem RevAt.done {xs ys : List UInt8} {k : Nat} (h : RevAt xs k ys) (hk : xs.length - 1 ≤ k + k) : ys = xs.reverse := by
  obtain ⟨h1, h2⟩ := h
  refine List.ext_getElem (by rw [h1, List.length_reverse]) fun m m1 m2 => ?_
  have h3 := h2 m (by omega)
  rw [List.getD_eq_getElem?_getD, List.getElem?_eq_getElem m1] at h3
  rw [List.getElem_reverse]
  have h4 : xs.length - 1 - m < xs.length := by omega
  have e : xs.getD (xs.length - 1 - m) 0 = xs[xs.length - 1 - m] := by rw [List.getD_eq_getElem?_getD, List.getElem?_eq_getElem h4]; rfl
  rw [← e]
  by_cases h5 : m < k ∨ xs.length - 1 - k < m
  · rw [if_pos h5] at h3; exact h3
  · rw [if_neg h5] at h3
    have : xs.length - 1 - m = m := by omega
    rw [this]; exact h3
end Go.Proofs.Ytdkdpmmfebdeaaa
