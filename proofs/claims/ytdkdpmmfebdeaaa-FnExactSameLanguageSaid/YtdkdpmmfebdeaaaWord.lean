/-
  Plain mathematics of words: their letters, the words over an alphabet, where a word leads. No program in sight.
-/
import Derived.Test.YtdkdpmmfebdeaaaCnt
set_option linter.unusedSimpArgs false
set_option linter.unusedVariables false
namespace Go.Proofs.Ytdkdpmmfebdeaaa

/-- The letters of a text. -/
def lts (s : ByteArray) : List Int := s.data.toList.map fun b => (b.toNat : Int) - 97
theorem lts_length (s : ByteArray) : (lts s).length = s.size := by
  rw [lts, List.length_map]; rfl
theorem lts_at {s : ByteArray} {k : Nat} (h : k < s.size) : (lts s).getD k 0 = ((s.data.toList.getD k 0).toNat : Int) - 97 := by
  have h1 : k < s.data.toList.length := h
  rw [lts, List.getD_eq_getElem?_getD, List.getElem?_map, List.getElem?_eq_getElem h1, List.getD_eq_getElem?_getD, List.getElem?_eq_getElem h1]
  rfl
def within (s : ByteArray) (al : Int) : Bool := decide (0 ≤ al ∧ al ≤ 63) && (decide ((s.size : Int) ≤ 50000) && (lts s).all (hs al))
theorem within_al {s : ByteArray} {al : Int} (h : ¬ (0 ≤ al ∧ al ≤ 63)) : within s al = false := by simp only [within, decide_eq_false h, Bool.false_and]
theorem within_size {s : ByteArray} {al : Int} (h : ¬ (s.size : Int) ≤ 50000) : within s al = false := by simp only [within, decide_eq_false h, Bool.false_and, Bool.and_false]
theorem within_bad {s : ByteArray} {al : Int} {k : Nat} (h : k < s.size) (hb : hs al ((lts s).getD k 0) = false) : within s al = false := by
  simp only [within, all_bad (l := lts s) (d := 0) (by rw [lts_length]; exact h) hb, Bool.and_false]
theorem within_good {s : ByteArray} {al : Int} {k : Nat} (h1 : 0 ≤ al ∧ al ≤ 63) (h2 : (s.size : Int) ≤ 50000) (hp : ((lts s).take k).all (hs al) = true) (hk : s.size ≤ k) : within s al = true := by
  simp only [within, decide_eq_true h1, decide_eq_true h2, all_done (l := lts s) hp (by rw [lts_length]; exact hk), Bool.and_self]
theorem within_spec {s : ByteArray} {al : Int} : within s al = true ↔ (0 ≤ al ∧ al ≤ 63) ∧ s.size ≤ 50000 ∧ ∀ x ∈ lts s, hs al x = true := by
  simp only [within, Bool.and_eq_true, decide_eq_true_eq, List.all_eq_true]
  constructor
  · rintro ⟨h1, h2, h3⟩; exact ⟨h1, by omega, h3⟩
  · rintro ⟨h1, h2, h3⟩; exact ⟨h1, by omega, h3⟩
theorem hs_small {al x : Int} (h : 0 ≤ al ∧ al ≤ 63) (hx : hs al x = true) : 0 ≤ x ∧ x < 6 := by
  unfold hs at hx
  simp only [Bool.and_eq_true, decide_eq_true_eq] at hx
  refine ⟨hx.1, ?_⟩
  rcases Int.lt_or_le x 6 with h1 | h1
  · exact h1
  · have h2 : al.toNat < 2 ^ 6 := by omega
    have h3 : al.toNat < 2 ^ x.toNat := Nat.lt_of_lt_of_le h2 (Nat.pow_le_pow_right (by decide) (by omega))
    rw [Nat.testBit_lt_two_pow h3] at hx
    cases hx.2
theorem hs63 (x : Int) : hs 63 x = decide (0 ≤ x ∧ x < 6) := by
  by_cases h : 0 ≤ x ∧ x < 6
  · rw [decide_eq_true h]
    obtain ⟨m, rfl⟩ := Int.eq_ofNat_of_zero_le h.1
    have : ∀ m : Fin 6, hs 63 (m.val : Int) = true := by decide
    exact this ⟨m, by omega⟩
  · rw [decide_eq_false h]
    cases hh : hs 63 x with
    | false => rfl
    | true => exact absurd (hs_small (by decide) hh) h

def runTo (a : A) (q : Int) (s : ByteArray) (k : Nat) : Int := ((lts s).take k).foldl (goA a) q
theorem runTo_zero (a : A) (q : Int) (s : ByteArray) : runTo a q s 0 = q := rfl
theorem runTo_succ {a : A} {q : Int} {s : ByteArray} {k : Nat} (h : k < s.size) : runTo a q s (k + 1) = goA a (runTo a q s k) ((lts s).getD k 0) := by
  unfold runTo
  rw [take_snoc 0 (by rw [lts_length]; exact h), List.foldl_append]
  rfl
theorem foldl_in {a : A} (hv : validA a = true) : ∀ (w : List Int) (q : Int), (∀ x ∈ w, 0 ≤ x ∧ x < 6) → (0 ≤ q ∧ q < a.next.length) → 0 ≤ w.foldl (goA a) q ∧ w.foldl (goA a) q < a.next.length
  | [], q, _, hq => hq
  | x :: w, q, h, hq => foldl_in hv w _ (fun y hy => h y (by simp [hy])) (goA_in hv hq (h x (by simp)))
theorem runTo_in {a : A} {q : Int} {s : ByteArray} {al : Int} (hv : validA a = true) (hw : within s al = true) (hq : 0 ≤ q ∧ q < a.next.length) (k : Nat) : 0 ≤ runTo a q s k ∧ runTo a q s k < a.next.length := by
  obtain ⟨h1, h2, h3⟩ := within_spec.1 hw
  exact foldl_in hv _ _ (fun x hx => hs_small h1 (h3 x (List.mem_of_mem_take hx))) hq
def after (a : A) (s : ByteArray) : Int := if validA a = true ∧ within s a.al = true then runTo a 0 s s.size else -1
def accepts (a : A) (s : ByteArray) : Bool := decide (0 ≤ after a s) && a.acc.getD (after a s).toNat false
theorem after_good {a : A} {s : ByteArray} (h : validA a = true) (hw : within s a.al = true) {k : Nat} (hk : k = s.size) : after a s = runTo a 0 s k := by rw [after, if_pos ⟨h, hw⟩, hk]
theorem after_bad {a : A} {s : ByteArray} (h : ¬ (validA a = true ∧ within s a.al = true)) : after a s = -1 := if_neg h
theorem after_lt {a : A} {s : ByteArray} (h : 0 ≤ after a s) : (after a s).toNat < a.acc.length := by
  unfold after at h ⊢
  split at h
  · rename_i hc
    rw [if_pos hc]
    have h1 := validA_spec.1 hc.1
    have := runTo_in hc.1 hc.2 (q := 0) (by omega) s.size
    omega
  · omega
theorem accepts_T {a : A} {s : ByteArray} (h : 0 ≤ after a s) : accepts a s = a.acc.getD (after a s).toNat false := by rw [accepts, decide_eq_true h, Bool.true_and]
theorem accepts_F {a : A} {s : ByteArray} (h : ¬ 0 ≤ after a s) : accepts a s = false := by rw [accepts, decide_eq_false h, Bool.false_and]
def clip (x : Int) : Int := if 0 ≤ x ∧ x < 6 then x else -1
theorem clip_in {x : Int} (h : 0 ≤ x ∧ x < 6) : clip x = x := if_pos h
theorem clip_out {x : Int} (h : ¬ (0 ≤ x ∧ x < 6)) : clip x = -1 := if_neg h
theorem hs_clip {al x : Int} (h : 0 ≤ al ∧ al ≤ 63) : hs al (clip x) = hs al x := by
  by_cases hx : 0 ≤ x ∧ x < 6
  · rw [clip_in hx]
  · rw [clip_out hx]
    cases hh : hs al x with
    | false => simp [hs]
    | true => exact absurd (hs_small h hh) hx
theorem within_at {s : ByteArray} {al : Int} (h : within s al = true) {k : Nat} (hk : k < s.size) : clip ((lts s).getD k 0) = (lts s).getD k 0 ∧ 0 ≤ (lts s).getD k 0 ∧ (lts s).getD k 0 < 6 := by
  obtain ⟨h1, _, h3⟩ := within_spec.1 h
  have := hs_small h1 (h3 _ (getD_mem (d := 0) (by rw [lts_length]; exact hk)))
  exact ⟨clip_in this, this⟩
/-! the alphabet of a word -/
def bit (x : Int) : Int := 2 ^ x.toNat
def setTo (s : ByteArray) (k : Nat) : Int := ((lts s).take k).foldl (fun m x => orI m (bit x)) 0
theorem setTo_succ {s : ByteArray} {k : Nat} (h : k < s.size) : setTo s (k + 1) = orI (setTo s k) (bit ((lts s).getD k 0)) := by
  unfold setTo
  rw [take_snoc 0 (by rw [lts_length]; exact h), List.foldl_append]
  rfl
theorem bit_in {x : Int} (h : 0 ≤ x ∧ x < 6) : 0 ≤ bit x ∧ bit x ≤ 63 := by
  obtain ⟨m, rfl⟩ := Int.eq_ofNat_of_zero_le h.1
  have : ∀ m : Fin 6, 0 ≤ bit (m.val : Int) ∧ bit (m.val : Int) ≤ 63 := by decide
  exact this ⟨m, by omega⟩
theorem hs_bit {x y : Int} (h : 0 ≤ x ∧ x < 6) : hs (bit x) y = decide (y = x) := by
  obtain ⟨m, rfl⟩ := Int.eq_ofNat_of_zero_le h.1
  by_cases hy : 0 ≤ y ∧ y < 6
  · obtain ⟨n, rfl⟩ := Int.eq_ofNat_of_zero_le hy.1
    have : ∀ m n : Fin 6, hs (bit (m.val : Int)) (n.val : Int) = decide ((n.val : Int) = (m.val : Int)) := by decide
    exact this ⟨m, by omega⟩ ⟨n, by omega⟩
  · have h1 : hs (bit (m : Int)) y = false := by
      cases hh : hs (bit (m : Int)) y with
      | false => rfl
      | true => exact absurd (hs_small (bit_in h) hh) hy
    rw [h1, decide_eq_false (by omega)]
theorem fold_set : ∀ (w : List Int) (m : Int), (∀ x ∈ w, 0 ≤ x ∧ x < 6) → 0 ≤ m ∧ m ≤ 63 →
    (0 ≤ w.foldl (fun m x => orI m (bit x)) m ∧ w.foldl (fun m x => orI m (bit x)) m ≤ 63) ∧ ∀ y, hs (w.foldl (fun m x => orI m (bit x)) m) y = true ↔ hs m y = true ∨ y ∈ w
  | [], m, _, hm => ⟨hm, fun y => by simp⟩
  | x :: w, m, h, hm => by
    have hx := h x (by simp)
    have hb := bit_in hx
    obtain ⟨h1, h2⟩ := fold_set w (orI m (bit x)) (fun y hy => h y (by simp [hy])) (orI_le hm hb)
    refine ⟨h1, fun y => ?_⟩
    rw [List.foldl_cons, h2 y, hs_or hm.1 hb.1, Bool.or_eq_true, hs_bit hx, decide_eq_true_eq, List.mem_cons]
    constructor
    · rintro ((h | h) | h)
      · exact .inl h
      · exact .inr (.inl h)
      · exact .inr (.inr h)
    · rintro (h | h | h)
      · exact .inl (.inl h)
      · exact .inl (.inr h)
      · exact .inr h
theorem letters_in {s : ByteArray} (h : within s 63 = true) : ∀ x ∈ lts s, 0 ≤ x ∧ x < 6 := fun x hx => hs_small (by decide) ((within_spec.1 h).2.2 x hx)
theorem setTo_in {s : ByteArray} (h : ((lts s).all (hs 63)) = true) (k : Nat) : 0 ≤ setTo s k ∧ setTo s k ≤ 63 :=
  (fold_set _ 0 (fun x hx => hs_small (by decide) (List.all_eq_true.1 h x (List.mem_of_mem_take hx))) (by decide)).1
theorem within_and {s : ByteArray} {al : Int} (h : within s 63 = true) (hal : 0 ≤ al ∧ al ≤ 63) : decide ((((setTo s s.size).toNat &&& al.toNat : Nat) : Int) = setTo s s.size) = within s al := by
  obtain ⟨h1, h2⟩ := fold_set (lts s) 0 (letters_in h) (by decide)
  have e : setTo s s.size = (lts s).foldl (fun m x => orI m (bit x)) 0 := by rw [setTo, List.take_of_length_le (by rw [lts_length]; exact Nat.le_refl _)]
  rw [← e] at h1 h2
  have hb : within s al = true ↔ ∀ x ∈ lts s, hs al x = true := by
    rw [within_spec]
    exact ⟨fun h => h.2.2, fun h' => ⟨hal, (within_spec.1 h).2.1, h'⟩⟩
  rw [Bool.eq_iff_iff, hb, decide_eq_true_eq]
  have h0 : ∀ y, hs 0 y = true ↔ False := fun y => by simp [hs]
  constructor
  · intro hc x hx
    have hx1 : hs (setTo s s.size) x = true := (h2 x).2 (.inr hx)
    rw [← hc] at hx1
    unfold hs at hx1 ⊢
    rw [Int.toNat_natCast, Nat.testBit_and] at hx1
    simp only [Bool.and_eq_true] at hx1 ⊢
    exact ⟨hx1.1, hx1.2.2⟩
  · intro hall
    have : (setTo s s.size).toNat &&& al.toNat = (setTo s s.size).toNat := by
      apply Nat.eq_of_testBit_eq
      intro i
      rw [Nat.testBit_and]
      cases hi : (setTo s s.size).toNat.testBit i with
      | false => rfl
      | true =>
        have hx : hs (setTo s s.size) (i : Int) = true := by unfold hs; simp [hi]
        have hm : (i : Int) ∈ lts s := ((h2 i).1 hx).resolve_left (fun h => (h0 i).1 h)
        have := hall _ hm
        unfold hs at this
        simp at this
        simp [this]
    rw [this]
    omega
end Go.Proofs.Ytdkdpmmfebdeaaa
