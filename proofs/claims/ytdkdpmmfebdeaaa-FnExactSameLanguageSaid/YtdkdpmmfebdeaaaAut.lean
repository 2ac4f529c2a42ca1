/-
  Plain mathematics of automata: where a letter leads, extensions, safety parts. No program in sight.
-/
import Derived.Test.YtdkdpmmfebdeaaaRnd
set_option linter.unusedSimpArgs false
set_option linter.unusedVariables false
namespace Go.Proofs.Ytdkdpmmfebdeaaa

/-- The place of a letter in its alphabet. -/
def place (al x : Int) : Nat := (lettersTo al x.toNat).length
theorem place_ok : ∀ al : Fin 64, ∀ i : Fin 6, i.val < (letters (al.val : Int)).length →
    hs (al.val : Int) ((letters (al.val : Int)).getD i.val 0) = true ∧ place (al.val : Int) ((letters (al.val : Int)).getD i.val 0) = i.val := by decide
theorem at_place : ∀ al : Fin 64, ∀ x : Fin 6, hs (al.val : Int) (x.val : Int) = true →
    place (al.val : Int) (x.val : Int) < (letters (al.val : Int)).length ∧ (letters (al.val : Int)).getD (place (al.val : Int) (x.val : Int)) 0 = (x.val : Int) := by decide
theorem place_at {al : Int} (h : 0 ≤ al ∧ al ≤ 63) {k : Nat} (hk : k < (letters al).length) : hs al ((letters al).getD k 0) = true ∧ place al ((letters al).getD k 0) = k := by
  obtain ⟨m, rfl⟩ := Int.eq_ofNat_of_zero_le h.1
  have h6 := letters_len6 (m : Int)
  exact place_ok ⟨m, by omega⟩ ⟨k, by omega⟩ hk
theorem place_lt {al x : Int} (h : 0 ≤ al ∧ al ≤ 63) (hx : 0 ≤ x ∧ x < 6) (hh : hs al x = true) : place al x < (letters al).length ∧ (letters al).getD (place al x) 0 = x := by
  obtain ⟨m, rfl⟩ := Int.eq_ofNat_of_zero_le h.1
  obtain ⟨y, rfl⟩ := Int.eq_ofNat_of_zero_le hx.1
  exact at_place ⟨m, by omega⟩ ⟨y, by omega⟩ hh

/-- Where a letter leads. -/
def goA (a : A) (q x : Int) : Int := if hs a.al x then (a.next.getD q.toNat []).getD (place a.al x) 0 else q
theorem goA_no {a : A} {q x : Int} (h : hs a.al x = false) : goA a q x = q := by simp [goA, h]
theorem goA_yes {a : A} {q x : Int} (h : hs a.al x = true) : goA a q x = (a.next.getD q.toNat []).getD (place a.al x) 0 := by simp [goA, h]
theorem goA_in {a : A} (hv : validA a = true) {q x : Int} (hq : 0 ≤ q ∧ q < a.next.length) (hx : 0 ≤ x ∧ x < 6) : 0 ≤ goA a q x ∧ goA a q x < a.next.length := by
  unfold goA
  split
  · rename_i h
    have h1 := place_lt (validA_spec.1 hv).1 hx h
    exact valid_at hv (by omega) (by rw [valid_row hv (by omega)]; exact h1.1)
  · exact hq

/-! the table: six numbers for each state -/
/-- Rows below q are done; of row q, the entries of the first i letters are. -/
def TabAt (a : A) (q i : Nat) (xs : List Int) : Prop := xs.length = a.next.length * 6 ∧ (∀ k x, k < q → x < 6 → xs.getD (k * 6 + x) 0 = goA a k x) ∧
  ∀ x, x < 6 → q < a.next.length → xs.getD (q * 6 + x) 0 = if hs a.al x = true ∧ place a.al x < i then (a.next.getD q []).getD (place a.al x) 0 else q
def TabPre (a : A) (q l : Nat) (xs : List Int) : Prop := xs.length = a.next.length * 6 ∧ (∀ k x, k < q → x < 6 → xs.getD (k * 6 + x) 0 = goA a k x) ∧
  ∀ x, x < l → q < a.next.length → xs.getD (q * 6 + x) 0 = q
theorem TabPre.zero (a : A) : TabPre a 0 0 (List.replicate (a.next.length * 6) 0) := ⟨by simp, by omega, by omega⟩
theorem TabPre.step {a : A} {q l : Nat} {xs : List Int} (h : TabPre a q l xs) (hl : l < 6) (hq : q < a.next.length) : TabPre a q (l + 1) (xs.set (q * 6 + l) q) := by
  obtain ⟨h1, h2, h3⟩ := h
  refine ⟨by simp [h1], fun k x hk hx => ?_, fun x hx hq' => ?_⟩
  · have : q * 6 + l ≠ k * 6 + x := by omega
    rw [List.getD_eq_getElem?_getD, List.getElem?_set_ne this, ← List.getD_eq_getElem?_getD]
    exact h2 k x hk hx
  · by_cases hxl : x = l
    · subst hxl
      exact getD_set_self (by omega)
    · have : q * 6 + l ≠ q * 6 + x := by omega
      rw [List.getD_eq_getElem?_getD, List.getElem?_set_ne this, ← List.getD_eq_getElem?_getD]
      exact h3 x (by omega) hq'
theorem TabPre.at {a : A} {q : Nat} {xs : List Int} (h : TabPre a q 6 xs) : TabAt a q 0 xs := ⟨h.1, h.2.1, fun x hx hq => by rw [h.2.2 x hx hq]; simp⟩
theorem TabAt.step {a : A} {q i : Nat} {xs : List Int} (hal : 0 ≤ a.al ∧ a.al ≤ 63) (h : TabAt a q i xs) (hi : i < (letters a.al).length) (hq : q < a.next.length) :
    TabAt a q (i + 1) (xs.set (q * 6 + ((letters a.al).getD i 0).toNat) ((a.next.getD q []).getD i 0)) := by
  obtain ⟨h1, h2, h3⟩ := h
  have hl := letters_at a.al hi
  obtain ⟨hp1, hp2⟩ := place_at hal hi
  refine ⟨by simp [h1], fun k x hk hx => ?_, fun x hx hq' => ?_⟩
  · have : q * 6 + ((letters a.al).getD i 0).toNat ≠ k * 6 + x := by omega
    rw [List.getD_eq_getElem?_getD, List.getElem?_set_ne this, ← List.getD_eq_getElem?_getD]
    exact h2 k x hk hx
  · by_cases hxl : (x : Int) = (letters a.al).getD i 0
    · have e1 : ((letters a.al).getD i 0).toNat = x := by omega
      rw [e1, getD_set_self (by omega), hxl, hp2, hp1, if_pos ⟨rfl, by omega⟩]
    · have : q * 6 + ((letters a.al).getD i 0).toNat ≠ q * 6 + x := by omega
      rw [List.getD_eq_getElem?_getD, List.getElem?_set_ne this, ← List.getD_eq_getElem?_getD, h3 x hx hq']
      by_cases hh : hs a.al x = true
      · have h4 := place_lt hal (x := (x : Int)) (by omega) hh
        have h5 : place a.al x ≠ i := fun hc => hxl (by rw [← hc]; exact h4.2.symm)
        by_cases h6 : place a.al x < i
        · rw [if_pos ⟨hh, h6⟩, if_pos ⟨hh, by omega⟩]
        · rw [if_neg (fun hc => h6 hc.2), if_neg (fun hc => by omega)]
      · rw [if_neg (fun hc => hh hc.1), if_neg (fun hc => hh hc.1)]
theorem TabAt.next {a : A} {q i : Nat} {xs : List Int} (hal : 0 ≤ a.al ∧ a.al ≤ 63) (h : TabAt a q i xs) (hi : (letters a.al).length ≤ i) (hq : q < a.next.length) : TabPre a (q + 1) 0 xs := by
  obtain ⟨h1, h2, h3⟩ := h
  refine ⟨h1, fun k x hk hx => ?_, by omega⟩
  by_cases hkq : k < q
  · exact h2 k x hkq hx
  · obtain rfl : k = q := by omega
    rw [h3 x hx hq]
    by_cases hh : hs a.al x = true
    · have h4 := place_lt hal (x := (x : Int)) (by omega) hh
      rw [if_pos ⟨hh, by omega⟩, goA_yes hh]; rfl
    · rw [if_neg (fun hc => hh hc.1), goA_no (by simpa using hh)]
/-- The table is whole. -/
def Tab (a : A) (xs : List Int) : Prop := xs.length = a.next.length * 6 ∧ ∀ q x : Int, 0 ≤ q ∧ q < a.next.length → 0 ≤ x ∧ x < 6 → xs[q.toNat * 6 + x.toNat]? = some (goA a q x)
theorem TabPre.done {a : A} {q l : Nat} {xs : List Int} (h : TabPre a q l xs) (hq : a.next.length ≤ q) : Tab a xs := by
  refine ⟨h.1, fun p x hp hx => ?_⟩
  have h2 := h.2.1 p.toNat x.toNat (by omega) (by omega)
  rw [Int.toNat_of_nonneg hp.1, Int.toNat_of_nonneg hx.1] at h2
  have hlt : p.toNat * 6 + x.toNat < xs.length := by have := h.1; omega
  rw [List.getElem?_eq_getElem hlt, ← h2, List.getD_eq_getElem?_getD, List.getElem?_eq_getElem hlt]
  rfl

/-! extensions -/
def orI (m n : Int) : Int := ((m.toNat ||| n.toNat : Nat) : Int)
theorem orI_le {m n : Int} (hm : 0 ≤ m ∧ m ≤ 63) (hn : 0 ≤ n ∧ n ≤ 63) : 0 ≤ orI m n ∧ orI m n ≤ 63 := by
  have := Nat.or_lt_two_pow (n := 6) (x := m.toNat) (y := n.toNat) (by omega) (by omega)
  unfold orI
  omega
def extRow (a : A) (b : Int) (q : Nat) : List Int := (letters b).map (goA a q)
def extTo (a : A) (b : Int) (k : Nat) : List (List Int) := (List.range k).map (extRow a b)
def extend (a : A) (al : Int) : A := ⟨orI a.al al, extTo a (orI a.al al) a.next.length, a.acc⟩
theorem extTo_succ (a : A) (b : Int) (k : Nat) : extTo a b (k + 1) = extTo a b k ++ [extRow a b k] := by simp [extTo, List.range_succ]
theorem extTo_length (a : A) (b : Int) (k : Nat) : (extTo a b k).length = k := by simp [extTo]
theorem extRowTo_succ {a : A} {b : Int} {q k : Nat} (hk : k < (letters b).length) : ((letters b).take (k + 1)).map (goA a q) = ((letters b).take k).map (goA a q) ++ [goA a q ((letters b).getD k 0)] := by
  rw [take_snoc 0 hk, List.map_append]; rfl
theorem extRow_done {a : A} {b : Int} {q k : Nat} (hk : (letters b).length ≤ k) : ((letters b).take k).map (goA a q) = extRow a b q := by rw [List.take_of_length_le hk]; rfl
theorem extend_valid {a : A} {al : Int} (hv : validA a = true) (hal : 0 ≤ al ∧ al ≤ 63) : validA (extend a al) = true := by
  obtain ⟨h1, h2, h3, h4⟩ := validA_spec.1 hv
  have hb := orI_le h1 hal
  refine validA_spec.2 ⟨hb, by simp [extend, extTo]; omega, by simp [extend, extTo]; omega, fun row hr => ?_⟩
  simp only [extend, extTo, List.mem_map, List.mem_range] at hr
  obtain ⟨q, hq, rfl⟩ := hr
  refine ⟨by simp [extRow, extend], fun y hy => ?_⟩
  simp only [extRow, List.mem_map] at hy
  obtain ⟨x, hx, rfl⟩ := hy
  simp only [extend, extTo, List.length_map, List.length_range]
  refine goA_in hv (by omega) ?_
  simp only [letters, lettersTo, List.mem_filter, List.mem_map, List.mem_range] at hx
  obtain ⟨⟨i, hi, rfl⟩, _⟩ := hx
  omega

/-! safety parts -/
def safeRow (a : A) (i : Nat) : List Int := if a.acc.getD i false then a.next.getD i [] else (a.next.getD i []).map fun _ => (i : Int)
def safe (a : A) : A := ⟨a.al, (List.range a.next.length).map (safeRow a), a.acc⟩
def SafeAt (a : A) (k j : Nat) (xss : List (List Int)) : Prop := xss.length = a.next.length ∧ ∀ i, i < a.next.length → (xss.getD i []).length = (a.next.getD i []).length ∧
  ∀ m, m < (a.next.getD i []).length → (xss.getD i []).getD m 0 = if a.acc.getD i false = false ∧ (i < k ∨ i = k ∧ m < j) then (i : Int) else (a.next.getD i []).getD m 0
theorem SafeAt.zero (a : A) : SafeAt a 0 0 a.next := ⟨rfl, fun i hi => ⟨rfl, fun m hm => by rw [if_neg (by omega)]⟩⟩
theorem SafeAt.step {a : A} {k j : Nat} {xss : List (List Int)} (h : SafeAt a k j xss) (hk : k < a.next.length) (hj : j < (a.next.getD k []).length) (hac : a.acc.getD k false = false) :
    SafeAt a k (j + 1) (xss.set k ((xss.getD k []).set j k)) := by
  obtain ⟨h1, h2⟩ := h
  refine ⟨by simp [h1], fun i hi => ?_⟩
  by_cases hik : i = k
  · subst hik
    rw [getD_set_self (by omega)]
    refine ⟨by rw [List.length_set]; exact (h2 i hi).1, fun m hm => ?_⟩
    by_cases hmj : m = j
    · subst hmj
      rw [getD_set_self (by rw [(h2 i hi).1]; exact hm), if_pos ⟨hac, .inr ⟨rfl, by omega⟩⟩]
    · rw [List.getD_eq_getElem?_getD, List.getElem?_set_ne (Ne.symm hmj), ← List.getD_eq_getElem?_getD, (h2 i hi).2 m hm]
      by_cases hm2 : m < j
      · rw [if_pos ⟨hac, .inr ⟨rfl, hm2⟩⟩, if_pos ⟨hac, .inr ⟨rfl, by omega⟩⟩]
      · rw [if_neg (by omega), if_neg (by omega)]
  · have e : (xss.set k ((xss.getD k []).set j k)).getD i [] = xss.getD i [] := by
      rw [List.getD_eq_getElem?_getD, List.getElem?_set_ne (Ne.symm hik), ← List.getD_eq_getElem?_getD]
    rw [e]
    refine ⟨(h2 i hi).1, fun m hm => ?_⟩
    rw [(h2 i hi).2 m hm]
    by_cases hc : a.acc.getD i false = false ∧ (i < k ∨ i = k ∧ m < j)
    · rw [if_pos hc, if_pos ⟨hc.1, by omega⟩]
    · rw [if_neg hc, if_neg (fun hd => hc ⟨hd.1, by omega⟩)]
theorem SafeAt.skip {a : A} {k j j' : Nat} {xss : List (List Int)} (h : SafeAt a k j xss) (hac : a.acc.getD k false = true) : SafeAt a k j' xss :=
  ⟨h.1, fun i hi => ⟨(h.2 i hi).1, fun m hm => by
    rw [(h.2 i hi).2 m hm]
    by_cases hik : i = k
    · subst hik
      rw [if_neg (by rw [hac]; simp), if_neg (by rw [hac]; simp)]
    · by_cases hc : a.acc.getD i false = false ∧ i < k
      · rw [if_pos ⟨hc.1, .inl hc.2⟩, if_pos ⟨hc.1, .inl hc.2⟩]
      · rw [if_neg (fun hd => hc ⟨hd.1, by omega⟩), if_neg (fun hd => hc ⟨hd.1, by omega⟩)]⟩⟩
theorem SafeAt.next {a : A} {k j : Nat} {xss : List (List Int)} (h : SafeAt a k j xss) (hj : (a.next.getD k []).length ≤ j ∨ a.acc.getD k false = true) : SafeAt a (k + 1) 0 xss :=
  ⟨h.1, fun i hi => ⟨(h.2 i hi).1, fun m hm => by
    rw [(h.2 i hi).2 m hm]
    by_cases hac : a.acc.getD i false = false
    · by_cases hik : i = k
      · subst hik
        have : (a.next.getD i []).length ≤ j := by
          rcases hj with h | h
          · exact h
          · rw [hac] at h; cases h
        rw [if_pos ⟨hac, .inr ⟨rfl, by omega⟩⟩, if_pos ⟨hac, .inl (by omega)⟩]
      · by_cases hc : i < k
        · rw [if_pos ⟨hac, .inl hc⟩, if_pos ⟨hac, .inl (by omega)⟩]
        · rw [if_neg (by omega), if_neg (by omega)]
    · rw [if_neg (fun hd => hac hd.1), if_neg (fun hd => hac hd.1)]⟩⟩
theorem SafeAt.done {a : A} {k j : Nat} {xss : List (List Int)} (h : SafeAt a k j xss) (hk : a.next.length ≤ k) : xss = (safe a).next := by
  refine List.ext_getElem (by simp [safe, h.1]) fun i h1 h2 => ?_
  have hi : i < a.next.length := by rw [← h.1]; exact h1
  obtain ⟨h3, h4⟩ := h.2 i hi
  have e0 : xss.getD i [] = xss[i] := by simp [h1]
  rw [e0] at h3 h4
  simp only [safe, List.getElem_map, List.getElem_range]
  unfold safeRow
  cases hac : a.acc.getD i false with
  | true =>
    simp only [if_true]
    refine List.ext_getElem h3 fun m m1 m2 => ?_
    have := h4 m (by omega)
    rw [hac, if_neg (by simp), List.getD_eq_getElem?_getD, List.getElem?_eq_getElem m1, List.getD_eq_getElem?_getD, List.getElem?_eq_getElem m2] at this
    exact this
  | false =>
    rw [if_neg (by simp)]
    refine List.ext_getElem (by simp [h3]) fun m m1 m2 => ?_
    have := h4 m (by omega)
    rw [hac, if_pos ⟨rfl, .inl (by omega)⟩] at this
    simpa [m1] using this

end Go.Proofs.Ytdkdpmmfebdeaaa
