/-
  Plain laws of extensions, complements and safety parts. No program in sight.
-/
import Derived.Test.YtdkdpmmfebdeaaaAut
set_option linter.unusedSimpArgs false
set_option linter.unusedVariables false
namespace Go.Proofs.Ytdkdpmmfebdeaaa

theorem hs_or {m n x : Int} (hm : 0 ≤ m) (hn : 0 ≤ n) : hs (orI m n) x = (hs m x || hs n x) := by
  unfold hs orI
  rw [Int.toNat_natCast, Nat.testBit_or]
  cases decide (0 ≤ x) <;> simp
theorem orI_self {m : Int} (h : 0 ≤ m) : orI m m = m := by unfold orI; rw [Nat.or_self]; omega
theorem orI_zero {m : Int} (h : 0 ≤ m) : orI m 0 = m := by unfold orI; simp; omega
theorem orI_assoc (a b c : Int) : orI (orI a b) c = orI a (orI b c) := by unfold orI; simp only [Int.toNat_natCast, Nat.or_assoc]
theorem mem_letters {b x : Int} (h : x ∈ letters b) : 0 ≤ x ∧ x < 6 ∧ hs b x = true := by
  simp only [letters, lettersTo, List.mem_filter, List.mem_map, List.mem_range] at h
  obtain ⟨⟨i, hi, rfl⟩, h2⟩ := h
  exact ⟨by omega, by omega, h2⟩
theorem extTo_at {a : A} {b : Int} {n q : Nat} (h : q < n) : (extTo a b n).getD q [] = extRow a b q := by simp [extTo, h]
theorem extRow_at {a : A} {b : Int} {q k : Nat} (h : k < (letters b).length) : (extRow a b q).getD k 0 = goA a q ((letters b).getD k 0) := by simp [extRow, h]
theorem goA_ext {a : A} {k q x : Int} (hv : validA a = true) (hk : 0 ≤ k ∧ k ≤ 63) (hq : 0 ≤ q ∧ q < a.next.length) (hx : 0 ≤ x ∧ x < 6) : goA (extend a k) q x = goA a q x := by
  have hal := (validA_spec.1 hv).1
  have hb := orI_le hal hk
  have ho := hs_or (x := x) hal.1 hk.1
  by_cases hh : hs (orI a.al k) x = true
  · have hp := place_lt hb hx hh
    have e1 : goA (extend a k) q x = (extRow a (orI a.al k) q.toNat).getD (place (orI a.al k) x) 0 := by
      have : goA (extend a k) q x = ((extTo a (orI a.al k) a.next.length).getD q.toNat []).getD (place (orI a.al k) x) 0 := goA_yes (a := extend a k) hh
      rw [this, extTo_at (by omega)]
    rw [e1, extRow_at hp.1, hp.2, Int.toNat_of_nonneg hq.1]
  · have h1 : hs (orI a.al k) x = false := by simpa using hh
    rw [h1] at ho
    have h2 : hs a.al x = false := by
      cases h : hs a.al x
      · rfl
      · rw [h] at ho; simp at ho
    rw [goA_no (a := extend a k) h1, goA_no h2]
theorem extRow_congr {a c : A} {b : Int} {q : Nat} (h : ∀ x, 0 ≤ x ∧ x < 6 → goA c q x = goA a q x) : extRow c b q = extRow a b q :=
  List.map_congr_left fun x hx => h x ⟨(mem_letters hx).1, (mem_letters hx).2.1⟩
theorem extTo_congr {a c : A} {b : Int} {n : Nat} (h : ∀ q x : Int, 0 ≤ q ∧ q < n → 0 ≤ x ∧ x < 6 → goA c q x = goA a q x) : extTo c b n = extTo a b n :=
  List.map_congr_left fun q hq => extRow_congr fun x hx => h q x (by have := List.mem_range.1 hq; omega) hx
theorem extend_twice {a : A} {k m : Int} (hv : validA a = true) (hk : 0 ≤ k ∧ k ≤ 63) : extend (extend a k) m = extend a (orI k m) := by
  have e : (extend a k).next.length = a.next.length := extTo_length _ _ _
  have e1 : orI (extend a k).al m = orI a.al (orI k m) := orI_assoc _ _ _
  unfold extend at e e1 ⊢
  simp only [e, e1, A.mk.injEq, true_and, and_true]
  exact extTo_congr fun q x hq hx => goA_ext hv hk hq hx
theorem extend_own {a : A} {k : Int} (hv : validA a = true) (hk : 0 ≤ k ∧ k ≤ 63) : extend (extend a k) k = extend a k := by rw [extend_twice hv hk, orI_self hk.1]
theorem extRow_same {a : A} (hv : validA a = true) {q : Nat} (hq : q < a.next.length) : extRow a a.al q = a.next.getD q [] := by
  have hal := (validA_spec.1 hv).1
  have hl := valid_row hv hq
  refine List.ext_getElem (by rw [hl]; simp [extRow]) fun i h1 h2 => ?_
  have hi : i < (letters a.al).length := by rw [← hl]; exact h2
  have e1 : (extRow a a.al q)[i] = (extRow a a.al q).getD i 0 := by simp [h1]
  obtain ⟨p1, p2⟩ := place_at hal hi
  rw [e1, extRow_at hi, goA_yes p1, p2, Int.toNat_natCast, List.getD_eq_getElem?_getD, List.getElem?_eq_getElem h2]
  rfl
theorem extend_zero {a : A} (hv : validA a = true) : extend a 0 = a := by
  have hal := (validA_spec.1 hv).1
  obtain ⟨al, nx, ac⟩ := a
  simp only [extend, orI_zero hal.1, A.mk.injEq, true_and, and_true]
  refine List.ext_getElem (by simp [extTo]) fun q h1 h2 => ?_
  have e1 : (extTo ⟨al, nx, ac⟩ al nx.length)[q] = extRow ⟨al, nx, ac⟩ al q := by simp [extTo]
  rw [e1]
  have := extRow_same hv (q := q) h2
  rw [this]
  simp [h2]
theorem compl_valid {a : A} : validA (compl a) = validA a := by
  unfold validA compl
  simp only [List.length_map]
theorem compl_valid' {a : A} (h : validA a = true) : validA (compl a) = true := by rw [compl_valid]; exact h
theorem cond_spec {a : A} {k : Int} (h : (validA a && decide (0 ≤ k ∧ k ≤ 63)) = true) : validA a = true ∧ 0 ≤ k ∧ k ≤ 63 := by
  simp only [Bool.and_eq_true, decide_eq_true_eq] at h
  exact h
theorem cond_mk {a : A} {k : Int} (h : validA a = true) (hk : 0 ≤ k ∧ k ≤ 63) : (validA a && decide (0 ≤ k ∧ k ≤ 63)) = true := by rw [h, decide_eq_true hk]; rfl
theorem fit_zero : Fit zeroA := ⟨⟨by decide, by decide⟩, by decide, by decide, by simp [zeroA]⟩
theorem extend_compl (a : A) (k : Int) : compl (extend a k) = extend (compl a) k := rfl

theorem safe_len (a : A) : (safe a).next.length = a.next.length := by simp [safe]
theorem safe_at {a : A} {q : Nat} (h : q < a.next.length) : (safe a).next.getD q [] = safeRow a q := by simp [safe, h]
theorem safeRow_length (a : A) (q : Nat) : (safeRow a q).length = (a.next.getD q []).length := by unfold safeRow; split <;> simp
theorem safe_valid {a : A} (hv : validA a = true) : validA (safe a) = true := by
  obtain ⟨h1, h2, h3, h4⟩ := validA_spec.1 hv
  refine validA_spec.2 ⟨h1, by rw [safe_len]; exact h2, by rw [safe_len]; exact h3, fun row hr => ?_⟩
  simp only [safe, List.mem_map, List.mem_range] at hr
  obtain ⟨q, hq, rfl⟩ := hr
  refine ⟨by rw [safeRow_length]; exact valid_row hv hq, fun y hy => ?_⟩
  rw [safe_len]
  unfold safeRow at hy
  split at hy
  · exact (h4 _ (getD_mem hq)).2 y hy
  · obtain ⟨_, _, rfl⟩ := List.mem_map.1 hy
    omega
theorem goA_safe {a : A} (hv : validA a = true) {q x : Int} (hq : 0 ≤ q ∧ q < a.next.length) (hx : 0 ≤ x ∧ x < 6) : goA (safe a) q x = if a.acc.getD q.toNat false then goA a q x else q := by
  have hal := (validA_spec.1 hv).1
  by_cases hh : hs a.al x = true
  · have hp := place_lt hal hx hh
    have hlen := valid_row hv (k := q.toNat) (by omega)
    have e1 : goA (safe a) q x = ((safe a).next.getD q.toNat []).getD (place a.al x) 0 := goA_yes (a := safe a) hh
    rw [e1, safe_at (by omega), goA_yes hh]
    unfold safeRow
    split
    · rfl
    · have : place a.al x < ((a.next.getD q.toNat []).map fun _ => ((q.toNat : Nat) : Int)).length := by rw [List.length_map, hlen]; exact hp.1
      rw [List.getD_eq_getElem?_getD, List.getElem?_eq_getElem this]
      simp
      omega
  · have h1 : hs a.al x = false := by simpa using hh
    rw [goA_no (a := safe a) h1, goA_no h1]; simp
theorem safe_extend {a : A} {k : Int} (hv : validA a = true) (hk : 0 ≤ k ∧ k ≤ 63) : safe (extend a k) = extend (safe a) k := by
  have e : (extend a k).next.length = a.next.length := extTo_length _ _ _
  have e2 : (safe a).next.length = a.next.length := safe_len a
  have e3 : (safe a).al = a.al := rfl
  have e4 : (safe a).acc = a.acc := rfl
  show (⟨(extend a k).al, (List.range (extend a k).next.length).map (safeRow (extend a k)), (extend a k).acc⟩ : A) = ⟨orI (safe a).al k, extTo (safe a) (orI (safe a).al k) (safe a).next.length, (safe a).acc⟩
  rw [e, e2, e3, e4]
  have e5 : (extend a k).al = orI a.al k := rfl
  have e6 : (extend a k).acc = a.acc := rfl
  rw [e5, e6]
  simp only [A.mk.injEq, true_and, and_true]
  refine List.map_congr_left fun q hq => ?_
  have hq' := List.mem_range.1 hq
  have e7 : (extend a k).next.getD q [] = extRow a (orI a.al k) q := extTo_at hq'
  unfold safeRow
  rw [e6, e7]
  cases hac : a.acc.getD q false with
  | true =>
    rw [if_pos rfl]
    refine (extRow_congr fun x hx => ?_).symm
    rw [goA_safe hv (by omega) hx, Int.toNat_natCast, hac]
    rfl
  | false =>
    rw [if_neg (by simp)]
    simp only [extRow, List.map_map]
    refine List.map_congr_left fun x hx => ?_
    rw [goA_safe hv (by omega) ⟨(mem_letters hx).1, (mem_letters hx).2.1⟩, Int.toNat_natCast, hac]
    rfl
theorem safe_twice {a : A} (hv : validA a = true) : safe (safe a) = safe a := by
  show (⟨a.al, (List.range (safe a).next.length).map (safeRow (safe a)), a.acc⟩ : A) = ⟨a.al, (List.range a.next.length).map (safeRow a), a.acc⟩
  rw [safe_len]
  simp only [A.mk.injEq, true_and, and_true]
  refine List.map_congr_left fun q hq => ?_
  have hq' := List.mem_range.1 hq
  unfold safeRow
  rw [safe_at hq']
  unfold safeRow
  show (if a.acc.getD q false = true then _ else _) = _
  cases hac : a.acc.getD q false <;> simp
end Go.Proofs.Ytdkdpmmfebdeaaa
