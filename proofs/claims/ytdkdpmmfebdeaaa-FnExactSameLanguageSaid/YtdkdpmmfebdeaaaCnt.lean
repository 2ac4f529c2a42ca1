/-
  Plain mathematics of counting accepted words. No program in sight.
-/
import Derived.Test.YtdkdpmmfebdeaaaExt
import Derived.Test.YtdkdpmmfebdeaaaStr
set_option linter.unusedSimpArgs false
set_option linter.unusedVariables false
namespace Go.Proofs.Ytdkdpmmfebdeaaa

def addTo (row : List Int) (c : Int) (k : Nat) (v : List Int) : List Int := (row.take k).foldl (fun v t => v.set t.toNat (v.getD t.toNat 0 + c)) v
theorem addTo_zero (row : List Int) (c : Int) (v : List Int) : addTo row c 0 v = v := rfl
theorem addTo_succ {row : List Int} {c : Int} {k : Nat} {v : List Int} (h : k < row.length) : addTo row c (k + 1) v = (addTo row c k v).set (row.getD k 0).toNat ((addTo row c k v).getD (row.getD k 0).toNat 0 + c) := by
  unfold addTo
  rw [take_snoc 0 h, List.foldl_append]
  rfl
theorem addTo_done {row : List Int} {c : Int} {k : Nat} {v : List Int} (h : row.length ≤ k) : addTo row c k v = addTo row c row.length v := by
  unfold addTo
  rw [List.take_of_length_le h, List.take_of_length_le (Nat.le_refl _)]
theorem addTo_length (row : List Int) (c : Int) (k : Nat) (v : List Int) : (addTo row c k v).length = v.length := by
  unfold addTo
  generalize row.take k = l
  induction l generalizing v with
  | nil => rfl
  | cons t l ih => rw [List.foldl_cons, ih, List.length_set]
def stepTo (a : A) (cs : List Int) (q : Nat) : List Int := (List.range q).foldl (fun v i => addTo (a.next.getD i []) (cs.getD i 0) (a.next.getD i []).length v) (List.replicate a.next.length 0)
theorem stepTo_zero (a : A) (cs : List Int) : stepTo a cs 0 = List.replicate a.next.length 0 := rfl
theorem stepTo_succ (a : A) (cs : List Int) (q : Nat) : stepTo a cs (q + 1) = addTo (a.next.getD q []) (cs.getD q 0) (a.next.getD q []).length (stepTo a cs q) := by
  unfold stepTo
  rw [List.range_succ, List.foldl_append]
  rfl
theorem stepTo_length (a : A) (cs : List Int) (q : Nat) : (stepTo a cs q).length = a.next.length := by
  induction q with
  | zero => simp [stepTo_zero]
  | succ q ih => rw [stepTo_succ, addTo_length, ih]
def sumTo (a : A) (cs : List Int) (q : Nat) : Int := (List.range q).foldl (fun s i => if a.acc.getD i false then s + cs.getD i 0 else s) 0
theorem sumTo_succ (a : A) (cs : List Int) (q : Nat) : sumTo a cs (q + 1) = if a.acc.getD q false then sumTo a cs q + cs.getD q 0 else sumTo a cs q := by
  unfold sumTo
  rw [List.range_succ, List.foldl_append]
  rfl
def cnt (a : A) : Nat → List Int → Int
  | 0, cs => sumTo a cs a.next.length
  | m + 1, cs => sumTo a cs a.next.length + cnt a m (stepTo a cs a.next.length)
theorem cnt_down {a : A} {cs : List Int} {m T : Int} (h : 0 ≤ m) : (if m - 1 < 0 then T + sumTo a cs a.next.length else T + sumTo a cs a.next.length + cnt a (m - 1).toNat (stepTo a cs a.next.length)) = T + cnt a m.toNat cs := by
  by_cases h1 : m - 1 < 0
  · rw [if_pos h1, show m.toNat = 0 by omega, cnt]
  · rw [if_neg h1, show m.toNat = (m - 1).toNat + 1 by omega, cnt]
    omega
def start (a : A) : List Int := (List.replicate a.next.length (0 : Int)).set 0 1
def count (a : A) (n : Int) : Int := if validA a = true ∧ 0 ≤ n ∧ n ≤ 7 then cnt a n.toNat (start a) else -1

theorem Own.rep {w : World} {B : Nat} {e : TypeId} {v : Value} {n : Nat} (h : Own w B e v (List.replicate n (Value.int .i64 0))) : Own w B e v ((List.replicate n (0 : Int)).map (Value.int .i64)) := by rw [List.map_replicate]; exact h

theorem Own.startI {w : World} {B B' : Nat} {e : TypeId} {v : Value} {a : A} (h : Own w B e v ((List.replicate a.next.length (Value.int .i64 0)).set 0 (Value.int .i64 1))) (hB : B' ≤ B) : Own w B' e v ((start a).map (Value.int .i64)) := by
  unfold start
  rw [List.map_set, List.map_replicate]
  exact h.mono hB

/-! bounds -/
def InB (v : List Int) (b : Int) : Prop := ∀ x ∈ v, 0 ≤ x ∧ x ≤ b
theorem InB.at {v : List Int} {b : Int} (h : InB v b) (hb : 0 ≤ b) (k : Nat) : 0 ≤ v.getD k 0 ∧ v.getD k 0 ≤ b := by
  rcases Nat.lt_or_ge k v.length with hk | hk
  · exact h _ (getD_mem hk)
  · simp [hk, hb]
theorem InB.mono {v : List Int} {b b' : Int} (h : InB v b) (hb : b ≤ b') : InB v b' := fun x hx => ⟨(h x hx).1, Int.le_trans (h x hx).2 hb⟩
theorem InB.add {v : List Int} {b c m : Int} (h : InB v b) (hb : 0 ≤ b) (hc : 0 ≤ c ∧ c ≤ m) (k : Nat) : InB (v.set k (v.getD k 0 + c)) (b + m) := by
  intro x hx
  have hv := h.at hb k
  rcases List.mem_or_eq_of_mem_set hx with h1 | h1
  · have := h x h1; omega
  · subst h1; omega
theorem InB.addTo {row v : List Int} {c b m : Int} (hv : InB v b) (hb : 0 ≤ b) (hc : 0 ≤ c ∧ c ≤ m) (k : Nat) (hk : k ≤ row.length) : InB (addTo row c k v) (b + k * m) := by
  induction k with
  | zero => simpa [addTo_zero] using hv
  | succ k ih =>
    rw [addTo_succ (by omega)]
    have h1 := ih (by omega)
    have hm : 0 ≤ (k : Int) * m := Int.mul_nonneg (by omega) (by omega)
    have := InB.add h1 (by omega) hc (row.getD k 0).toNat
    rw [show b + ((k + 1 : Nat) : Int) * m = b + (k : Int) * m + m by rw [Int.natCast_add, Int.add_mul]; omega]
    exact this
theorem InB.stepTo {a : A} {cs : List Int} {m : Int} (hv : validA a = true) (h : InB cs m) (hm : 0 ≤ m) (q : Nat) : InB (stepTo a cs q) (q * (6 * m)) := by
  induction q with
  | zero => intro x hx; rw [stepTo_zero] at hx; have := List.eq_of_mem_replicate hx; omega
  | succ q ih =>
    rw [stepTo_succ]
    have h0 : 0 ≤ (q : Int) * (6 * m) := Int.mul_nonneg (by omega) (by omega)
    have h1 := InB.addTo ih h0 (h.at hm q) (a.next.getD q []).length (Nat.le_refl _)
    have h6 := valid_row6 hv (k := q)
    have h2 : (((a.next.getD q []).length : Nat) : Int) * m ≤ 6 * m := Int.mul_le_mul_of_nonneg_right (by omega) hm
    refine h1.mono ?_
    rw [Int.natCast_add, Int.add_mul]
    omega
theorem sumTo_in {a : A} {cs : List Int} {m : Int} (h : InB cs m) (hm : 0 ≤ m) (q : Nat) : 0 ≤ sumTo a cs q ∧ sumTo a cs q ≤ q * m := by
  induction q with
  | zero => exact ⟨Int.le_refl _, by simp [sumTo]⟩
  | succ q ih =>
    rw [sumTo_succ, Int.natCast_add, Int.add_mul]
    have := h.at hm q
    split <;> omega

theorem pow72 {i : Nat} (h : i ≤ 7) : 1 ≤ (72 : Int) ^ i ∧ (72 : Int) ^ i ≤ 10030613004288 := by
  have h1 : (72 : Nat) ^ i ≤ 72 ^ 7 := Nat.pow_le_pow_right (by decide) h
  have h2 : 1 ≤ (72 : Nat) ^ i := Nat.pow_pos (by decide)
  have h3 : (((72 : Nat) ^ i : Nat) : Int) ≤ ((72 ^ 7 : Nat) : Int) := Int.ofNat_le.2 h1
  have h4 : ((1 : Nat) : Int) ≤ (((72 : Nat) ^ i : Nat) : Int) := Int.ofNat_le.2 h2
  rw [Int.natCast_pow] at h3 h4
  exact ⟨h4, h3⟩
theorem cnt_room {a : A} {cs : List Int} {i q k : Nat} (hv : validA a = true) (h : InB cs (72 ^ i)) (hi : i ≤ 7) (hq : q ≤ 12) (hk : k ≤ (a.next.getD q []).length) (t : Nat) :
    (0 ≤ (addTo (a.next.getD q []) (cs.getD q 0) k (stepTo a cs q)).getD t 0 ∧ (addTo (a.next.getD q []) (cs.getD q 0) k (stepTo a cs q)).getD t 0 ≤ 1000000000000000000) ∧ 0 ≤ cs.getD q 0 ∧ cs.getD q 0 ≤ 1000000000000000 := by
  have hp := pow72 hi
  have h0 := h.at (by omega) q
  have h1 := InB.stepTo hv h (by omega) q
  have hq0 : 0 ≤ (q : Int) * (6 * 72 ^ i) := Int.mul_nonneg (by omega) (by omega)
  have h2 := InB.addTo h1 hq0 h0 k hk
  have h6 := valid_row6 hv (k := q)
  have hk0 : 0 ≤ (k : Int) * 72 ^ i := Int.mul_nonneg (by omega) (by omega)
  have h3 := h2.at (by omega) t
  have h4 : (q : Int) * (6 * 72 ^ i) ≤ 12 * (6 * 72 ^ i) := Int.mul_le_mul_of_nonneg_right (by omega) (by omega)
  have h5 : (k : Int) * 72 ^ i ≤ 6 * 72 ^ i := Int.mul_le_mul_of_nonneg_right (by omega) (by omega)
  generalize (72 : Int) ^ i = M at *
  exact ⟨⟨h3.1, by omega⟩, h0.1, by omega⟩
theorem cnt_next {a : A} {cs : List Int} {i : Nat} {T : Int} (hv : validA a = true) (h : InB cs (72 ^ i)) (hi : i ≤ 7) (hT : 0 ≤ T ∧ T ≤ 72 ^ i) :
    InB (stepTo a cs a.next.length) (72 ^ (i + 1)) ∧ 0 ≤ T + sumTo a cs a.next.length ∧ T + sumTo a cs a.next.length ≤ 72 ^ (i + 1) := by
  have hp := pow72 hi
  have hn := (validA_spec.1 hv).2.1
  have h1 := InB.stepTo hv h (by omega) a.next.length
  have h2 := sumTo_in (a := a) h (by omega) a.next.length
  have h3 : ((a.next.length : Nat) : Int) * (6 * 72 ^ i) ≤ 12 * (6 * 72 ^ i) := Int.mul_le_mul_of_nonneg_right (by omega) (by omega)
  have h4 : ((a.next.length : Nat) : Int) * 72 ^ i ≤ 12 * 72 ^ i := Int.mul_le_mul_of_nonneg_right (by omega) (by omega)
  rw [Int.pow_succ]
  refine ⟨h1.mono (by omega), ?_⟩
  generalize (72 : Int) ^ i = M at *
  omega
theorem sum_room {a : A} {cs : List Int} {i : Nat} {T : Int} (h : InB cs (72 ^ i)) (hi : i ≤ 7) (hT : 0 ≤ T ∧ T ≤ 72 ^ i) {q : Nat} (hq : q ≤ 12) : 0 ≤ T + sumTo a cs q ∧ T + sumTo a cs q ≤ 1000000000000000 := by
  have hp := pow72 hi
  have h2 := sumTo_in (a := a) h (by omega) q
  have h4 : (q : Int) * 72 ^ i ≤ 12 * 72 ^ i := Int.mul_le_mul_of_nonneg_right (by omega) (by omega)
  generalize (72 : Int) ^ i = M at *
  omega
theorem start_in {a : A} : InB (start a) (72 ^ 0) := by
  intro x hx
  rcases List.mem_or_eq_of_mem_set hx with h | h
  · have := List.eq_of_mem_replicate h
    subst this
    decide
  · subst h
    decide
theorem start_length (a : A) : (start a).length = a.next.length := by simp [start]
theorem count_good {a : A} {n : Int} (hv : validA a = true) (hn : 0 ≤ n ∧ n ≤ 7) : count a n = cnt a n.toNat (start a) := if_pos ⟨hv, hn⟩
theorem count_bad {a : A} {n : Int} (h : ¬ (validA a = true ∧ 0 ≤ n ∧ n ≤ 7)) : count a n = -1 := if_neg h

/-! the count, as a weighted sum -/
def dot : List Int → (Nat → Int) → Int
  | [], _ => 0
  | x :: xs, f => x * f 0 + dot xs fun i => f (i + 1)
theorem dot_set {v : List Int} {f : Nat → Int} {t : Nat} {c : Int} (h : t < v.length) : dot (v.set t (v.getD t 0 + c)) f = dot v f + c * f t := by
  induction v generalizing f t with
  | nil => simp at h
  | cons x v ih =>
    cases t with
    | zero => simp [dot, Int.add_mul]; omega
    | succ t =>
      have := ih (f := fun i => f (i + 1)) (t := t) (by simpa using h)
      simp only [List.set_cons_succ, dot, List.getD_cons_succ, this]
      omega
theorem dot_snoc (v : List Int) (f : Nat → Int) (x : Int) : dot (v ++ [x]) f = dot v f + x * f v.length := by
  induction v generalizing f with
  | nil => simp [dot]
  | cons y v ih => simp only [List.cons_append, dot, ih, List.length_cons]; omega
theorem dot_add (v : List Int) (f g : Nat → Int) : dot v f + dot v g = dot v fun i => f i + g i := by
  induction v generalizing f g with
  | nil => rfl
  | cons x v ih => simp only [dot, ← ih, Int.mul_add]; omega
theorem dot_congr {v : List Int} {f g : Nat → Int} (h : ∀ i, i < v.length → f i = g i) : dot v f = dot v g := by
  induction v generalizing f g with
  | nil => rfl
  | cons x v ih =>
    simp only [dot]
    rw [h 0 (by simp), ih fun i hi => h (i + 1) (by simpa using hi)]
theorem dot_mono {v : List Int} {f g : Nat → Int} (hv : ∀ x ∈ v, 0 ≤ x) (h : ∀ i, i < v.length → f i ≤ g i) : dot v f ≤ dot v g := by
  induction v generalizing f g with
  | nil => exact Int.le_refl _
  | cons x v ih =>
    simp only [dot]
    have h1 := Int.mul_le_mul_of_nonneg_left (h 0 (by simp)) (hv x (by simp))
    have h2 := ih (fun y hy => hv y (by simp [hy])) fun i hi => h (i + 1) (by simpa using hi)
    omega
theorem dot_replicate (n : Nat) (f : Nat → Int) : dot (List.replicate n 0) f = 0 := by
  induction n generalizing f with
  | zero => rfl
  | succ n ih => simp only [List.replicate_succ, dot, ih]; simp
/-- How many words of at most m letters are accepted from a state. -/
def wAcc (a : A) : Nat → Nat → Int
  | 0, q => if a.acc.getD q false then 1 else 0
  | m + 1, q => (if a.acc.getD q false then 1 else 0) + ((a.next.getD q []).map fun t => wAcc a m t.toNat).sum
theorem dot_addTo {row v : List Int} {c : Int} {f : Nat → Int} (h : ∀ t ∈ row, t.toNat < v.length) (k : Nat) (hk : k ≤ row.length) : dot (addTo row c k v) f = dot v f + c * ((row.take k).map fun t => f t.toNat).sum := by
  induction k with
  | zero => simp [addTo_zero]
  | succ k ih =>
    rw [addTo_succ (by omega), dot_set (by rw [addTo_length]; exact h _ (getD_mem (by omega))), ih (by omega), take_snoc 0 (by omega), List.map_append, List.sum_append]
    simp [Int.mul_add]
    omega
theorem dot_stepTo {a : A} {cs : List Int} {f : Nat → Int} (hv : validA a = true) (hl : cs.length = a.next.length) (q : Nat) (hq : q ≤ a.next.length) :
    dot (stepTo a cs q) f = dot (cs.take q) fun i => ((a.next.getD i []).map fun t => f t.toNat).sum := by
  induction q with
  | zero => simp [stepTo_zero, dot_replicate, dot]
  | succ q ih =>
    have hr := rowOk_at (validA_rows hv) (k := q) (by omega)
    rw [stepTo_succ, dot_addTo (fun t ht => by rw [stepTo_length]; have := hr.2 t ht; omega) _ (Nat.le_refl _), ih (by omega), take_snoc 0 (by omega), dot_snoc, List.take_of_length_le (Nat.le_refl _)]
    have hm : min q cs.length = q := by omega
    simp [hm]
theorem dot_sumTo {a : A} {cs : List Int} (hl : cs.length = a.next.length) (q : Nat) (hq : q ≤ a.next.length) : sumTo a cs q = dot (cs.take q) (wAcc a 0) := by
  induction q with
  | zero => simp [sumTo, dot]
  | succ q ih =>
    have hlen : (cs.take q).length = q := by simp; omega
    rw [sumTo_succ, ih (by omega), take_snoc 0 (by omega), dot_snoc, hlen]
    unfold wAcc
    split <;> simp
theorem cnt_dot {a : A} (hv : validA a = true) (m : Nat) (cs : List Int) (hl : cs.length = a.next.length) : cnt a m cs = dot cs (wAcc a m) := by
  have ht : cs.take a.next.length = cs := List.take_of_length_le (by omega)
  induction m generalizing cs with
  | zero =>
    unfold cnt
    rw [dot_sumTo hl _ (Nat.le_refl _), ht]
  | succ m ih =>
    unfold cnt
    rw [ih _ (stepTo_length _ _ _) (List.take_of_length_le (by rw [stepTo_length]; exact Nat.le_refl _)), dot_stepTo hv hl _ (Nat.le_refl _), dot_sumTo hl _ (Nat.le_refl _), ht, dot_add]
    rfl
theorem wAcc_nonneg (a : A) (m q : Nat) : 0 ≤ wAcc a m q := by
  induction m generalizing q with
  | zero => unfold wAcc; split <;> omega
  | succ m ih =>
    unfold wAcc
    have : ∀ l : List Int, 0 ≤ (l.map fun t => wAcc a m t.toNat).sum := by
      intro l
      induction l with
      | nil => simp
      | cons t l ihl => rw [List.map_cons, List.sum_cons]; have := ih t.toNat; omega
    have := this (a.next.getD q [])
    split <;> omega
theorem wAcc_dead {a : A} (hv : validA a = true) {q : Nat} (hq : q < a.next.length) (hac : a.acc.getD q false = false) (m : Nat) : wAcc (safe a) m q = 0 := by
  have e : (safe a).acc = a.acc := rfl
  induction m with
  | zero => unfold wAcc; rw [e, hac]; rfl
  | succ m ih =>
    unfold wAcc
    rw [e, hac, safe_at hq]
    unfold safeRow
    rw [hac]
    simp only [Bool.false_eq_true, if_false, List.map_map]
    have : ∀ l : List Int, (l.map ((fun t : Int => wAcc (safe a) m t.toNat) ∘ fun _ => (q : Int))).sum = 0 := by
      intro l
      induction l with
      | nil => rfl
      | cons t l ihl => rw [List.map_cons, List.sum_cons, ihl]; simp [ih]
    rw [this]
    rfl
theorem wAcc_safe {a : A} (hv : validA a = true) (m : Nat) {q : Nat} (hq : q < a.next.length) : wAcc (safe a) m q ≤ wAcc a m q := by
  have e : (safe a).acc = a.acc := rfl
  cases hac : a.acc.getD q false with
  | false => rw [wAcc_dead hv hq hac]; exact wAcc_nonneg _ _ _
  | true =>
    induction m generalizing q with
    | zero => unfold wAcc; rw [e]; exact Int.le_refl _
    | succ m ih =>
      unfold wAcc
      rw [e, safe_at hq]
      unfold safeRow
      rw [hac]
      simp only [if_true]
      have hr := (rowOk_at (validA_rows hv) hq).2
      have : ∀ l : List Int, (∀ t ∈ l, 0 ≤ t ∧ t < a.next.length) → (l.map fun t => wAcc (safe a) m t.toNat).sum ≤ (l.map fun t => wAcc a m t.toNat).sum := by
        intro l hl
        induction l with
        | nil => exact Int.le_refl _
        | cons t l ihl =>
          rw [List.map_cons, List.map_cons, List.sum_cons, List.sum_cons]
          have h1 := ihl fun u hu => hl u (by simp [hu])
          have ht := hl t (by simp)
          have h2 : wAcc (safe a) m t.toNat ≤ wAcc a m t.toNat := by
            cases hc : a.acc.getD t.toNat false with
            | false => rw [wAcc_dead hv (by omega) hc]; exact wAcc_nonneg _ _ _
            | true => exact ih (by omega) hc
          omega
      have := this _ hr
      omega
theorem count_safe {a : A} (hv : validA a = true) {n : Int} (hn : 0 ≤ n ∧ n ≤ 7) : count (safe a) n ≤ count a n := by
  unfold count
  rw [if_pos ⟨safe_valid hv, hn⟩, if_pos ⟨hv, hn⟩]
  have hs : start (safe a) = start a := by unfold start; rw [safe_len]
  have hl : (start a).length = a.next.length := by simp [start]
  rw [hs, cnt_dot (safe_valid hv) _ _ (by rw [safe_len]; exact hl), cnt_dot hv _ _ hl]
  refine dot_mono (fun x hx => ?_) fun i hi => wAcc_safe hv _ (by omega)
  rcases List.mem_or_eq_of_mem_set hx with h | h
  · have := List.eq_of_mem_replicate h; omega
  · omega
end Go.Proofs.Ytdkdpmmfebdeaaa
