/-
  Plain mathematics of first words by distances: the nearest goal, letter by letter the least that comes nearer. No program in sight.
-/
import Derived.Test.YtdkdpmmfebdeaaaSearch
set_option linter.unusedSimpArgs false
set_option linter.unusedVariables false
namespace Go.Proofs.Ytdkdpmmfebdeaaa

section
variable {α : Type}
/-- Some word of just n letters leads from q to a goal. -/
def lev (f : α → Int → α) (L : List Int) (G : α → Bool) : Nat → α → Bool
  | 0, q => G q
  | n + 1, q => L.any fun l => lev f L G n (f q l)
variable {f : α → Int → α} {L : List Int} {G : α → Bool}
theorem lev_iff : ∀ {n : Nat} {q : α}, lev f L G n q = true ↔ ∃ w : List Int, w.length = n ∧ (∀ x ∈ w, x ∈ L) ∧ G (nodeOf f q w) = true
  | 0, q => by
    constructor
    · intro h; exact ⟨[], rfl, by simp, h⟩
    · rintro ⟨w, hw, _, h⟩
      obtain rfl := List.eq_nil_of_length_eq_zero hw
      exact h
  | n + 1, q => by
    rw [lev, List.any_eq_true]
    constructor
    · rintro ⟨l, hl, h⟩
      obtain ⟨w, h1, h2, h3⟩ := lev_iff.1 h
      exact ⟨l :: w, by simp [h1], fun x hx => (List.mem_cons.1 hx).elim (fun h => h ▸ hl) (h2 x), h3⟩
    · rintro ⟨w, hw, hx, h⟩
      cases w with
      | nil => simp at hw
      | cons l w => exact ⟨l, hx l (by simp), lev_iff.2 ⟨w, by simpa using hw, fun x h => hx x (by simp [h]), h⟩⟩
/-- The distance to the next goal, if it is at most d; else -1. -/
def disTo (f : α → Int → α) (L : List Int) (G : α → Bool) (d : Nat) (q : α) : Int := match (List.range (d + 1)).find? (fun n => lev f L G n q) with
  | some n => (n : Int)
  | none => -1
theorem find_range {p : Nat → Bool} {d n : Nat} : (List.range (d + 1)).find? p = some n ↔ n ≤ d ∧ p n = true ∧ ∀ m, m < n → p m = false := by
  rw [List.find?_range_eq_some]
  simp only [List.mem_range, Bool.not_eq_eq_eq_not, Bool.not_true]
  constructor
  · rintro ⟨h1, h2, h3⟩; exact ⟨by omega, h1, h3⟩
  · rintro ⟨h1, h2, h3⟩; exact ⟨h2, by omega, h3⟩
theorem disTo_eq {d n : Nat} {q : α} : disTo f L G d q = (n : Int) ↔ n ≤ d ∧ lev f L G n q = true ∧ ∀ m, m < n → lev f L G m q = false := by
  unfold disTo
  rw [← find_range (p := fun n => lev f L G n q)]
  cases (List.range (d + 1)).find? (fun n => lev f L G n q) with
  | none => simp
  | some m =>
    constructor
    · intro h
      have : m = n := Int.ofNat.inj h
      rw [this]
    · intro h
      rw [Option.some.inj h]
theorem disTo_neg {d : Nat} {q : α} : disTo f L G d q = -1 ↔ ∀ n, n ≤ d → lev f L G n q = false := by
  unfold disTo
  cases h : (List.range (d + 1)).find? (fun n => lev f L G n q) with
  | none =>
    have := List.find?_eq_none.1 h
    simp only [List.mem_range, true_iff]
    intro n hn
    simpa using this n (List.mem_range.2 (by omega))
  | some m =>
    have := (find_range (p := fun n => lev f L G n q)).1 h
    constructor
    · intro hc; simp at hc
    · intro hc
      rw [hc m this.1] at this
      simp at this
theorem disTo_cases (d : Nat) (q : α) : disTo f L G d q = -1 ∨ ∃ n : Nat, disTo f L G d q = (n : Int) ∧ n ≤ d := by
  unfold disTo
  cases h : (List.range (d + 1)).find? (fun n => lev f L G n q) with
  | none => exact .inl rfl
  | some m => exact .inr ⟨m, rfl, ((find_range (p := fun n => lev f L G n q)).1 h).1⟩
theorem disTo_zero {q : α} : disTo f L G 0 q = if G q then 0 else -1 := by
  by_cases h : G q = true
  · rw [if_pos h]
    show disTo f L G 0 q = ((0 : Nat) : Int)
    exact disTo_eq.2 ⟨Nat.le_refl _, h, fun m hm => by omega⟩
  · rw [if_neg h]
    exact disTo_neg.2 fun n hn => by rw [Nat.le_zero.1 hn]; simpa [lev] using h
def near (f : α → Int → α) (L : List Int) (G : α → Bool) (d : Nat) (q : α) : Bool := L.any fun l => decide (disTo f L G d (f q l) = (d : Int))
theorem disTo_old {d : Nat} {q : α} (h : 0 ≤ disTo f L G d q) : disTo f L G (d + 1) q = disTo f L G d q := by
  rcases disTo_cases (f := f) (L := L) (G := G) d q with h1 | ⟨n, h1, h2⟩
  · omega
  · rw [h1]
    have := disTo_eq.1 h1
    exact disTo_eq.2 ⟨by omega, this.2⟩
theorem disTo_new {d : Nat} {q : α} (h : disTo f L G d q < 0) (hn : near f L G d q = true) : disTo f L G (d + 1) q = ((d + 1 : Nat) : Int) := by
  rcases disTo_cases (f := f) (L := L) (G := G) d q with h1 | ⟨n, h1, _⟩
  · have h2 := disTo_neg.1 h1
    obtain ⟨l, hl, h3⟩ := List.any_eq_true.1 hn
    have h4 := disTo_eq.1 (of_decide_eq_true h3)
    exact disTo_eq.2 ⟨Nat.le_refl _, List.any_eq_true.2 ⟨l, hl, h4.2.1⟩, fun m hm => h2 m (by omega)⟩
  · omega
theorem disTo_far {d : Nat} {q : α} (h : disTo f L G d q < 0) (hn : near f L G d q = false) : disTo f L G (d + 1) q = -1 := by
  rcases disTo_cases (f := f) (L := L) (G := G) d q with h1 | ⟨n, h1, _⟩
  · have h2 := disTo_neg.1 h1
    refine disTo_neg.2 fun n hle => ?_
    rcases Nat.lt_or_ge n (d + 1) with h3 | h3
    · exact h2 n (by omega)
    · obtain rfl : n = d + 1 := by omega
      cases hl : lev f L G (d + 1) q with
      | false => rfl
      | true =>
        obtain ⟨l, hl1, hl2⟩ := List.any_eq_true.1 hl
        have : near f L G d q = true := List.any_eq_true.2 ⟨l, hl1, decide_eq_true (disTo_eq.2 ⟨Nat.le_refl _, hl2, fun m hm => by
          cases hm2 : lev f L G m (f q l) with
          | false => rfl
          | true =>
            have h5 : lev f L G (m + 1) q = true := List.any_eq_true.2 ⟨l, hl1, hm2⟩
            rw [h2 (m + 1) (by omega)] at h5
            cases h5⟩)⟩
        rw [hn] at this; cases this
  · omega
/-- Where nothing new comes at d + 1, nothing comes later. -/
theorem lev_stop {P : α → Prop} (hP : ∀ q, P q → ∀ l ∈ L, P (f q l)) {d : Nat} (h : ∀ q, P q → disTo f L G (d + 1) q = disTo f L G d q) : ∀ (n : Nat) (q : α), P q → lev f L G n q = true → ∃ m, m ≤ d ∧ lev f L G m q = true := by
  intro n
  induction n with
  | zero => intro q _ hl; exact ⟨0, Nat.zero_le _, hl⟩
  | succ n ih =>
    intro q hq hl
    obtain ⟨l, hl1, hl2⟩ := List.any_eq_true.1 hl
    obtain ⟨m, hm, hm2⟩ := ih (f q l) (hP q hq l hl1) hl2
    have h5 : lev f L G (m + 1) q = true := List.any_eq_true.2 ⟨l, hl1, hm2⟩
    rcases Nat.lt_or_ge m d with h6 | h6
    · exact ⟨m + 1, by omega, h5⟩
    · obtain rfl : m = d := by omega
      rcases disTo_cases (f := f) (L := L) (G := G) m q with h7 | ⟨k, h7, h8⟩
      · rw [← h q hq] at h7
        rw [disTo_neg.1 h7 (m + 1) (Nat.le_refl _)] at h5
        cases h5
      · exact ⟨k, h8, (disTo_eq.1 h7).2.1⟩
/-- Letter by letter, the least that comes nearer. -/
def gre (f : α → Int → α) (L : List Int) (dis : α → Int) : Nat → α → List Int
  | 0, _ => []
  | n + 1, q => match L.find? (fun l => decide (dis (f q l) = (n : Int))) with
    | some l => l :: gre f L dis n (f q l)
    | none => []
theorem sorted_find {L : List Int} (hL : L.Pairwise (· < ·)) {p : Int → Bool} {l l' : Int} (h : L.find? p = some l) (hl : l' ∈ L) (hp : p l' = true) : l = l' ∨ l < l' := by
  obtain ⟨_, as, bs, e, has⟩ := List.find?_eq_some_iff_append.1 h
  subst e
  rcases List.mem_append.1 hl with h1 | h1
  · have := has l' h1
    rw [hp] at this; cases this
  · rcases List.mem_cons.1 h1 with rfl | h1
    · exact .inl rfl
    · exact .inr ((List.pairwise_cons.1 (List.pairwise_append.1 hL).2.1).1 l' h1)
theorem gre_least (hL : L.Pairwise (· < ·)) {d : Nat} : ∀ (n : Nat) (q : α), disTo f L G d q = (n : Int) → ((gre f L (disTo f L G d) n q).length = n ∧ (∀ x ∈ gre f L (disTo f L G d) n q, x ∈ L) ∧ G (nodeOf f q (gre f L (disTo f L G d) n q)) = true) ∧
    ∀ v : List Int, v.length = n → (∀ x ∈ v, x ∈ L) → G (nodeOf f q v) = true → sle (gre f L (disTo f L G d) n q) v
  | 0, q, h => by
    have h1 := disTo_eq.1 h
    refine ⟨⟨rfl, by simp [gre], h1.2.1⟩, fun v hv _ _ => ?_⟩
    obtain rfl := List.eq_nil_of_length_eq_zero hv
    exact .inl rfl
  | n + 1, q, h => by
    have h1 := disTo_eq.1 h
    have key : ∀ l, l ∈ L → lev f L G n (f q l) = true → disTo f L G d (f q l) = (n : Int) := fun l hl hl2 => disTo_eq.2 ⟨by omega, hl2, fun m hm => by
      cases hm2 : lev f L G m (f q l) with
      | false => rfl
      | true =>
        have h5 : lev f L G (m + 1) q = true := List.any_eq_true.2 ⟨l, hl, hm2⟩
        rw [h1.2.2 (m + 1) (by omega)] at h5
        cases h5⟩
    obtain ⟨l1, hl1, hl2⟩ := List.any_eq_true.1 h1.2.1
    cases hf : L.find? (fun l => decide (disTo f L G d (f q l) = (n : Int))) with
    | none =>
      have := List.find?_eq_none.1 hf l1 hl1
      rw [key l1 hl1 hl2] at this
      simp at this
    | some l =>
      have e : gre f L (disTo f L G d) (n + 1) q = l :: gre f L (disTo f L G d) n (f q l) := by rw [gre, hf]
      have hld : disTo f L G d (f q l) = (n : Int) := by simpa using List.find?_some hf
      obtain ⟨⟨g1, g2, g3⟩, g4⟩ := gre_least hL n (f q l) hld
      rw [e]
      refine ⟨⟨by simp [g1], fun x hx => (List.mem_cons.1 hx).elim (fun h => h ▸ List.mem_of_find?_eq_some hf) (g2 x), g3⟩, fun v hv hx hg => ?_⟩
      cases v with
      | nil => simp at hv
      | cons l' v =>
        have hlv : lev f L G n (f q l') = true := lev_iff.2 ⟨v, by simpa using hv, fun x h => hx x (by simp [h]), hg⟩
        have hl' := hx l' (by simp)
        rcases sorted_find hL hf hl' (decide_eq_true (key l' hl' hlv)) with rfl | hlt
        · rcases g4 v (by simpa using hv) (fun x h => hx x (by simp [h])) hg with h6 | h6
          · exact .inl (by rw [h6])
          · refine .inr (.inr ⟨by simp [g1]; simpa using hv.symm, .inr ⟨rfl, ?_⟩⟩)
            rcases h6 with h6 | h6
            · have : v.length = n := by simpa using hv
              omega
            · exact h6.2
        · exact .inr (.inr ⟨by simp [g1]; simpa using hv.symm, .inl hlt⟩)
/-- By distances comes the first word. -/
theorem first_gre [DecidableEq α] {s : α} (hL : L.Pairwise (· < ·)) (hlen : (ord f s L).length ≤ 200) {P : α → Prop} (hP : ∀ q, P q → ∀ l ∈ L, P (f q l)) (hs : P s) {d : Nat} (h : ∀ q, P q → disTo f L G (d + 1) q = disTo f L G d q) :
    firstOf f s L G = if 0 ≤ disTo f L G d s then some (gre f L (disTo f L G d) (disTo f L G d s).toNat s) else none := by
  rcases disTo_cases (f := f) (L := L) (G := G) d s with h1 | ⟨n, h1, h2⟩
  · rw [if_neg (by omega)]
    refine first_no hL hlen fun v hv => ?_
    cases hg : G (nodeOf f s v) with
    | false => rfl
    | true =>
      obtain ⟨m, hm, hm2⟩ := lev_stop hP h v.length s hs (lev_iff.2 ⟨v, rfl, hv, hg⟩)
      rw [disTo_neg.1 h1 m hm] at hm2
      cases hm2
  · rw [if_pos (by omega), h1, Int.toNat_natCast]
    obtain ⟨⟨g1, g2, g3⟩, g4⟩ := gre_least hL n s h1
    refine first_eq hL hlen g2 g3 fun v hv hg => ?_
    have h3 := disTo_eq.1 h1
    rcases Nat.lt_trichotomy v.length n with h4 | h4 | h4
    · have := h3.2.2 v.length h4
      rw [lev_iff.2 ⟨v, rfl, hv, hg⟩] at this
      cases this
    · exact g4 v h4 hv hg
    · exact .inr (.inl (by omega))
end
end Go.Proofs.Ytdkdpmmfebdeaaa
