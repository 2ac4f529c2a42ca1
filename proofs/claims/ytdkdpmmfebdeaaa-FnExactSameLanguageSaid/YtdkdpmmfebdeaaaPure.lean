/-
  Plain mathematics of letters, words and automata: no program in sight.
-/
import Derived.Test.YtdkdpmmfebdeaaaOps
set_option linter.unusedSimpArgs false
set_option linter.unusedVariables false
namespace Go.Proofs.Ytdkdpmmfebdeaaa

/-- An automaton, as data. -/
structure A where
  al : Int
  next : List (List Int)
  acc : List Bool

def lettersTo (al : Int) (k : Nat) : List Int := ((List.range k).map fun (i : Nat) => (i : Int)).filter (hs al)
def letters (al : Int) : List Int := lettersTo al 6
theorem lettersTo_zero (al : Int) : lettersTo al 0 = [] := rfl
theorem lettersTo_T {al : Int} {k : Nat} (h : hs al k = true) : lettersTo al (k + 1) = lettersTo al k ++ [(k : Int)] := by
  simp [lettersTo, List.range_succ, h]
theorem lettersTo_F {al : Int} {k : Nat} (h : hs al k = false) : lettersTo al (k + 1) = lettersTo al k := by
  simp [lettersTo, List.range_succ, h]
theorem lettersTo_length (al : Int) (k : Nat) : (lettersTo al k).length ≤ k := by
  have := List.length_filter_le (hs al) ((List.range k).map fun (i : Nat) => (i : Int))
  simpa [lettersTo] using this
theorem letters_len6 (al : Int) : (letters al).length ≤ 6 := lettersTo_length al 6
theorem toNat_succ {k : Int} (h : 0 ≤ k) : (k + 1).toNat = k.toNat + 1 := by omega

/-! lists, place by place -/
section
variable {α : Type} {l : List α} {p : α → Bool} {d : α} {k : Nat}
theorem take_snoc (d : α) (h : k < l.length) : l.take (k + 1) = l.take k ++ [l.getD k d] := by
  rw [List.take_succ_eq_append_getElem h]; simp [h]
theorem all_snoc (hp : (l.take k).all p = true) (h : k < l.length) (hk : p (l.getD k d) = true) : (l.take (k + 1)).all p = true := by
  rw [take_snoc d h, List.all_append, hp]; simpa using hk
theorem all_bad (h : k < l.length) (hk : p (l.getD k d) = false) : l.all p = false := by
  rw [List.all_eq_false]
  exact ⟨l[k], List.getElem_mem h, by simp [h] at hk; simp [hk]⟩
theorem all_done (hp : (l.take k).all p = true) (h : l.length ≤ k) : l.all p = true := by rwa [List.take_of_length_le h] at hp
end

theorem take_eq_snoc {α : Type} {xs ys : List α} {k : Nat} (d : α) (hl : xs.length = ys.length) (hp : xs.take k = ys.take k) (h : k < xs.length) (he : xs.getD k d = ys.getD k d) : xs.take (k + 1) = ys.take (k + 1) := by
  rw [take_snoc d h, take_snoc d (by omega), hp, he]
theorem beq_len {α : Type} [BEq α] [LawfulBEq α] {xs ys : List α} (h : xs.length ≠ ys.length) : (xs == ys) = false := by
  rw [beq_eq_false_iff_ne]; rintro rfl; exact h rfl
theorem beq_at {α : Type} [BEq α] [LawfulBEq α] {xs ys : List α} {k : Nat} (d : α) (h : xs.getD k d ≠ ys.getD k d) : (xs == ys) = false := by
  rw [beq_eq_false_iff_ne]; rintro rfl; exact h rfl
theorem beq_done {α : Type} [BEq α] [LawfulBEq α] {xs ys : List α} {k : Nat} (hp : xs.take k = ys.take k) (h : xs.length ≤ k) (h' : ys.length ≤ k) : (xs == ys) = true := by
  rw [List.take_of_length_le h, List.take_of_length_le h'] at hp
  rw [hp]; exact beq_self_eq_true _

theorem getD_mem {α : Type} {l : List α} {d : α} {k : Nat} (h : k < l.length) : l.getD k d ∈ l := by simp [h]
def inB (n q : Int) : Bool := decide (0 ≤ q ∧ q < n)
theorem inB_T {n q : Int} (h : 0 ≤ q ∧ q < n) : inB n q = true := decide_eq_true h
theorem inB_F {n q : Int} (h : q < 0 ∨ n ≤ q) : inB n q = false := decide_eq_false (by omega)
def rowOk (m n : Int) (row : List Int) : Bool := decide ((row.length : Int) = m) && row.all (inB n)
theorem rowOk_len {m n : Int} {row : List Int} (h : (row.length : Int) ≠ m) : rowOk m n row = false := by simp [rowOk, h]
theorem rowOk_bad {m n : Int} {row : List Int} (_ : (row.length : Int) = m) {k : Nat} (hk : k < row.length) (hb : inB n (row.getD k 0) = false) : rowOk m n row = false := by
  simp only [rowOk, all_bad hk hb, Bool.and_false]
theorem rowOk_good {m n : Int} {row : List Int} (h : (row.length : Int) = m) {k : Nat} (hp : (row.take k).all (inB n) = true) (hk : row.length ≤ k) : rowOk m n row = true := by
  simp only [rowOk, h, all_done hp hk, Bool.and_true, decide_true]

def validA (a : A) : Bool := decide (0 ≤ a.al ∧ a.al ≤ 63) && (decide (1 ≤ (a.next.length : Int) ∧ (a.next.length : Int) ≤ 12) && (decide ((a.acc.length : Int) = a.next.length) && a.next.all (rowOk (letters a.al).length a.next.length)))
theorem validA_al {a : A} (h : ¬ (0 ≤ a.al ∧ a.al ≤ 63)) : validA a = false := by simp only [validA, decide_eq_false h, Bool.false_and]
theorem validA_n {a : A} (h : ¬ (1 ≤ (a.next.length : Int) ∧ (a.next.length : Int) ≤ 12)) : validA a = false := by simp only [validA, decide_eq_false h, Bool.false_and, Bool.and_false]
theorem validA_acc {a : A} (h : ¬ ((a.acc.length : Int) = a.next.length)) : validA a = false := by simp only [validA, decide_eq_false h, Bool.false_and, Bool.and_false]
theorem validA_row {a : A} {k : Nat} (h : k < a.next.length) (hb : rowOk (letters a.al).length a.next.length (a.next.getD k []) = false) : validA a = false := by simp only [validA, all_bad h hb, Bool.and_false]
theorem validA_good {a : A} {k : Nat} (h1 : 0 ≤ a.al ∧ a.al ≤ 63) (h2 : 1 ≤ (a.next.length : Int) ∧ (a.next.length : Int) ≤ 12) (h3 : (a.acc.length : Int) = a.next.length) (hp : (a.next.take k).all (rowOk (letters a.al).length a.next.length) = true) (hk : a.next.length ≤ k) : validA a = true := by
  simp only [validA, decide_eq_true h1, decide_eq_true h2, decide_eq_true h3, all_done hp hk, Bool.and_self]


/-- The automaton is of a size that a machine bears. -/
def Fit (a : A) : Prop := (-9223372036854775808 ≤ a.al ∧ a.al ≤ 9223372036854775807) ∧ a.next.length ≤ 100000000 ∧ a.acc.length ≤ 100000000 ∧ ∀ row ∈ a.next, row.length ≤ 100000000
theorem Fit.row {a : A} (h : Fit a) {k : Nat} : (a.next.getD k []).length ≤ 1000000000 := by
  rcases Nat.lt_or_ge k a.next.length with hk | hk
  · have := h.2.2.2 _ (List.getElem_mem hk)
    simp [hk]; omega
  · simp [hk]
theorem Fit.acc {a : A} (h : Fit a) : a.acc.length ≤ 1000000000 := by have := h.2.2.1; omega

def zeroA : A := ⟨0, [], []⟩
theorem validA_spec {a : A} : validA a = true ↔ (0 ≤ a.al ∧ a.al ≤ 63) ∧ (1 ≤ a.next.length ∧ a.next.length ≤ 12) ∧ a.acc.length = a.next.length ∧ ∀ row ∈ a.next, row.length = (letters a.al).length ∧ ∀ q ∈ row, 0 ≤ q ∧ q < (a.next.length : Int) := by
  simp only [validA, rowOk, inB, Bool.and_eq_true, decide_eq_true_eq, List.all_eq_true]
  constructor
  · rintro ⟨h1, h2, h3, h4⟩
    exact ⟨h1, by omega, by omega, fun row hr => ⟨by have := (h4 row hr).1; omega, (h4 row hr).2⟩⟩
  · rintro ⟨h1, h2, h3, h4⟩
    exact ⟨h1, by omega, by omega, fun row hr => ⟨by have := (h4 row hr).1; omega, (h4 row hr).2⟩⟩
theorem fit_of_valid {a : A} (h : validA a = true) : Fit a := by
  obtain ⟨h1, h2, h3, h4⟩ := validA_spec.1 h
  refine ⟨by omega, by omega, by omega, fun row hr => ?_⟩
  have := (h4 row hr).1
  have := letters_len6 a.al
  omega

/-! complements -/
def complTo (xs : List Bool) (k : Nat) : List Bool := (xs.take k).map (!·) ++ xs.drop k
theorem complTo_zero (xs : List Bool) : complTo xs 0 = xs := by simp [complTo]
theorem complTo_length (xs : List Bool) (k : Nat) : (complTo xs k).length = xs.length := by simp [complTo]; omega
theorem complTo_done {xs : List Bool} {k : Nat} (h : xs.length ≤ k) : complTo xs k = xs.map (!·) := by simp [complTo, List.take_of_length_le h, List.drop_of_length_le h]
theorem complTo_step {xs : List Bool} {k : Nat} (h : k < xs.length) : (complTo xs k).set k (!((complTo xs k).getD k false)) = complTo xs (k + 1) := by
  have hl : ((xs.take k).map (!·)).length = k := by simp; omega
  have e1 : (complTo xs k).getD k false = xs[k] := by
    rw [List.getD_eq_getElem?_getD, complTo, List.getElem?_append_right (by omega), hl, Nat.sub_self, List.getElem?_drop]
    simp [h]
  rw [e1]
  have e2 : complTo xs (k + 1) = ((xs.take k).map (!·) ++ [!xs[k]]) ++ xs.drop (k + 1) := by
    rw [complTo, List.take_succ_eq_append_getElem h, List.map_append]; rfl
  rw [e2, complTo, List.set_append_right _ _ (by omega), hl, Nat.sub_self, List.drop_eq_getElem_cons h, List.set_cons_zero, List.append_assoc]
  rfl
def compl (a : A) : A := ⟨a.al, a.next, a.acc.map (!·)⟩

def eqA (a b : A) : Bool := a.al == b.al && (a.next == b.next && a.acc == b.acc)
theorem eqA_iff {a b : A} : eqA a b = true ↔ a = b := by
  obtain ⟨al, nx, ac⟩ := a
  obtain ⟨al', nx', ac'⟩ := b
  simp [eqA]
theorem eqA_refl (a : A) : eqA a a = true := eqA_iff.2 rfl
theorem eqA_al {a b : A} (h : a.al ≠ b.al) : eqA a b = false := by simp [eqA, h]
theorem eqA_len {a b : A} (h : a.next.length ≠ b.next.length) : eqA a b = false := by simp [eqA, beq_len h]
theorem eqA_acc {a b : A} (h : (a.acc == b.acc) = false) : eqA a b = false := by simp [eqA, h]
theorem eqA_row {a b : A} {k : Nat} (h : a.next.getD k [] ≠ b.next.getD k []) : eqA a b = false := by simp [eqA, beq_at [] h]
theorem eqA_good {a b : A} {k : Nat} (h1 : a.al = b.al) (h2 : a.next.length = b.next.length) (h3 : (a.acc == b.acc) = true) (hp : a.next.take k = b.next.take k) (hk : a.next.length ≤ k) : eqA a b = true := by
  simp only [eqA, h1, h3, beq_done hp hk (by omega), beq_self_eq_true, Bool.and_self]

/-! texts of alphabets -/
def chr (x : Int) : ByteArray := ⟨#[UInt8.ofNat (97 + x).toNat]⟩
theorem chr_size (x : Int) : (chr x).size = 1 := rfl
def fmtTo (al : Int) (k : Nat) : ByteArray := ((letters al).take k).foldl (fun s x => s ++ chr x) ⟨#[]⟩
theorem fmtTo_succ {al : Int} {k : Nat} (h : k < (letters al).length) : fmtTo al (k + 1) = fmtTo al k ++ chr ((letters al).getD k 0) := by
  rw [fmtTo, take_snoc 0 h, List.foldl_append]
  rfl
theorem fmtTo_size (al : Int) (k : Nat) : (fmtTo al k).size ≤ k := by
  have : ∀ (l : List Int) (s : ByteArray), (l.foldl (fun s x => s ++ chr x) s).size = s.size + l.length := by
    intro l
    induction l with
    | nil => intro s; simp
    | cons x l ih =>
      intro s
      rw [List.foldl_cons, ih, ByteArray.size_append, chr_size, List.length_cons]
      omega
  rw [fmtTo, this, List.length_take]
  show 0 + _ ≤ _
  omega
theorem letters_at (al : Int) {k : Nat} (h : k < (letters al).length) : 0 ≤ (letters al).getD k 0 ∧ (letters al).getD k 0 < 6 := by
  have h1 := getD_mem (d := 0) h
  generalize (letters al).getD k 0 = y at *
  simp only [letters, lettersTo, List.mem_filter, List.mem_map, List.mem_range] at h1
  obtain ⟨⟨i, hi, rfl⟩, _⟩ := h1
  omega
def fmtAl (al : Int) : ByteArray := if 0 ≤ al ∧ al ≤ 63 then if al = 0 then ⟨#[45]⟩ else fmtTo al (letters al).length else ⟨#[]⟩
theorem fmtAl_bad {al : Int} (h : ¬ (0 ≤ al ∧ al ≤ 63)) : fmtAl al = ⟨#[]⟩ := if_neg h
theorem fmtAl_zero {al : Int} (h : al = 0) : fmtAl al = ⟨#[45]⟩ := by subst h; rfl
theorem fmtAl_good {al : Int} (h : 0 ≤ al ∧ al ≤ 63) (h0 : al ≠ 0) {k : Nat} (hk : k = (letters al).length) : fmtAl al = fmtTo al k := by rw [fmtAl, if_pos h, if_neg h0, hk]
theorem fmtAl_size (al : Int) : (fmtAl al).size ≤ 6 := by
  unfold fmtAl
  split
  · split
    · show 1 ≤ 6; omega
    · exact Nat.le_trans (fmtTo_size al _) (letters_len6 al)
  · show 0 ≤ 6; omega

end Go.Proofs.Ytdkdpmmfebdeaaa
