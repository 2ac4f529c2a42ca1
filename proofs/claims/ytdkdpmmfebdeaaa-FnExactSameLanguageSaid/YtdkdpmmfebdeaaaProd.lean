/-
  Plain laws of products. No program in sight.
-/
import Derived.Test.YtdkdpmmfebdeaaaBfs
set_option linter.unusedSimpArgs false
set_option linter.unusedVariables false
namespace Go.Proofs.Ytdkdpmmfebdeaaa

theorem orI_comm (m n : Int) : orI m n = orI n m := by unfold orI; rw [Nat.or_comm]
def In2 (a b : A) (p : Int × Int) : Prop := (0 ≤ p.1 ∧ p.1 < a.next.length) ∧ 0 ≤ p.2 ∧ p.2 < b.next.length
def pairs (n m : Nat) : List (Int × Int) := (List.range n).flatMap fun i : Nat => (List.range m).map fun j : Nat => ((i : Int), (j : Int))
theorem pairs_len (n m : Nat) : (pairs n m).length = n * m := by
  unfold pairs
  rw [List.length_flatMap]
  simp only [List.length_map, List.length_range]
  have : ∀ l : List Nat, (l.map fun _ => m).sum = l.length * m := by
    intro l
    induction l with
    | nil => simp
    | cons x l ih => rw [List.map_cons, List.sum_cons, ih, List.length_cons, Nat.add_mul]; omega
  rw [this, List.length_range]
theorem mem_pairs {n m : Nat} {p : Int × Int} : p ∈ pairs n m ↔ (0 ≤ p.1 ∧ p.1 < n) ∧ 0 ≤ p.2 ∧ p.2 < m := by
  unfold pairs
  simp only [List.mem_flatMap, List.mem_map, List.mem_range]
  constructor
  · rintro ⟨i, hi, j, hj, rfl⟩
    exact ⟨⟨by simp, by simpa using hi⟩, by simp, by simpa using hj⟩
  · rintro ⟨⟨h1, h2⟩, h3, h4⟩
    exact ⟨p.1.toNat, by omega, p.2.toNat, by omega, by ext <;> simp <;> omega⟩
theorem in_zero {a b : A} (hv : validA a = true) (hv' : validA b = true) : In2 a b (0, 0) := ⟨zero_in hv, zero_in hv'⟩
theorem in_step {a b : A} (hv : validA a = true) (hv' : validA b = true) {L : Int} : ∀ p, In2 a b p → ∀ l ∈ letters L, In2 a b (step2 a b p l) := fun p hp l hl => in2 hv hv' hp ⟨(mem_letters hl).1, (mem_letters hl).2.1⟩
theorem prod_bfs_len {a b : A} (hv : validA a = true) (hv' : validA b = true) (L : Int) (i : Nat) : (bfs (step2 a b) (0, 0) (letters L) i).length ≤ a.next.length * b.next.length :=
  bfs_len (U := pairs a.next.length b.next.length) (mem_pairs.2 (in_zero hv hv')) (fun q hq l hl => mem_pairs.2 (in_step hv hv' q (mem_pairs.1 hq) l hl)) (by rw [pairs_len]; exact Nat.le_refl _) i
theorem prod_len {a b : A} (hv : validA a = true) (hv' : validA b = true) : (ord2 a b).length ≤ a.next.length * b.next.length := prod_bfs_len hv hv' _ _
theorem le144 {a b : A} (hv : validA a = true) (hv' : validA b = true) : a.next.length * b.next.length ≤ 144 := Nat.mul_le_mul (validA_spec.1 hv).2.1.2 (validA_spec.1 hv').2.1.2
theorem prod_al {a b : A} (hv : validA a = true) (hv' : validA b = true) : 0 ≤ orI a.al b.al ∧ orI a.al b.al ≤ 63 := orI_le (validA_spec.1 hv).1 (validA_spec.1 hv').1
theorem prod_valid {a b : A} {k : Int} (h : prodOk a b k = true) : validA (prodA a b k) = true := by
  obtain ⟨h1, h2, _, h4⟩ := prodOk_spec.1 h
  exact num_valid (prod_al h1 h2) h4
theorem prod_trim {a b : A} {k : Int} (h : prodOk a b k = true) : trim (prodA a b k) = prodA a b k := by
  obtain ⟨h1, h2, _, h4⟩ := prodOk_spec.1 h
  exact trim_num (prod_al h1 h2) (Nat.le_trans h4 (by decide))
theorem prod_states {a b : A} {k : Int} (h : prodOk a b k = true) : (prodA a b k).next.length ≤ a.next.length * b.next.length := by
  obtain ⟨h1, h2, _, h4⟩ := prodOk_spec.1 h
  unfold prodA
  rw [num_len]
  exact prod_len h1 h2

/-! turned -/
theorem prod_turned {a b : A} {k : Int} (hk : k = 0 ∨ k = 1) : prodA b a k = prodA a b k := by
  unfold prodA
  rw [orI_comm b.al a.al]
  have := num_map (al := orI a.al b.al) (f := step2 a b) (s := ((0, 0) : Int × Int)) (acc := acc2 a b k) (f' := step2 b a) (acc' := acc2 b a k) (g := Prod.swap) (P := fun _ => True)
    (fun p q _ _ h => by simpa using congrArg Prod.swap h) trivial (fun _ _ _ _ => trivial) (fun p _ l _ => rfl)
    (fun p _ => by
      unfold acc2 kindB
      rcases hk with rfl | rfl
      · simp [Bool.and_comm]
      · simp [Bool.or_comm])
  exact this
theorem ord_turned (a b : A) : (ord2 b a).length = (ord2 a b).length := by
  unfold ord2
  rw [orI_comm b.al a.al]
  have := ord_map (L := letters (orI a.al b.al)) (f := step2 a b) (s := ((0, 0) : Int × Int)) (f' := step2 b a) (g := Prod.swap) (P := fun _ => True)
    (fun p q _ _ h => by simpa using congrArg Prod.swap h) trivial (fun _ _ _ _ => trivial) (fun p _ l _ => rfl)
  have e : ord (step2 b a) (0, 0) (letters (orI a.al b.al)) = (ord (step2 a b) (0, 0) (letters (orI a.al b.al))).map Prod.swap := this
  rw [e, List.length_map]
theorem prodOk_turned {a b : A} {k : Int} (h : prodOk a b k = true) : prodOk b a k = true := by
  obtain ⟨h1, h2, h3, h4⟩ := prodOk_spec.1 h
  exact prodOk_spec.2 ⟨h2, h1, h3, by rw [ord_turned]; exact h4⟩

/-! by other kinds, of complements -/
theorem prod_acc {a b a' b' : A} {k k' : Int} (hv : validA a = true) (hv' : validA b = true) (hal : orI a'.al b'.al = orI a.al b.al) (hs : ∀ p, In2 a b p → ∀ l, 0 ≤ l ∧ l < 6 → step2 a' b' p l = step2 a b p l) (ha : ∀ p, In2 a b p → acc2 a' b' k' p = acc2 a b k p) : prodA a' b' k' = prodA a b k := by
  unfold prodA
  rw [hal]
  exact num_map (al := orI a.al b.al) (f := step2 a b) (s := ((0, 0) : Int × Int)) (acc := acc2 a b k) (f' := step2 a' b') (acc' := acc2 a' b' k') (g := id) (P := In2 a b)
    (fun p q _ _ h => h) (in_zero hv hv') (in_step hv hv') (fun p hp l hl => hs p hp l ⟨(mem_letters hl).1, (mem_letters hl).2.1⟩) ha
theorem ord_same {a b a' b' : A} (hv : validA a = true) (hv' : validA b = true) (hal : orI a'.al b'.al = orI a.al b.al) (hs : ∀ p, In2 a b p → ∀ l, 0 ≤ l ∧ l < 6 → step2 a' b' p l = step2 a b p l) : (ord2 a' b').length = (ord2 a b).length := by
  unfold ord2
  rw [hal]
  have := ord_map (L := letters (orI a.al b.al)) (f := step2 a b) (s := ((0, 0) : Int × Int)) (f' := step2 a' b') (g := id) (P := In2 a b)
    (fun p q _ _ h => h) (in_zero hv hv') (in_step hv hv') (fun p hp l hl => hs p hp l ⟨(mem_letters hl).1, (mem_letters hl).2.1⟩)
  have e : ord (step2 a' b') (0, 0) (letters (orI a.al b.al)) = (ord (step2 a b) (0, 0) (letters (orI a.al b.al))).map id := this
  rw [e, List.length_map]
theorem accA_compl {a : A} (hv : validA a = true) {q : Int} (hq : 0 ≤ q ∧ q < a.next.length) : accA (compl a) q = !accA a q := acc_compl (by have := (validA_spec.1 hv).2.2.1; omega)
theorem prod_first {a b : A} (hv : validA a = true) (hv' : validA b = true) : prodA a (compl b) 0 = prodA a b 2 :=
  prod_acc hv hv' rfl (fun _ _ _ _ => rfl) (fun p hp => by
    unfold acc2 kindB
    rw [accA_compl hv' hp.2]
    simp)
theorem compl_num {α : Type} [DecidableEq α] {al : Int} {f : α → Int → α} {s : α} {acc : α → Bool} : compl (num al f s acc) = num al f s (fun q => !acc q) := by
  unfold compl num
  simp only [List.map_map]
  rfl
theorem prod_morgan {a b : A} (hv : validA a = true) (hv' : validA b = true) : compl (prodA a b 1) = prodA (compl a) (compl b) 0 := by
  have e1 : compl (prodA a b 1) = num (orI a.al b.al) (step2 a b) (0, 0) (fun q => !acc2 a b 1 q) := compl_num
  rw [e1]
  symm
  unfold prodA
  exact num_map (al := orI a.al b.al) (f := step2 a b) (s := ((0, 0) : Int × Int)) (acc := fun q => !acc2 a b 1 q) (f' := step2 (compl a) (compl b)) (acc' := acc2 (compl a) (compl b) 0) (g := id) (P := In2 a b)
    (fun p q _ _ h => h) (in_zero hv hv') (in_step hv hv') (fun p hp l hl => rfl) (fun p hp => by
      show kindB 0 (accA (compl a) p.1) (accA (compl b) p.2) = !kindB 1 (accA a p.1) (accA b p.2)
      unfold kindB
      rw [accA_compl hv hp.1, accA_compl hv' hp.2]
      simp)
theorem prodOk_kind {a b : A} {k k' : Int} (h : prodOk a b k = true) (hk : 0 ≤ k' ∧ k' ≤ 2) : prodOk a b k' = true := by
  obtain ⟨h1, h2, h3, h4⟩ := prodOk_spec.1 h
  exact prodOk_spec.2 ⟨h1, h2, hk, h4⟩
theorem prodOk_compl2 {a b : A} {k : Int} (h : prodOk a b k = true) : prodOk a (compl b) k = true := by
  obtain ⟨h1, h2, h3, h4⟩ := prodOk_spec.1 h
  exact prodOk_spec.2 ⟨h1, compl_valid' h2, h3, h4⟩
theorem prodOk_compl {a b : A} {k : Int} (h : prodOk a b k = true) : prodOk (compl a) (compl b) k = true := by
  obtain ⟨h1, h2, h3, h4⟩ := prodOk_spec.1 h
  exact prodOk_spec.2 ⟨compl_valid' h1, compl_valid' h2, h3, h4⟩

/-! extensions -/
theorem or_ext {a b : A} (hv : validA a = true) (hv' : validA b = true) : orI (extend a b.al).al (extend b a.al).al = orI a.al b.al := by
  have h1 := (validA_spec.1 hv).1
  have h2 := (validA_spec.1 hv').1
  show orI (orI a.al b.al) (orI b.al a.al) = orI a.al b.al
  rw [orI_comm b.al a.al, orI_self (orI_le h1 h2).1]
theorem step_ext {a b : A} (hv : validA a = true) (hv' : validA b = true) {p : Int × Int} (hp : In2 a b p) {l : Int} (hl : 0 ≤ l ∧ l < 6) : step2 (extend a b.al) (extend b a.al) p l = step2 a b p l := by
  unfold step2
  rw [goA_ext hv (validA_spec.1 hv').1 hp.1 hl, goA_ext hv' (validA_spec.1 hv).1 hp.2 hl]
theorem prod_ext {a b : A} {k : Int} (hv : validA a = true) (hv' : validA b = true) : prodA (extend a b.al) (extend b a.al) k = prodA a b k :=
  prod_acc hv hv' (or_ext hv hv') (fun p hp l hl => step_ext hv hv' hp hl) (fun p hp => rfl)
theorem prodOk_ext {a b : A} {k : Int} (h : prodOk a b k = true) : prodOk (extend a b.al) (extend b a.al) k = true := by
  obtain ⟨h1, h2, h3, h4⟩ := prodOk_spec.1 h
  exact prodOk_spec.2 ⟨extend_valid h1 (validA_spec.1 h2).1, extend_valid h2 (validA_spec.1 h1).1, h3, by rw [ord_same h1 h2 (or_ext h1 h2) (fun p hp l hl => step_ext h1 h2 hp hl)]; exact h4⟩

/-! words -/
theorem run_filter {a : A} : ∀ (w : List Int) (q : Int), run a q (w.filter (hs a.al)) = run a q w
  | [], q => rfl
  | x :: w, q => by
    cases hh : hs a.al x with
    | true => rw [List.filter_cons_of_pos hh]; exact run_filter w (goA a q x)
    | false =>
      rw [List.filter_cons_of_neg (by simp [hh]), run_filter w q]
      show run a q w = run a (goA a q x) w
      rw [goA_no hh]
theorem fold2 (a b : A) : ∀ (w : List Int) (p : Int × Int), w.foldl (step2 a b) p = (run a p.1 w, run b p.2 w)
  | [], p => rfl
  | x :: w, p => by rw [List.foldl_cons, fold2 a b w]; rfl
theorem word_letters {s : ByteArray} {al : Int} (h : within s al = true) : ∀ x ∈ lts s, x ∈ letters al := fun x hx => letters_mem (word_in h x hx) ((within_spec.1 h).2.2 x hx)
theorem accepts_restr {a : A} {s : ByteArray} {b : Int} (hv : validA a = true) (hw : within s b = true) : accepts a (restr s a.al) = accA a (run a 0 (lts s)) := by
  rw [accepts_run hv (restr_within hw (validA_spec.1 hv).1), lts_restr, run_filter]; rfl
theorem prod_word {a b : A} {k : Int} {s : ByteArray} (h : prodOk a b k = true) (hw : within s (orI a.al b.al) = true) : accepts (prodA a b k) s = kindB k (accepts a (restr s a.al)) (accepts b (restr s b.al)) := by
  obtain ⟨h1, h2, h3, h4⟩ := prodOk_spec.1 h
  have h4' : (ord (step2 a b) (0, 0) (letters (orI a.al b.al))).length ≤ 200 := Nat.le_trans h4 (by decide)
  have hr := run_num (acc := acc2 a b k) (prod_al h1 h2) h4' (lts s) (ord_mem0 (f := step2 a b) (s := ((0, 0) : Int × Int))) (word_letters hw)
  rw [ord_zero' h4'] at hr
  rw [accepts_run (prod_valid h) hw, accepts_restr h1 hw, accepts_restr h2 hw]
  have e : run (prodA a b k) 0 (lts s) = _ := hr.1
  rw [e]
  have e2 := acc_num (acc := acc2 a b k) hr.2
  refine e2.trans ?_
  rw [fold2]
  rfl
/-! pairs told as numbers -/
def enc2 (b : A) (p : Int × Int) : Int := p.1 * (b.next.length : Int) + p.2
def fP (a b : A) (q x : Int) : Int := goA a (q / (b.next.length : Int)) x * (b.next.length : Int) + goA b (q % (b.next.length : Int)) x
def accP (a b : A) (k q : Int) : Bool := kindB k (accA a (q / (b.next.length : Int))) (accA b (q % (b.next.length : Int)))
def InP (a b : A) (q : Int) : Prop := 0 ≤ q ∧ q < ((a.next.length * b.next.length : Nat) : Int)
theorem inP_div {a b : A} {q : Int} (hv' : validA b = true) (h : InP a b q) : In2 a b (q / (b.next.length : Int), q % (b.next.length : Int)) := by
  have hb : 0 < (b.next.length : Int) := (zero_in hv').2
  refine ⟨⟨Int.ediv_nonneg h.1 (Int.le_of_lt hb), ?_⟩, Int.emod_nonneg _ (by omega), Int.emod_lt_of_pos _ hb⟩
  have h2 := h.2
  rw [Int.natCast_mul] at h2
  exact Int.ediv_lt_of_lt_mul hb h2
theorem inP_enc {a b : A} {p : Int × Int} (h : In2 a b p) : InP a b (enc2 b p) := by
  obtain ⟨⟨h1, h2⟩, h3, h4⟩ := h
  have hb : 0 ≤ (b.next.length : Int) := by omega
  have h5 : p.1 * (b.next.length : Int) ≤ ((a.next.length : Int) - 1) * (b.next.length : Int) := Int.mul_le_mul_of_nonneg_right (by omega) hb
  have h6 : 0 ≤ p.1 * (b.next.length : Int) := Int.mul_nonneg h1 hb
  unfold InP enc2
  rw [Int.natCast_mul]
  rw [Int.sub_mul] at h5
  omega
theorem enc_div {a b : A} {p : Int × Int} (h : In2 a b p) : enc2 b p / (b.next.length : Int) = p.1 ∧ enc2 b p % (b.next.length : Int) = p.2 := by
  obtain ⟨⟨h1, h2⟩, h3, h4⟩ := h
  have hb : 0 < (b.next.length : Int) := by omega
  unfold enc2
  constructor
  · rw [Int.add_comm, Int.add_mul_ediv_right _ _ (by omega), Int.ediv_eq_zero_of_lt h3 h4, Int.zero_add]
  · rw [Int.add_comm, Int.add_mul_emod_self_right, Int.emod_eq_of_lt h3 h4]
theorem fP_enc {a b : A} {p : Int × Int} (h : In2 a b p) (x : Int) : fP a b (enc2 b p) x = enc2 b (step2 a b p x) := by
  obtain ⟨h1, h2⟩ := enc_div h
  unfold fP
  rw [h1, h2]
  rfl
theorem fP_in {a b : A} (hv : validA a = true) (hv' : validA b = true) {q : Int} (h : InP a b q) {x : Int} (hx : 0 ≤ x ∧ x < 6) : InP a b (fP a b q x) :=
  inP_enc (p := (goA a (q / (b.next.length : Int)) x, goA b (q % (b.next.length : Int)) x)) (in2 hv hv' (inP_div hv' h) hx)
theorem zero_inP {a b : A} (hv : validA a = true) (hv' : validA b = true) : InP a b 0 := by
  have := inP_enc (in_zero hv hv')
  simpa [enc2] using this
theorem enc_inj {a b : A} (p q : Int × Int) (hp : In2 a b p) (hq : In2 a b q) (e : enc2 b p = enc2 b q) : p = q := by
  have h1 := enc_div hp
  have h2 := enc_div hq
  rw [e] at h1
  ext
  · rw [← h1.1, h2.1]
  · rw [← h1.2, h2.2]
theorem ordP {a b : A} (hv : validA a = true) (hv' : validA b = true) : ord (fP a b) 0 (letters (orI a.al b.al)) = (ord2 a b).map (enc2 b) := by
  have := ord_map (L := letters (orI a.al b.al)) (f := step2 a b) (s := ((0, 0) : Int × Int)) (f' := fP a b) (g := enc2 b) (P := In2 a b) enc_inj (in_zero hv hv') (in_step hv hv') (fun p hp l hl => fP_enc hp l)
  have e : enc2 b (0, 0) = 0 := by simp [enc2]
  rw [e] at this
  exact this
theorem numP {a b : A} {k : Int} (hv : validA a = true) (hv' : validA b = true) : num (orI a.al b.al) (fP a b) 0 (accP a b k) = prodA a b k := by
  have := num_map (al := orI a.al b.al) (f := step2 a b) (s := ((0, 0) : Int × Int)) (acc := acc2 a b k) (f' := fP a b) (acc' := accP a b k) (g := enc2 b) (P := In2 a b) enc_inj (in_zero hv hv') (in_step hv hv') (fun p hp l hl => fP_enc hp l)
    (fun p hp => by
      obtain ⟨h1, h2⟩ := enc_div hp
      unfold accP acc2
      rw [h1, h2])
  have e : enc2 b (0, 0) = 0 := by simp [enc2]
  rw [e] at this
  exact this
theorem fP_bfs_len {a b : A} (hv : validA a = true) (hv' : validA b = true) (L : Int) (i : Nat) : (bfs (fP a b) 0 (letters L) i).length ≤ 144 := by
  have h := bfs_len (f := fP a b) (s := 0) (L := letters L) (U := (List.range (a.next.length * b.next.length)).map (fun i : Nat => (i : Int))) (M := a.next.length * b.next.length) (inU.2 (zero_inP hv hv')) (fun q hq l hl => inU.2 (fP_in hv hv' (inU.1 hq) ⟨(mem_letters hl).1, (mem_letters hl).2.1⟩)) (by simp) i
  exact Nat.le_trans h (le144 hv hv')
theorem fP_mul {a b : A} (hv : validA a = true) (hv' : validA b = true) {q : Int} (h : InP a b q) {x : Int} (hx : 0 ≤ x ∧ x < 6) : 0 ≤ goA a (q / (b.next.length : Int)) x * (b.next.length : Int) ∧ goA a (q / (b.next.length : Int)) x * (b.next.length : Int) ≤ 144 := by
  have h1 : 0 ≤ goA a (q / (b.next.length : Int)) x ∧ goA a (q / (b.next.length : Int)) x < a.next.length := goA_in hv (inP_div hv' h).1 hx
  have h2 := (validA_spec.1 hv).2.1
  have h3 := (validA_spec.1 hv').2.1
  refine ⟨Int.mul_nonneg h1.1 (by omega), ?_⟩
  have : goA a (q / (b.next.length : Int)) x * (b.next.length : Int) ≤ 12 * (b.next.length : Int) := Int.mul_le_mul_of_nonneg_right (by omega) (by omega)
  have h4 : (b.next.length : Int) ≤ 12 := by omega
  omega
theorem prodOk_len {a b : A} {k : Int} (hv : validA a = true) (hv' : validA b = true) (hk : 0 ≤ k ∧ k ≤ 2) (h : (((ord (fP a b) 0 (letters (orI a.al b.al))).length : Nat) : Int) ≤ 12) : prodOk a b k = true := by
  rw [ordP hv hv', List.length_map] at h
  exact prodOk_spec.2 ⟨hv, hv', hk, by omega⟩
theorem prodOk_big {a b : A} {k : Int} (hv : validA a = true) (hv' : validA b = true) (h : ¬ (((ord (fP a b) 0 (letters (orI a.al b.al))).length : Nat) : Int) ≤ 12) : prodOk a b k = false := by
  rw [ordP hv hv', List.length_map] at h
  cases hh : prodOk a b k with
  | false => rfl
  | true => exact absurd (prodOk_spec.1 hh).2.2.2 (by omega)
theorem prodOk_no {a b : A} {k : Int} (h : validA a = false ∨ validA b = false ∨ ¬ (0 ≤ k ∧ k ≤ 2)) : prodOk a b k = false := by
  cases hh : prodOk a b k with
  | false => rfl
  | true =>
    obtain ⟨h1, h2, h3, _⟩ := prodOk_spec.1 hh
    rcases h with h | h | h
    · rw [h] at h1; cases h1
    · rw [h] at h2; cases h2
    · exact absurd h3 h
end Go.Proofs.Ytdkdpmmfebdeaaa
