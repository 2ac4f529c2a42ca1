/-
  The texts of this proof, joined (wip/merge.py): the calculus of slots, plain mathematics, walks.
-/
import Derived.Test.YtnckpafknojdhaaDoorGa1
set_option linter.unusedSimpArgs false
set_option linter.unusedVariables false
namespace Go.Proofs.YtnckpafknojdhaaDoor
def cutGo (c : UInt8) : List UInt8 → List UInt8 → List (List UInt8)
  | cur, [] => [cur]
  | cur, x :: r => if x = c then cur :: cutGo c [] r else cutGo c (cur ++ [x]) r
theorem cutGo_skip {c : UInt8} : ∀ (p cur r : List UInt8), c ∉ p → cutGo c cur (p ++ r) = cutGo c (cur ++ p) r
  | [], cur, r, _ => by rw [List.nil_append, List.append_nil]
  | x :: p, cur, r, h => by
    rw [List.mem_cons, not_or] at h
    rw [List.cons_append, cutGo, if_neg (fun e => h.1 e.symm), cutGo_skip p _ r h.2, List.append_assoc]; rfl
theorem cutGo_end {c : UInt8} {p : List UInt8} (h : c ∉ p) : cutGo c [] p = [p] := by
  have := cutGo_skip p [] [] h
  rwa [List.append_nil] at this
theorem cutGo_hit {c : UInt8} {p r : List UInt8} (h : c ∉ p) : cutGo c [] (p ++ c :: r) = p :: cutGo c [] r := by
  rw [cutGo_skip p [] _ h, cutGo, if_pos rfl]; rfl
theorem cutGo_join {c : UInt8} : ∀ (ps : List (List UInt8)) (p : List UInt8), c ∉ p → (∀ q ∈ ps, c ∉ q) → cutGo c [] (p ++ ps.flatMap (fun q => c :: q)) = p :: ps
  | [], p, h, _ => by rw [List.flatMap_nil, List.append_nil, cutGo_end h]
  | q :: ps, p, h, hs => by
    rw [List.flatMap_cons, List.cons_append, cutGo_hit h, cutGo_join ps q (hs q (List.mem_cons_self ..)) fun q' hq => hs q' (List.mem_cons_of_mem _ hq)]
def bytesL (s : ByteArray) : List UInt8 := s.data.toList
theorem bytesL_cat (s t : ByteArray) : bytesL (s ++ t) = bytesL s ++ bytesL t := by simp [bytesL]
theorem bytesL_len (s : ByteArray) : (bytesL s).length = s.size := Array.length_toList
theorem bytesL_cut (s : ByteArray) (m n : Nat) : bytesL (s.extract m n) = ((bytesL s).take n).drop m := by
  rw [bytesL, bytesL, ByteArray.data_extract, Array.toList_extract, List.drop_take]
def cuts (c : UInt8) (s : ByteArray) : List ByteArray := (cutGo c [] (bytesL s)).map fun l => ⟨l.toArray⟩
theorem cuts_list {c : UInt8} {s : ByteArray} {xs : List ByteArray} (h : xs.map bytesL = cutGo c [] (bytesL s)) : xs = cuts c s := by
  rw [cuts, ← h, List.map_map]
  conv => lhs; rw [← List.map_id xs]
  exact List.map_congr_left fun x _ => rfl
def CutI (c : UInt8) (s : ByteArray) (q i : Nat) (xs : List ByteArray) : Prop :=
  (i ≤ s.size → xs.map bytesL ++ cutGo c (((bytesL s).take i).drop q) ((bytesL s).drop i) = cutGo c [] (bytesL s)) ∧ (i = s.size + 1 → xs.map bytesL = cutGo c [] (bytesL s))
theorem CutI.start (c : UInt8) (s : ByteArray) : CutI c s 0 0 [] := ⟨fun _ => by simp, fun h => by omega⟩
theorem drop_at {s : ByteArray} {i : Nat} (h : i < s.size) : (bytesL s).drop i = (s.data.toList.getD i 0) :: (bytesL s).drop (i + 1) := by
  have h' : i < (bytesL s).length := by rw [bytesL_len]; exact h
  rw [List.drop_eq_getElem_cons h']
  congr 1
  show (bytesL s)[i] = (bytesL s).getD i 0
  simp [h']
theorem CutI.hit {c : UInt8} {s : ByteArray} {q i : Nat} {xs : List ByteArray} (h : CutI c s q i xs) (hi : i < s.size) (hc : s.data.toList.getD i 0 = c) : CutI c s (i + 1) (i + 1) (xs ++ [s.extract q i]) := by
  refine ⟨fun _ => ?_, fun he => by omega⟩
  have := h.1 (by omega)
  rw [drop_at hi, cutGo, if_pos hc] at this
  rw [← this, List.map_append, List.append_assoc]
  congr 1
  rw [List.map_cons, List.map_nil, bytesL_cut, List.singleton_append]
  congr 2
  exact List.drop_eq_nil_of_le (by rw [List.length_take]; omega)
theorem CutI.done {c : UInt8} {s : ByteArray} {q i : Nat} {xs : List ByteArray} (h : CutI c s q i xs) (hi : i = s.size + 1) : xs = cuts c s := cuts_list (h.2 hi)
def Ent (row : List Int) : Prop := ∀ x ∈ row, 0 ≤ x ∧ x < 100
theorem key_list : ∀ (l : List Int) (x : Int), bytesL (keyTx (x :: l)) = itL x ++ (l.map itL).flatMap (fun q => 44 :: q) := fun l x => by
  have key : ∀ (l : List Int) (s : ByteArray), bytesL (l.foldl (fun s y => s ++ ((⟨#[44]⟩ : ByteArray) ++ itoa y)) s) = bytesL s ++ (l.map itL).flatMap (fun q => 44 :: q) := fun l => by
    induction l with
    | nil => intro s; simp
    | cons y l ih =>
      intro s
      rw [List.foldl_cons, ih, bytesL_cat, bytesL_cat, List.map_cons, List.flatMap_cons, List.append_assoc, List.append_assoc]
      rfl
  exact key l (itoa x)
theorem cuts_key {row : List Int} (h : Ent row) (h0 : row ≠ []) : cuts 44 (keyTx row) = row.map itoa := by
  cases row with
  | nil => exact absurd rfl h0
  | cons x l =>
    rw [cuts, key_list, cutGo_join _ _ (itL_comma (h x (List.mem_cons_self ..))) fun q hq => by
      obtain ⟨y, hy, rfl⟩ := List.mem_map.1 hq
      exact itL_comma (h y (List.mem_cons_of_mem _ hy))]
    rw [List.map_cons, List.map_cons, List.map_map]
    rfl
theorem keyTx_nil {row : List Int} : keyTx row = (⟨#[]⟩ : ByteArray) ↔ row = [] := by
  constructor
  · intro h
    cases row with
    | nil => rfl
    | cons x l =>
      have := congrArg bytesL h
      rw [key_list] at this
      have h2 : itL x = [] := (List.append_eq_nil_iff.1 this).1
      rw [itL_eq] at h2
      split at h2 <;> cases h2
  · rintro rfl; rfl
theorem join_key : ∀ row : List Int, Lib.join ((row.map itoa).map (·.data.toList)) [44] = bytesL (keyTx row)
  | [] => rfl
  | x :: l => by
    rw [List.map_cons, List.map_cons, Lib.join_cons, key_list, Lib.joinTail, List.flatMap_def, List.map_map, List.map_map, List.map_map]
    rfl
def entTo (row : List Int) (k : Nat) : List ByteArray := (row.take k).map itoa ++ List.replicate (row.length - k) ByteArray.empty
theorem entTo_zero (row : List Int) : entTo row 0 = List.replicate row.length ByteArray.empty := by simp [entTo]
theorem entTo_length {row : List Int} {k : Nat} (h : k ≤ row.length) : (entTo row k).length = row.length := by simp [entTo]; omega
theorem entTo_step {row : List Int} {k : Nat} (h : k < row.length) : (entTo row k).set k (itoa (row.getD k 0)) = entTo row (k + 1) := by
  have hl : ((row.take k).map itoa).length = k := by simp; omega
  have e : row.length - k = (row.length - (k + 1)) + 1 := by omega
  rw [entTo, List.set_append_right _ _ (by omega), hl, Nat.sub_self, e, List.replicate_succ, List.set_cons_zero, entTo, take_snoc 0 h, List.map_append, List.append_assoc]
  rfl
theorem entTo_done {row : List Int} {k : Nat} (h : row.length ≤ k) : entTo row k = row.map itoa := by
  rw [entTo, List.take_of_length_le h, Nat.sub_eq_zero_of_le h]; simp
def sgnL (b : Bool) : UInt8 := if b then 43 else 45
def rowT (b : Bool) (row : List Int) : ByteArray := ⟨(sgnL b :: bytesL (keyTx row)).toArray⟩
theorem rowT_list (b : Bool) (row : List Int) : bytesL (rowT b row) = sgnL b :: bytesL (keyTx row) := rfl
theorem rowT_size (b : Bool) (row : List Int) : (rowT b row).size = (keyTx row).size + 1 := by
  rw [← bytesL_len, rowT_list, List.length_cons, bytesL_len]
theorem rowT_tail (b : Bool) (row : List Int) : (rowT b row).extract 1 (rowT b row).size = keyTx row := by
  apply bytes_ext
  show bytesL _ = bytesL _
  rw [bytesL_cut, ← bytesL_len, List.take_length, rowT_list]; rfl
theorem rowT_head (b : Bool) (row : List Int) : (rowT b row).data.toList.getD 0 0 = sgnL b := rfl
theorem sgn_plus (b : Bool) : decide (((sgnL b).toNat : Int) = 43) = b := by cases b <;> rfl
theorem dig_not {n : Nat} (h : n < 10) : (32 : UInt8) ≠ UInt8.ofNat (48 + n) := fun hc => by
  have := u8_ofNat_inj (m := 32) (n := 48 + n) (by omega) (by omega) hc
  omega
theorem itL_space {x : Int} (hx : 0 ≤ x ∧ x < 100) : (32 : UInt8) ∉ itL x := by
  rw [itL_eq]
  intro hc
  split at hc
  · rw [List.mem_singleton] at hc; exact dig_not (by omega) hc
  · rcases List.mem_cons.1 hc with hc | hc
    · exact dig_not (by omega) hc
    · rw [List.mem_singleton] at hc; exact dig_not (by omega) hc
theorem key_space {row : List Int} (h : Ent row) : (32 : UInt8) ∉ bytesL (keyTx row) := by
  cases row with
  | nil => intro hc; cases hc
  | cons x l =>
    rw [key_list, List.mem_append, not_or]
    refine ⟨itL_space (h x (List.mem_cons_self ..)), fun hc => ?_⟩
    obtain ⟨q, hq, hc⟩ := List.mem_flatMap.1 hc
    obtain ⟨y, hy, rfl⟩ := List.mem_map.1 hq
    rcases List.mem_cons.1 hc with hc | hc
    · exact absurd hc (by decide)
    · exact itL_space (h y (List.mem_cons_of_mem _ hy)) hc
theorem rowT_space {b : Bool} {row : List Int} (h : Ent row) : (32 : UInt8) ∉ bytesL (rowT b row) := by
  rw [rowT_list, List.mem_cons, not_or]
  exact ⟨by cases b <;> decide, key_space h⟩
theorem fmt_space : ∀ n : Fin 64, (32 : UInt8) ∉ bytesL (fmtAl (n.val : Int)) := by decide +kernel
theorem fmt_size1 : ∀ n : Fin 64, 1 ≤ (fmtAl (n.val : Int)).size := by decide +kernel
theorem al_fin {al : Int} (h : 0 ≤ al ∧ al ≤ 63) : ∃ n : Fin 64, al = (n.val : Int) := ⟨⟨al.toNat, by omega⟩, by show al = ((al.toNat : Nat) : Int); omega⟩
theorem fmtAl_space {al : Int} (h : 0 ≤ al ∧ al ≤ 63) : (32 : UInt8) ∉ bytesL (fmtAl al) := by obtain ⟨n, rfl⟩ := al_fin h; exact fmt_space n
theorem fmtAl_size1 {al : Int} (h : 0 ≤ al ∧ al ≤ 63) : 1 ≤ (fmtAl al).size := by obtain ⟨n, rfl⟩ := al_fin h; exact fmt_size1 n
def rowsT (a : A) (n : Nat) : List ByteArray := (List.range n).map fun i => rowT (a.acc.getD i false) (a.next.getD i [])
theorem rowsT_length (a : A) (n : Nat) : (rowsT a n).length = n := by simp [rowsT]
theorem rowsT_at (a : A) {n i : Nat} (h : i < n) : (rowsT a n).getD i ByteArray.empty = rowT (a.acc.getD i false) (a.next.getD i []) := by
  simp [rowsT, h]
section
variable {a : A}
theorem valid_ent (hv : validA a = true) (i : Nat) : Ent (a.next.getD i []) := by
  intro x hx
  rcases Nat.lt_or_ge i a.next.length with h | h
  · have h2 := ((validA_spec.1 hv).2.2.2 _ (getD_mem (d := []) h)).2 x hx
    have := (validA_spec.1 hv).2.1
    omega
  · rw [List.getD_eq_getElem?_getD, List.getElem?_eq_none h] at hx
    cases hx
theorem rowFrom_list (u : ByteArray) (row : List Int) : rowFrom u row row.length = u ++ keyTx row := by
  rw [rowFrom_key u row _ (Nat.le_refl _), List.take_length]
theorem markT_list (b : Bool) : bytesL (markT b) = [32, sgnL b] := by cases b <;> rfl
theorem fmtFrom_list : ∀ n, bytesL (fmtFrom a n) = bytesL (fmtAl a.al) ++ ((rowsT a n).map bytesL).flatMap (fun q => 32 :: q)
  | 0 => by simp [fmtFrom, rowsT]
  | n + 1 => by
    rw [fmtFrom, rowFrom_list, bytesL_cat, bytesL_cat, fmtFrom_list n, markT_list, rowsT, rowsT, List.range_succ, List.map_append, List.map_append, List.flatMap_append]
    simp [rowT_list]
theorem cuts_fmt (hv : validA a = true) : cuts 32 (fmtV a) = fmtAl a.al :: rowsT a a.next.length := by
  have hal := (validA_spec.1 hv).1
  rw [cuts, fmtV_yes hv rfl, fmtFrom_list, cutGo_join _ _ (fmtAl_space hal) fun q hq => by
    obtain ⟨y, hy, rfl⟩ := List.mem_map.1 hq
    obtain ⟨i, hi, rfl⟩ := List.mem_map.1 hy
    exact rowT_space (valid_ent hv i)]
  rw [List.map_cons, List.map_map]
  congr 1
  conv => rhs; rw [← List.map_id (rowsT a a.next.length)]
  exact List.map_congr_left fun x _ => rfl
end
def Agr (s : ByteArray) (n : Int) (i : Nat) (xss : List (List Int)) (ys : List Bool) : Prop :=
  ∀ b, validA b = true → fmtV b = s → n = b.al ∧ xss = b.next.take i ∧ ys = b.acc.take i
def Parsed (s : ByteArray) (ok : Bool) (a : A) : Prop :=
  (ok = true → validA a = true ∧ fmtV a = s) ∧ (ok = false → a = zeroA) ∧ ∀ b, validA b = true → fmtV b = s → ok = true ∧ a = b
theorem Parsed.no {s : ByteArray} (h : ∀ b, validA b = true → fmtV b = s → False) : Parsed s false zeroA :=
  ⟨(fun hc => by cases hc), fun _ => rfl, fun b hb hs => (h b hb hs).elim⟩
section
variable {s : ByteArray} {b : A}
theorem fmt_cut0 (hv : validA b = true) (hs : fmtV b = s) : (cuts 32 s).getD 0 ByteArray.empty = fmtAl b.al := by rw [← hs, cuts_fmt hv]; rfl
theorem fmt_cutN (hv : validA b = true) (hs : fmtV b = s) : (cuts 32 s).length = b.next.length + 1 := by rw [← hs, cuts_fmt hv, List.length_cons, rowsT_length]
theorem fmt_cutI (hv : validA b = true) (hs : fmtV b = s) {i : Nat} (h : i < b.next.length) : (cuts 32 s).getD (i + 1) ByteArray.empty = rowT (b.acc.getD i false) (b.next.getD i []) := by
  rw [← hs, cuts_fmt hv]
  show (rowsT b b.next.length).getD i ByteArray.empty = _
  exact rowsT_at b h
end
def RowP (t : ByteArray) (ok : Bool) (xs : List Int) : Prop := ∀ row, Ent row → t = keyTx row → ok = true ∧ xs = row
theorem RowP.nil : RowP ⟨#[]⟩ true [] := fun row _ h => ⟨rfl, (keyTx_nil.1 h.symm).symm⟩
def RowI (t : ByteArray) (k : Nat) (xs : List Int) : Prop := ∀ row, Ent row → t = keyTx row → xs = row.take k
def NumP (t : ByteArray) (ok : Bool) (n : Int) : Prop := ∀ x, (0 ≤ x ∧ x < 100) → t = itoa x → ok = true ∧ n = x
theorem key_cut {t : ByteArray} {row : List Int} (h : Ent row) (e : t = keyTx row) (h0 : ¬ t = ⟨#[]⟩) : cuts 44 t = row.map itoa := by
  rw [e] at h0 ⊢
  exact cuts_key h fun hc => h0 (keyTx_nil.2 hc)
theorem RowI.step {t : ByteArray} {k : Nat} {xs : List Int} {n : Int} (h : RowI t k xs) (h0 : ¬ t = ⟨#[]⟩) (hk : k < (cuts 44 t).length) (hn : NumP ((cuts 44 t).getD k ByteArray.empty) true n) : RowI t (k + 1) (xs ++ [n]) := by
  intro row hr e
  have hc := key_cut hr e h0
  have hkl : k < row.length := by rw [hc, List.length_map] at hk; exact hk
  rw [hc] at hn
  have h1 : (row.map itoa).getD k ByteArray.empty = itoa (row.getD k 0) := by simp [hkl]
  have := (hn (row.getD k 0) (hr _ (getD_mem hkl)) h1).2
  rw [this, take_snoc 0 hkl, h row hr e]
theorem RowI.done {t : ByteArray} {k : Nat} {xs : List Int} (h : RowI t k xs) (h0 : ¬ t = ⟨#[]⟩) (hk : (cuts 44 t).length ≤ k) : RowP t true xs := by
  intro row hr e
  have hc := key_cut hr e h0
  rw [hc, List.length_map] at hk
  exact ⟨rfl, by rw [h row hr e, List.take_of_length_le hk]⟩
section
variable {s : ByteArray} {n : Int} {i : Nat} {xss : List (List Int)} {ys : List Bool}
theorem Agr.step (h : Agr s n i xss ys) {row : List Int} {ac : Bool} {t : ByteArray} (hi : i + 1 < (cuts 32 s).length) (ht : (cuts 32 s).getD (i + 1) ByteArray.empty = t) (hr : RowP (t.extract 1 t.size) true row) (ha : ac = decide (((t.data.toList.getD 0 0).toNat : Int) = 43)) : Agr s n (i + 1) (xss ++ [row]) (ys ++ [ac]) := by
  intro b hv hs
  obtain ⟨h1, h2, h3⟩ := h b hv hs
  have hl := fmt_cutN hv hs
  have hib : i < b.next.length := by omega
  have hac := (validA_spec.1 hv).2.2.1
  have hc := fmt_cutI hv hs hib
  rw [ht] at hc
  subst hc
  rw [rowT_tail] at hr
  rw [rowT_head, sgn_plus] at ha
  refine ⟨h1, ?_, ?_⟩
  · rw [take_snoc [] hib, ← h2, (hr _ (valid_ent hv i) rfl).2]
  · rw [take_snoc false (by omega), ← h3, ha]
theorem Agr.row (hi : i + 1 < (cuts 32 s).length) {t : ByteArray} (ht : (cuts 32 s).getD (i + 1) ByteArray.empty = t) {row : List Int} (hr : RowP (t.extract 1 t.size) false row) {b : A} (hv : validA b = true) (hs : fmtV b = s) : False := by
  have hl := fmt_cutN hv hs
  have hc := fmt_cutI hv hs (i := i) (by omega)
  rw [ht] at hc
  subst hc
  rw [rowT_tail] at hr
  cases (hr _ (valid_ent hv i) rfl).1
theorem Agr.empty (hi : i + 1 < (cuts 32 s).length) (ht : (cuts 32 s).getD (i + 1) ByteArray.empty = ⟨#[]⟩) {b : A} (hv : validA b = true) (hs : fmtV b = s) : False := by
  have hl := fmt_cutN hv hs
  have hc := fmt_cutI hv hs (i := i) (by omega)
  rw [ht] at hc
  have := congrArg ByteArray.size hc
  rw [rowT_size] at this
  exact absurd this (by show ¬ (0 = _); omega)
theorem Agr.done (h : Agr s n i xss ys) (hi : (cuts 32 s).length ≤ i + 1) (hn : 0 ≤ n ∧ n ≤ 63) (h0 : fmtAl n = (cuts 32 s).getD 0 ByteArray.empty) (hf : fmtV ⟨n, xss, ys⟩ = s) : Parsed s true ⟨n, xss, ys⟩ := by
  refine ⟨fun _ => ⟨?_, hf⟩, (fun h => by cases h), fun b hv hs => ⟨rfl, ?_⟩⟩
  · cases hv : validA ⟨n, xss, ys⟩ with
    | true => rfl
    | false =>
      rw [fmtV_no hv] at hf
      subst hf
      have h1 := fmtAl_size1 hn
      rw [h0] at h1
      exact absurd h1 (by decide)
  · obtain ⟨h1, h2, h3⟩ := h b hv hs
    have hl := fmt_cutN hv hs
    have hac := (validA_spec.1 hv).2.2.1
    rw [List.take_of_length_le (by omega)] at h2 h3
    obtain ⟨al, nx, ac⟩ := b
    subst h1; subst h2; subst h3; rfl
def AlP (t : ByteArray) (ok : Bool) (n : Int) : Prop := (ok = true → fmtAl n = t) ∧ ∀ al, (0 ≤ al ∧ al ≤ 63) → fmtAl al = t → ok = true ∧ n = al
theorem Agr.start {ok : Bool} (h : AlP ((cuts 32 s).getD 0 ByteArray.empty) ok n) : Agr s n 0 [] [] := fun b hv hs => by
  have := (h.2 b.al (validA_spec.1 hv).1 (fmt_cut0 hv hs).symm).2
  exact ⟨this, by simp, by simp⟩
theorem Agr.al {x : Int} (h : AlP ((cuts 32 s).getD 0 ByteArray.empty) false x) {b : A} (hv : validA b = true) (hs : fmtV b = s) : False := by
  cases (h.2 b.al (validA_spec.1 hv).1 (fmt_cut0 hv hs).symm).1
theorem Agr.many (h : 13 < (cuts 32 s).length) {b : A} (hv : validA b = true) (hs : fmtV b = s) : False := by
  have hl := fmt_cutN hv hs
  have := (validA_spec.1 hv).2.1
  omega
end
end Go.Proofs.YtnckpafknojdhaaDoor
namespace Go.Proofs
open Go.Shelf Go.RowKit
def Tryd.lays156_ren : Go.Shelf.Ren := ⟨fun | 156 => 39 | 165 => 60 | 166 => 61 | 169 => 62 | 240 => 77 | 241 => 78 | 276 => 98 | 277 => 99 | n => n, fun | 31 => 37 | 9 => 9 | 3 => 3 | 4 => 4 | 0 => 0 | 20 => 20 | 72 => 74 | 76 => 62 | 70 => 72 | 37 => 69 | 75 => 61 | 127 => 86 | 164 => 112 | 5 => 5 | 80 => 76 | n => n, fun | n => n⟩
theorem Tryd.lays156 : Go.Proofs.Lays.n156 Tryd.prog Tryd.lays156_ren := {
  mixed := by kernel_rfl
  f156 := Tryd.func39.trans (congrArg some (by kernel_rfl))
  f165 := Tryd.func60.trans (congrArg some (by kernel_rfl))
  f166 := Tryd.func61.trans (congrArg some (by kernel_rfl))
  f169 := Tryd.func62.trans (congrArg some (by kernel_rfl))
  f240 := Tryd.func77.trans (congrArg some (by kernel_rfl))
  f241 := Tryd.func78.trans (congrArg some (by kernel_rfl))
  f276 := Tryd.func98.trans (congrArg some (by kernel_rfl))
  f277 := Tryd.func99.trans (congrArg some (by kernel_rfl))
  t0 := Tryd.underlying0
  a0 := Tryd.isAgg0
  z0 := Tryd.sizeOf0
  v0 := Tryd.zeroValue0
  t3 := Tryd.underlying3
  a3 := Tryd.isAgg3
  z3 := Tryd.sizeOf3
  v3 := Tryd.zeroValue3
  t4 := Tryd.underlying4
  a4 := Tryd.isAgg4
  z4 := Tryd.sizeOf4
  v4 := Tryd.zeroValue4
  t9 := Tryd.underlying9
  a9 := Tryd.isAgg9
  z9 := Tryd.sizeOf9
  v9 := Tryd.zeroValue9
  t20 := Tryd.underlying20
  a20 := Tryd.isAgg20
  z20 := Tryd.sizeOf20
  v20 := Tryd.zeroValue20
  t31 := Tryd.underlying37
  a31 := Tryd.isAgg37
  z31 := Tryd.sizeOf37
  v31 := Tryd.zeroValue37
  t37 := Tryd.underlying69
  a37 := Tryd.isAgg69
  z37 := Tryd.sizeOf69
  v37 := Tryd.zeroValue69
  t70 := Tryd.underlying72
  a70 := Tryd.isAgg72
  z70 := Tryd.sizeOf72
  v70 := Tryd.zeroValue72
  t72 := Tryd.underlying74
  a72 := Tryd.isAgg74
  z72 := Tryd.sizeOf74
  v72 := Tryd.zeroValue74
  t75 := Tryd.underlying61
  a75 := Tryd.isAgg61
  z75 := Tryd.sizeOf61
  v75 := Tryd.zeroValue61
  t76 := Tryd.underlying62
  a76 := Tryd.isAgg62
  z76 := Tryd.sizeOf62
  v76 := Tryd.zeroValue62
  t127 := Tryd.underlying86
  a127 := Tryd.isAgg86
  z127 := Tryd.sizeOf86
  v127 := Tryd.zeroValue86
  t164 := Tryd.underlying112
  a164 := Tryd.isAgg112
  z164 := Tryd.sizeOf112
  v164 := Tryd.zeroValue112 }
theorem Tryd.Builder_Extra_156 : Builder.Extra Tryd.prog Tryd.lays156_ren := {
  sizeBuilder := by kernel_rfl
  liesBuilder := by kernel_rfl
  t5 := Tryd.underlying5
  a5 := Tryd.isAgg5
  z5 := Tryd.sizeOf5
  v5 := Tryd.zeroValue5
  infoByte := by kernel_rfl
  cellsByte := by kernel_rfl
  sizeByte := by kernel_rfl
  neB5 := by decide }
theorem Tryd.strings_Join_none (a : Option Addr) (c : Nat) (sep : ByteArray) (w : World) :
    Calls Tryd.prog 39 #[.slice a 0 c, .string sep] w fun e w' => e = .returned (.string ⟨#[]⟩) ∧ w' = w := Any.strings_Join_none Tryd.lays156 Tryd.Builder_Extra_156 a c sep w
theorem Tryd.strings_Join (bk o c : Nat) (xs : List ByteArray) (sep : ByteArray) (w : World) (hcells : ∀ (j : Nat) x, xs[j]? = some x → w.cell? ⟨bk, o + j, none⟩ = some (.string x)) (hbk : bk < w.heap.size) (hN : xs.length ≤ 140737488355328) (hcap : xs.length ≤ c) (hlen : (Lib.join (xs.map (·.data.toList)) sep.data.toList).length ≤ 140737488355328) :
    Calls Tryd.prog 39 #[.slice (some ⟨bk, o, none⟩) xs.length c, .string sep] w fun e w' => e = .returned (.string ⟨(Lib.join (xs.map (·.data.toList)) sep.data.toList).toArray⟩) ∧ Below w.heap.size w w' := Any.strings_Join Tryd.lays156 Tryd.Builder_Extra_156 bk o c xs sep w hcells hbk hN hcap hlen
end Go.Proofs
set_option linter.unusedSimpArgs false
set_option linter.unusedVariables false
namespace Go.Proofs.YtnckpafknojdhaaDoor
open Go.RowKit
set_option maxRecDepth 100000 in
theorem small_c (x : Int) (h : 0 ≤ x ∧ x < 100) (w0 : World) : Ret Tryd.prog 94 #[Value.int .i64 x] w0 (fun v w => v = .string (itoa x) ∧ w0 = w) := by
  refine Ret.of (args := [Value.int .i64 x]) Tryd.func94 rfl rfl rfl ?_
  rintro _ rfl
  show Cq _ _ _ _ [(0, Value.int .i64 x)] _
  refine Cq.seq ?_
  refine Cq.region ?_
  refine Sq.assign .plain rfl rfl ?_
  refine Sq.nil ?_
  refine Eq.next ?_
  refine Cq.seq ?_
  refine Cq.seq ?_
  refine Cq.region ?_
  refine Sq.move .plain rfl rfl ?_
  refine Sq.lss .plain rfl rfl rfl ?_
  refine Sq.part (fun h1 => ?_) (fun h1 => ?_)
  · refine Sq.nil ?_
    refine Eq.next ?_
    refine Cq.thn rfl ?_
    refine Cq.seq ?_
    refine Cq.region ?_
    refine Sq.move .plain rfl rfl ?_
    refine Sq.move .plain rfl rfl ?_
    refine Sq.add .plain rfl rfl rfl (by omega) ?_
    refine Sq.val .plain rfl rfl (Still.cutLH und9 rfl rfl rfl (by exact (show 0 ≤ x ∧ x ≤ (x + 1) ∧ (x + 1) ≤ ((36 : Nat) : Int) by omega))) ?_
    refine Sq.assign .plain rfl rfl ?_
    refine Sq.nil ?_
    refine Eq.next ?_
    refine Cq.ret ?_
    refine Eq.pastRet ?_
    refine Eq.ret1 rfl rfl ?_
    exact ⟨congrArg Value.string (dig_lt h.1 h1), rfl⟩
  refine Sq.nil ?_
  refine Eq.next ?_
  refine Cq.els rfl ?_
  refine Cq.skip ?_
  refine Eq.next ?_
  refine Cq.seq ?_
  refine Cq.region ?_
  refine Sq.move .plain rfl rfl ?_
  refine Sq.mul .plain rfl rfl rfl (by omega) ?_
  refine Sq.move .plain rfl rfl ?_
  refine Sq.mul .plain rfl rfl rfl (by omega) ?_
  refine Sq.add .plain rfl rfl rfl (by omega) ?_
  refine Sq.val .plain rfl rfl (Still.cutLH und9 rfl rfl rfl (by exact (show 0 ≤ (x * 2) ∧ (x * 2) ≤ (x * 2 + 2) ∧ (x * 2 + 2) ≤ ((200 : Nat) : Int) by omega))) ?_
  refine Sq.assign .plain rfl rfl ?_
  refine Sq.nil ?_
  refine Eq.next ?_
  refine Cq.ret ?_
  refine Eq.ret1 rfl rfl ?_
  exact ⟨congrArg Value.string (small_lt h1 h.2), rfl⟩
set_option maxRecDepth 100000 in
theorem fmtInt_c (x : Int) (h : 0 ≤ x ∧ x < 100) (w0 : World) : Ret Tryd.prog 76 #[Value.int .i64 x, Value.int .i64 10] w0 (fun v w => v = .string (itoa x) ∧ w0 = w) := by
  refine Ret.of (args := [Value.int .i64 x, Value.int .i64 10]) Tryd.func76 rfl rfl rfl ?_
  rintro _ rfl
  show Cq _ _ _ _ [(0, Value.int .i64 x), (1, Value.int .i64 10)] _
  refine Cq.seq ?_
  refine Cq.region ?_
  refine Sq.assign .plain rfl rfl ?_
  refine Sq.nil ?_
  refine Eq.next ?_
  refine Cq.seq ?_
  refine Cq.seq ?_
  refine Cq.region ?_
  refine Sq.move .plain rfl rfl ?_
  refine Sq.eql .plain rfl rfl rfl ?_
  refine Sq.isT (rfl) ?_
  refine Sq.nil ?_
  refine Eq.next ?_
  refine Cq.thn rfl ?_
  refine Cq.seq ?_
  refine Cq.seq ?_
  refine Cq.region ?_
  refine Sq.move .plain rfl rfl ?_
  refine Sq.leq .plain rfl rfl rfl ?_
  refine Sq.isT (by omega) ?_
  refine Sq.move .plain rfl rfl ?_
  refine Sq.move (.met rfl rfl rfl) rfl rfl ?_
  refine Sq.lss (.met rfl rfl rfl) rfl rfl rfl ?_
  refine Sq.isT (by omega) ?_
  refine Sq.pickT .plain rfl rfl rfl ?_
  refine Sq.nil ?_
  refine Eq.next ?_
  refine Cq.thn rfl ?_
  refine Cq.seq ?_
  refine Cq.region ?_
  refine Sq.move .plain rfl rfl ?_
  refine Sq.call fn94 .plain rfl rfl (small_c x (by omega) _) ?_
  rintro _ _ ⟨rfl, rfl⟩
  refine Sq.assign .plain rfl rfl ?_
  refine Sq.nil ?_
  refine Eq.next ?_
  refine Cq.ret ?_
  refine Eq.pastRet ?_
  refine Eq.pastRet ?_
  refine Eq.ret1 rfl rfl ?_
  exact ⟨rfl, rfl⟩
set_option maxRecDepth 100000 in
theorem itoaI_c (x : Int) (h : 0 ≤ x ∧ x < 100) (w0 : World) : Ret Tryd.prog 59 #[Value.int .i64 x] w0 (fun v w => v = .string (itoa x) ∧ w0 = w) := by
  refine Ret.of (args := [Value.int .i64 x]) Tryd.func59 rfl rfl rfl ?_
  rintro _ rfl
  show Cq _ _ _ _ [(0, Value.int .i64 x)] _
  refine Cq.seq ?_
  refine Cq.region ?_
  refine Sq.assign .plain rfl rfl ?_
  refine Sq.nil ?_
  refine Eq.next ?_
  refine Cq.seq ?_
  refine Cq.region ?_
  refine Sq.move .plain rfl rfl ?_
  refine Sq.call fn76 .plain rfl rfl (fmtInt_c x (by omega) _) ?_
  rintro _ _ ⟨rfl, rfl⟩
  refine Sq.assign .plain rfl rfl ?_
  refine Sq.nil ?_
  refine Eq.next ?_
  refine Cq.ret ?_
  refine Eq.ret1 rfl rfl ?_
  exact ⟨rfl, rfl⟩
set_option maxRecDepth 100000 in
theorem itoa_c (x : Int) (h : 0 ≤ x ∧ x < 100) (w0 : World) : Ret Tryd.prog 38 #[Value.int .i64 x] w0 (fun v w => v = .string (itoa x) ∧ w0 = w) := by
  refine Ret.of (args := [Value.int .i64 x]) Tryd.func38 rfl rfl rfl ?_
  rintro _ rfl
  show Cq _ _ _ _ [(0, Value.int .i64 x)] _
  refine Cq.seq ?_
  refine Cq.region ?_
  refine Sq.assign .plain rfl rfl ?_
  refine Sq.nil ?_
  refine Eq.next ?_
  refine Cq.seq ?_
  refine Cq.region ?_
  refine Sq.move .plain rfl rfl ?_
  refine Sq.call fn59 .plain rfl rfl (itoaI_c x (by omega) _) ?_
  rintro _ _ ⟨rfl, rfl⟩
  refine Sq.assign .plain rfl rfl ?_
  refine Sq.nil ?_
  refine Eq.next ?_
  refine Cq.ret ?_
  refine Eq.ret1 rfl rfl ?_
  exact ⟨rfl, rfl⟩
end Go.Proofs.YtnckpafknojdhaaDoor
set_option linter.unusedSimpArgs false
set_option linter.unusedVariables false
namespace Go.Proofs.YtnckpafknojdhaaDoor
open Go.RowKit
set_option maxRecDepth 100000 in
theorem letterByte_c (x : Int) (hx : 0 ≤ x ∧ x ≤ 100) (w0 : World) : Ret Tryd.prog 58 #[Value.int .i64 x] w0 (fun v w => v = .int .u8 (97 + x) ∧ w0 = w) := by
  refine Ret.of (args := [Value.int .i64 x]) Tryd.func58 rfl rfl rfl ?_
  rintro _ rfl
  show Cq _ _ _ _ [(0, Value.int .i64 x)] _
  refine Cq.seq ?_
  refine Cq.region ?_
  refine Sq.assign .plain rfl rfl ?_
  refine Sq.nil ?_
  refine Eq.next ?_
  refine Cq.seq ?_
  refine Cq.region ?_
  refine Sq.move .plain rfl rfl ?_
  refine Sq.add .plain rfl rfl rfl (by omega) ?_
  refine Sq.conv8 conv3_5 .plain rfl rfl (by omega) ?_
  refine Sq.assign .plain rfl rfl ?_
  refine Sq.nil ?_
  refine Eq.next ?_
  refine Cq.ret ?_
  refine Eq.ret1 rfl rfl ?_
  exact ⟨rfl, rfl⟩
end Go.Proofs.YtnckpafknojdhaaDoor
set_option linter.unusedSimpArgs false
set_option linter.unusedVariables false
namespace Go.Proofs.YtnckpafknojdhaaDoor
open Go.RowKit
set_option maxRecDepth 100000 in
theorem fmtAlI_c (al : Int) (w0 : World) : Ret Tryd.prog 37 #[Value.int .i64 al] w0 (fun v w => v = .string (fmtAl al) ∧ Ext w0 w) := by
  have E := Ext.refl w0
  refine Ret.of (args := [Value.int .i64 al]) Tryd.func37 rfl rfl rfl ?_
  rintro _ rfl
  show Cq _ _ _ _ [(0, Value.int .i64 al)] _
  refine Cq.seq ?_
  refine Cq.region ?_
  refine Sq.assign .plain rfl rfl ?_
  refine Sq.nil ?_
  refine Eq.next ?_
  refine Cq.seq ?_
  refine Cq.seq ?_
  refine Cq.region ?_
  refine Sq.move .plain rfl rfl ?_
  refine Sq.call fn56 .plain rfl rfl (isAlphabet_c _ _) ?_
  rintro _ _ ⟨rfl, rfl⟩
  refine Sq.part (fun hal => ?_) (fun hal => ?_)
  · refine Sq.notT .plain rfl rfl ?_
    refine Sq.nil ?_
    refine Eq.next ?_
    refine Cq.els rfl ?_
    refine Cq.skip ?_
    refine Eq.next ?_
    refine Cq.seq ?_
    refine Cq.seq ?_
    refine Cq.region ?_
    refine Sq.move .plain rfl rfl ?_
    refine Sq.eql .plain rfl rfl rfl ?_
    refine Sq.part (fun hz => ?_) (fun hz => ?_)
    · refine Sq.nil ?_
      refine Eq.next ?_
      refine Cq.thn rfl ?_
      refine Cq.seq ?_
      refine Cq.region ?_
      refine Sq.assign .plain rfl rfl ?_
      refine Sq.nil ?_
      refine Eq.next ?_
      refine Cq.ret ?_
      refine Eq.pastRet ?_
      refine Eq.ret1 rfl rfl ?_
      exact ⟨by first | rw [fmtAl_bad (by omega)] | rw [fmtAl_zero (by omega)], E⟩
    refine Sq.nil ?_
    refine Eq.next ?_
    refine Cq.els rfl ?_
    refine Cq.skip ?_
    refine Eq.next ?_
    refine Cq.seq ?_
    refine Cq.region ?_
    refine Sq.assign .plain rfl rfl ?_
    refine Sq.nil ?_
    refine Eq.next ?_
    refine Cq.seq ?_
    refine Cq.seq ?_
    refine Cq.region ?_
    refine Sq.move .plain rfl rfl ?_
    refine Sq.call fn57 .plain rfl rfl (lettersOf_c al (by omega) _) ?_
    rintro v1 w2 ⟨hl4, e3⟩
    have hs5 := Below.size E
    have hs6 := Below.size e3
    replace E := E.trans e3
    refine Sq.lenInts (Own.row hl4) .plain rfl und41 rfl ?_
    refine Sq.move .plain rfl rfl ?_
    refine Sq.nil ?_
    refine Eq.next ?_
    refine Cq.block ?_
    refine Cq.loop (fun nn w ls => ∃ (k : Int), ∃ (t : List Int), ∃ (bv : Value), ls = [(3, bv), (12, v1), (13, Value.int .i64 ((List.length (letters al) : Int))), (14, Value.int .i64 k)] ∧ (0 ≤ k ∧ k ≤ (letters al).length) ∧ t = ((letters al).take k.toNat).reverse ∧ Own w w0.heap.size 5 bv ((txb t.reverse).map fun b => Value.int .u8 (b.toNat : Int)) ∧ Ext w0 w ∧ Own w w0.heap.size 3 v1 ((letters al).map (Value.int .i64)) ∧ nn = ((letters al).length - k).toNat) _ _ ⟨0, [], _, rfl, by omega, rfl, Own.nil _ _ _, E, hl4, rfl⟩ (.cons rfl (.cons rfl (.cons rfl (.cons rfl (.nil))))) ?_
    rintro nn wl1 ls ⟨k, t, bv, rfl, hk, ht, ho, E, hl4, rfl⟩
    have hs7 := Below.size E
    have hlet := letters_len6 al
    have hlt := letters_at al (k := k.toNat)
    have htl : t.length ≤ 6 := by rw [ht, List.length_reverse, List.length_take]; omega
    have htx : (txb t.reverse).length = t.length := by simp [txb]
    refine Cq.seq ?_
    refine Cq.region ?_
    refine Sq.lss .plain rfl rfl rfl ?_
    refine Sq.part (fun c8 => ?_) (fun c8 => ?_)
    · refine Sq.nil ?_
      refine Eq.next ?_
      refine Cq.seq ?_
      refine Cq.thn rfl ?_
      refine Cq.skip ?_
      refine Eq.next ?_
      refine Cq.seq ?_
      refine Cq.block ?_
      refine Cq.seq ?_
      refine Cq.region ?_
      refine Sq.idxInts sl41 one3 (Own.row hl4) .plain rfl rfl rfl .plain rfl rfl (by omega) (by omega) ?_
      refine Sq.assign .plain rfl rfl ?_
      refine Sq.nil ?_
      refine Eq.next ?_
      refine Cq.region ?_
      refine Sq.move .plain rfl rfl ?_
      refine Sq.move .plain rfl rfl ?_
      refine Sq.call fn58 .plain rfl rfl (letterByte_c ((letters al).getD k.toNat 0) (by (have := hlt (by omega); omega)) _) ?_
      rintro _ _ ⟨rfl, rfl⟩
      refine Sq.app1 sl69 ho (by omega) (by first | omega | (rw [List.length_map]; omega)) .plain rfl rfl rfl rfl rfl rfl rfl (fun v9 w10 ho12 g11 _ => ?_)
      have hs13 := g11.size
      replace E := E.owned ho g11 (by omega)
      replace hl4 := hl4.owned ho g11 (by decide)
      refine Sq.assign .plain rfl rfl ?_
      refine Sq.nil ?_
      refine Eq.end ?_
      refine Eq.next ?_
      refine Cq.region ?_
      refine Sq.add .plain rfl rfl rfl (by omega) ?_
      refine Sq.move .plain rfl rfl ?_
      refine Sq.nil ?_
      have e1 := toNat_succ hk.1
      refine Eq.round _ _ ⟨k + 1, (letters al).getD k.toNat 0 :: t, _, rfl, by omega, by rw [e1, take_snoc 0 (by omega), List.reverse_append, ← ht]; rfl, Own.snocT ho12 (by have := hlt (by omega); omega), E, hl4, rfl⟩ (by omega) (.cons rfl (.cons rfl (.cons rfl (.cons rfl (.nil)))))
    refine Sq.nil ?_
    refine Eq.next ?_
    refine Cq.seq ?_
    refine Cq.els rfl ?_
    refine Cq.exit ?_
    refine Eq.past ?_
    refine Eq.past ?_
    refine Eq.hit ?_
    refine Eq.next ?_
    refine Cq.seq ?_
    refine Cq.region ?_
    refine Sq.move .plain rfl rfl ?_
    refine Sq.val .plain rfl rfl (Still.text und69 und8_69 und9 (Own.row ho) rfl) ?_
    refine Sq.assign .plain rfl rfl ?_
    refine Sq.nil ?_
    refine Eq.next ?_
    refine Cq.ret ?_
    refine Eq.ret1 rfl rfl ?_
    exact ⟨congrArg Value.string (by rw [ht, List.reverse_reverse, List.take_of_length_le (by omega), fmtAl_txt (by omega) (by omega)]; rfl), E⟩
  refine Sq.notF .plain rfl rfl ?_
  refine Sq.nil ?_
  refine Eq.next ?_
  refine Cq.thn rfl ?_
  refine Cq.seq ?_
  refine Cq.region ?_
  refine Sq.assign .plain rfl rfl ?_
  refine Sq.nil ?_
  refine Eq.next ?_
  refine Cq.ret ?_
  refine Eq.pastRet ?_
  refine Eq.ret1 rfl rfl ?_
  exact ⟨by first | rw [fmtAl_bad (by omega)] | rw [fmtAl_zero (by omega)], E⟩
end Go.Proofs.YtnckpafknojdhaaDoor
set_option linter.unusedSimpArgs false
set_option linter.unusedVariables false
namespace Go.Proofs.YtnckpafknojdhaaDoor
open Go.RowKit
theorem join_c (w0 : World) (B : Nat) (r : Value) (row : List Int) (hr : Own w0 B 9 r ((row.map itoa).map Value.string)) (hn : row.length ≤ 1000) :
    Ret Tryd.prog 39 #[r, .string (⟨#[44]⟩ : ByteArray)] w0 (fun v w => v = .string (keyTx row) ∧ Ext w0 w) := by
  rcases hr.cases with ⟨rfl, h0⟩ | ⟨g, cap, cs, rfl, _, hb, h1, h2, h3, h4⟩
  · have h0' : row = [] := by simpa using h0
    subst h0'
    exact Calls.mono (Tryd.strings_Join_none none 0 _ w0) fun e w ⟨he, hw⟩ => ⟨_, he, rfl, hw ▸ Ext.refl w0⟩
  · have hl : ((row.map itoa).map Value.string).length = (row.map itoa).length := List.length_map _
    rw [hl] at h1 h4 ⊢
    have hz := keyTx_size _ row rfl
    refine Calls.mono (Tryd.strings_Join g 0 cap (row.map itoa) ⟨#[44]⟩ w0 (fun j x hx => ?_) hb.lt (by rw [List.length_map]; omega) h1 ?_) fun e w ⟨he, hw⟩ => ⟨_, he, ?_, hw⟩
    · rw [Nat.zero_add, hb.cell]
      have h5 : ((row.map itoa).map Value.string)[j]? = some (.string x) := by rw [List.getElem?_map, hx]; rfl
      rw [← h4, List.getElem?_take] at h5
      split at h5
      · exact h5
      · cases h5
    · show (Lib.join ((row.map itoa).map (·.data.toList)) [44]).length ≤ _
      rw [join_key, bytesL_len]
      omega
    · show Value.string ⟨(Lib.join ((row.map itoa).map (·.data.toList)) [44]).toArray⟩ = _
      rw [join_key]
      rfl
set_option maxRecDepth 100000 in
theorem fmtVI_c (w0 : World) (a : A) (nx ac : Value) (hnx : Rows w0 41 3 nx a.next) (hac : Bools w0 4 ac a.acc) : Ret Tryd.prog 14 #[Value.agg #[Value.int .i64 a.al, nx, ac]] w0 (fun v w => v = .string (fmtV a) ∧ Ext w0 w) := by
  have E := Ext.refl w0
  refine Ret.of (args := [Value.agg #[Value.int .i64 a.al, nx, ac]]) Tryd.func14 rfl rfl rfl ?_
  rintro _ rfl
  show Cq _ _ _ _ [(0, Value.agg #[Value.int .i64 a.al, nx, ac])] _
  refine Cq.seq ?_
  refine Cq.region ?_
  refine Sq.box .plain rfl rfl (fun b1 w2 e3 hB4 hlo5 => ?_)
  have hd6 := Nat.le_trans (Below.size E) hlo5
  have hs7 := Below.size e3
  replace E := E.trans e3
  refine Sq.assign .plain rfl rfl ?_
  refine Sq.nil ?_
  refine Eq.next ?_
  refine Cq.seq ?_
  refine Cq.seq ?_
  refine Cq.region ?_
  refine Sq.loadAgg agg25 .plain rfl rfl hB4 rfl ?_
  have hd11 := hB4.lt
  refine Sq.call fn36 .plain rfl rfl (valid_c _ a _ _ (hnx.ext E) (hac.ext E)) ?_
  rintro _ w9 ⟨rfl, e10⟩
  have hs12 := Below.size E
  have hs13 := Below.size e10
  replace E := E.trans e10
  replace hB4 := hB4.ext e10
  refine Sq.partB (fun hv => ?_) (fun hv => ?_)
  · refine Sq.notT .plain rfl rfl ?_
    refine Sq.nil ?_
    refine Eq.next ?_
    refine Cq.els rfl ?_
    refine Cq.skip ?_
    refine Eq.next ?_
    refine Cq.seq ?_
    refine Cq.region ?_
    refine Sq.fieldAddr fld25_0 .plain rfl rfl ?_
    refine Sq.loadB one3 .plain rfl rfl hB4 rfl ?_
    have hd17 := hB4.lt
    refine Sq.call fn37 .plain rfl rfl (fmtAlI_c a.al _) ?_
    rintro _ w15 ⟨rfl, e16⟩
    have hs18 := Below.size E
    have hs19 := Below.size e16
    replace E := E.trans e16
    replace hB4 := hB4.ext e16
    refine Sq.assign .plain rfl rfl ?_
    refine Sq.nil ?_
    refine Eq.next ?_
    refine Cq.seq ?_
    refine Cq.seq ?_
    refine Cq.region ?_
    refine Sq.fieldAddr fld25_1 .plain rfl rfl ?_
    refine Sq.loadB one22 .plain rfl rfl hB4 rfl ?_
    refine Sq.lenRows (hnx.ext E) .plain rfl und22 rfl ?_
    refine Sq.move .plain rfl rfl ?_
    refine Sq.nil ?_
    refine Eq.next ?_
    refine Cq.block ?_
    have hvs := validA_spec.1 hv
    have hv1 := hvs.2.1
    have hv2 := hvs.2.2.1
    have hl6 := letters_len6 a.al
    refine Cq.loop (fun nn w ls => ∃ (i : Int), ∃ (t : ByteArray), ls = [(1, Value.pointer (some ⟨b1, 0, none⟩)), (3, Value.string t), (17, nx), (18, Value.int .i64 (List.length a.next : Int)), (19, Value.int .i64 i)] ∧ (0 ≤ i ∧ i ≤ a.next.length) ∧ t = fmtFrom a i.toNat ∧ Ext w0 w ∧ Blk w b1 25 [Value.int .i64 a.al, nx, ac] ∧ nn = ((a.next.length : Int) - i).toNat) _ _ ⟨0, _, rfl, by omega, rfl, E, hB4, rfl⟩ (.cons rfl (.cons rfl (.cons rfl (.cons rfl (.cons rfl (.nil)))))) ?_
    rintro nn wl1 ls ⟨i, t, rfl, hi, ht, E, hB4, rfl⟩
    have hs20 := Below.size E
    have hts := fmtFrom_size hv i.toNat (by omega)
    rw [← ht] at hts
    have hrl := valid_row hv (k := i.toNat)
    refine Cq.seq ?_
    refine Cq.region ?_
    refine Sq.lss .plain rfl rfl rfl ?_
    refine Sq.part (fun c21 => ?_) (fun c21 => ?_)
    · refine Sq.nil ?_
      refine Eq.next ?_
      refine Cq.seq ?_
      refine Cq.thn rfl ?_
      refine Cq.skip ?_
      refine Eq.next ?_
      refine Cq.seq ?_
      refine Cq.block ?_
      refine Cq.seq ?_
      refine Cq.region ?_
      refine Sq.move .plain rfl rfl ?_
      refine Sq.idxRows sl22 one41 (hnx.ext E) .plain rfl rfl rfl .plain rfl rfl (by omega) (by omega) (fun r22 hr23 => ?_)
      refine Sq.assign .plain rfl rfl ?_
      refine Sq.assign .plain rfl rfl ?_
      refine Sq.nil ?_
      refine Eq.next ?_
      refine Cq.seq ?_
      refine Cq.region ?_
      refine Sq.move .plain rfl rfl ?_
      refine Sq.lenInts hr23 .plain rfl und41 rfl ?_
      refine Sq.make sl37 .plain rfl rfl rfl rfl (by omega) (fun b24 w25 e26 hlo27 hB28 => ?_)
      replace hB28 := hB28 wl1.heap.size (Nat.le_refl _)
      have hs29 := Below.size e26
      replace E := E.trans e26
      replace hB4 := hB4.ext e26
      replace hr23 := hr23.ext e26
      refine Sq.assign .plain rfl rfl ?_
      refine Sq.nil ?_
      refine Eq.next ?_
      refine Cq.seq ?_
      refine Cq.seq ?_
      refine Cq.region ?_
      refine Sq.move .plain rfl rfl ?_
      refine Sq.lenInts hr23 .plain rfl und41 rfl ?_
      refine Sq.move .plain rfl rfl ?_
      refine Sq.nil ?_
      refine Eq.next ?_
      refine Cq.block ?_
      have hrl2 := hrl (by omega)
      refine Cq.loop (fun nn w ls => ∃ (k : Int), ls = [(1, Value.pointer (some ⟨b1, 0, none⟩)), (3, Value.string t), (4, Value.int .i64 i), (5, r22), (6, Value.slice (some ⟨b24, 0, none⟩) ((List.length (a.next.getD i.toNat []) : Int)).toNat ((List.length (a.next.getD i.toNat []) : Int)).toNat), (17, nx), (18, Value.int .i64 (List.length a.next : Int)), (19, Value.int .i64 i), (27, r22), (28, Value.int .i64 ((List.length (a.next.getD i.toNat []) : Int))), (29, Value.int .i64 k)] ∧ (0 ≤ k ∧ k ≤ (a.next.getD i.toNat []).length) ∧ Own w wl1.heap.size 9 (Value.slice (some ⟨b24, 0, none⟩) ((List.length (a.next.getD i.toNat []) : Int)).toNat ((List.length (a.next.getD i.toNat []) : Int)).toNat) ((entTo (a.next.getD i.toNat []) k.toNat).map Value.string) ∧ Ext w0 w ∧ Blk w b1 25 [Value.int .i64 a.al, nx, ac] ∧ Ints w 3 r22 (a.next.getD i.toNat []) ∧ nn = (((a.next.getD i.toNat []).length : Int) - k).toNat) _ _ ⟨0, rfl, by omega, by rw [show (0 : Int).toNat = 0 from rfl, entTo_zero, List.map_replicate]; exact hB28, E, hB4, hr23, rfl⟩ (.cons rfl (.cons rfl (.cons rfl (.cons rfl (.cons rfl (.cons rfl (.cons rfl (.cons rfl (.cons rfl (.cons rfl (.cons rfl (.nil)))))))))))) ?_
      rintro nn wl2 ls ⟨k, rfl, hk, hen, E, hB4, hr23, rfl⟩
      have hs30 := Below.size E
      have hens := valid_at hv (k := i.toNat) (j := k.toNat)
      have hel := entTo_length (row := (a.next.getD i.toNat [])) (k := k.toNat) (by omega)
      refine Cq.seq ?_
      refine Cq.region ?_
      refine Sq.lss .plain rfl rfl rfl ?_
      refine Sq.part (fun c31 => ?_) (fun c31 => ?_)
      · refine Sq.nil ?_
        refine Eq.next ?_
        refine Cq.seq ?_
        refine Cq.thn rfl ?_
        refine Cq.skip ?_
        refine Eq.next ?_
        refine Cq.seq ?_
        refine Cq.block ?_
        refine Cq.seq ?_
        refine Cq.region ?_
        refine Sq.move .plain rfl rfl ?_
        refine Sq.idxInts sl41 one3 hr23 .plain rfl rfl rfl .plain rfl rfl (by omega) (by omega) ?_
        refine Sq.assign .plain rfl rfl ?_
        refine Sq.assign .plain rfl rfl ?_
        refine Sq.nil ?_
        refine Eq.next ?_
        refine Cq.region ?_
        refine Sq.move .plain rfl rfl ?_
        refine Sq.move .plain rfl rfl ?_
        refine Sq.move .plain rfl rfl ?_
        have hen2 := hens (by omega) (by omega)
        refine Sq.call fn38 .plain rfl rfl (itoa_c ((a.next.getD i.toNat []).getD k.toNat 0) (by omega) _) ?_
        rintro _ _ ⟨rfl, rfl⟩
        obtain ⟨p32, hp33o⟩ := Own.at hen (i := k) (by omega) (by first | (simp only [List.length_map]; omega) | (simp; omega))
        refine Sq.atO sl37 hp33o .plain rfl rfl rfl ?_
        refine Sq.storeO one9 hen hp33o .plain rfl rfl rfl (fun w34 g35 ho36 => ?_)
        have hs37 := World.grownBy.size g35
        replace E := E.owned hen g35 (by omega)
        replace hB4 := hB4.owned hen g35 (by decide)
        replace hr23 := hr23.owned hen g35 (by decide)
        replace hen := ho36
        refine Sq.nil ?_
        refine Eq.end ?_
        refine Eq.next ?_
        refine Cq.region ?_
        refine Sq.add .plain rfl rfl rfl (by omega) ?_
        refine Sq.move .plain rfl rfl ?_
        refine Sq.nil ?_
        have e2 := toNat_succ hk.1
        refine Eq.round _ _ ⟨k + 1, rfl, by omega, by rw [e2, ← entTo_step (by omega), List.map_set]; exact hen, E, hB4, hr23, rfl⟩ (by omega) (.cons rfl (.cons rfl (.cons rfl (.cons rfl (.cons rfl (.cons rfl (.cons rfl (.cons rfl (.cons rfl (.cons rfl (.cons rfl (.nil))))))))))))
      refine Sq.nil ?_
      refine Eq.next ?_
      refine Cq.seq ?_
      refine Cq.els rfl ?_
      refine Cq.exit ?_
      refine Eq.past ?_
      refine Eq.past ?_
      refine Eq.hit ?_
      refine Eq.next ?_
      refine Cq.seq ?_
      refine Cq.region ?_
      refine Sq.assign .plain rfl rfl ?_
      refine Sq.nil ?_
      refine Eq.next ?_
      refine Cq.seq ?_
      refine Cq.seq ?_
      refine Cq.region ?_
      refine Sq.fieldAddr fld25_2 .plain rfl rfl ?_
      refine Sq.loadB one23 .plain rfl rfl hB4 rfl ?_
      refine Sq.move .plain rfl rfl ?_
      refine Sq.idxBools sl23 one4 (hac.ext E) .plain rfl rfl rfl .plain rfl rfl (by omega) (by omega) ?_
      refine Sq.partB (fun hac => ?_) (fun hac => ?_)
      · refine Sq.nil ?_
        refine Eq.next ?_
        refine Cq.thn rfl ?_
        refine Cq.region ?_
        refine Sq.assign .plain rfl rfl ?_
        refine Sq.nil ?_
        refine Eq.next ?_
        refine Cq.region ?_
        refine Sq.move .plain rfl rfl ?_
        refine Sq.move .plain rfl rfl ?_
        refine Sq.move .plain rfl rfl ?_
        rw [entTo_done (by omega)] at hen
        have hd41 := hB4.lt
        refine Sq.call fn39 .plain rfl rfl (join_c _ _ _ (a.next.getD i.toNat []) hen (by omega)) ?_
        rintro _ w39 ⟨rfl, e40⟩
        have hs42 := Below.size E
        have hs43 := Below.size e40
        replace E := E.trans e40
        replace hB4 := hB4.ext e40
        refine Sq.cat .plain rfl rfl rfl (by have hkz := keyTx_size _ (a.next.getD i.toNat []) rfl; show 2 + (keyTx (a.next.getD i.toNat [])).size ≤ _; omega) ?_
        refine Sq.cat .plain rfl rfl rfl (by have hkz := keyTx_size _ (a.next.getD i.toNat []) rfl; rw [size_cat]; show t.size + (2 + (keyTx (a.next.getD i.toNat [])).size) ≤ _; omega) ?_
        refine Sq.assign .plain rfl rfl ?_
        refine Sq.nil ?_
        refine Eq.end ?_
        refine Eq.next ?_
        refine Cq.region ?_
        refine Sq.add .plain rfl rfl rfl (by omega) ?_
        refine Sq.move .plain rfl rfl ?_
        refine Sq.nil ?_
        have e1 := toNat_succ hi.1
        refine Eq.round _ _ ⟨i + 1, _, rfl, by omega, by rw [e1, fmtFrom, rowFrom_list, ← ht, ← cat3, hac]; rfl, E, hB4, rfl⟩ (by omega) (.cons rfl (.cons rfl (.cons rfl (.cons rfl (.cons rfl (.nil))))))
      refine Sq.nil ?_
      refine Eq.next ?_
      refine Cq.els rfl ?_
      refine Cq.skip ?_
      refine Eq.next ?_
      refine Cq.region ?_
      refine Sq.move .plain rfl rfl ?_
      refine Sq.move .plain rfl rfl ?_
      refine Sq.move .plain rfl rfl ?_
      rw [entTo_done (by omega)] at hen
      have hd47 := hB4.lt
      refine Sq.call fn39 .plain rfl rfl (join_c _ _ _ (a.next.getD i.toNat []) hen (by omega)) ?_
      rintro _ w45 ⟨rfl, e46⟩
      have hs48 := Below.size E
      have hs49 := Below.size e46
      replace E := E.trans e46
      replace hB4 := hB4.ext e46
      refine Sq.cat .plain rfl rfl rfl (by have hkz := keyTx_size _ (a.next.getD i.toNat []) rfl; show 2 + (keyTx (a.next.getD i.toNat [])).size ≤ _; omega) ?_
      refine Sq.cat .plain rfl rfl rfl (by have hkz := keyTx_size _ (a.next.getD i.toNat []) rfl; rw [size_cat]; show t.size + (2 + (keyTx (a.next.getD i.toNat [])).size) ≤ _; omega) ?_
      refine Sq.assign .plain rfl rfl ?_
      refine Sq.nil ?_
      refine Eq.end ?_
      refine Eq.next ?_
      refine Cq.region ?_
      refine Sq.add .plain rfl rfl rfl (by omega) ?_
      refine Sq.move .plain rfl rfl ?_
      refine Sq.nil ?_
      have e1 := toNat_succ hi.1
      refine Eq.round _ _ ⟨i + 1, _, rfl, by omega, by rw [e1, fmtFrom, rowFrom_list, ← ht, ← cat3, hac]; rfl, E, hB4, rfl⟩ (by omega) (.cons rfl (.cons rfl (.cons rfl (.cons rfl (.cons rfl (.nil))))))
    refine Sq.nil ?_
    refine Eq.next ?_
    refine Cq.seq ?_
    refine Cq.els rfl ?_
    refine Cq.exit ?_
    refine Eq.past ?_
    refine Eq.past ?_
    refine Eq.hit ?_
    refine Eq.next ?_
    refine Cq.seq ?_
    refine Cq.region ?_
    refine Sq.move .plain rfl rfl ?_
    refine Sq.assign .plain rfl rfl ?_
    refine Sq.nil ?_
    refine Eq.next ?_
    refine Cq.ret ?_
    refine Eq.ret1 rfl rfl ?_
    exact ⟨by rw [fmtV_yes hv (i := i.toNat) (by omega), ht], E⟩
  refine Sq.notF .plain rfl rfl ?_
  refine Sq.nil ?_
  refine Eq.next ?_
  refine Cq.thn rfl ?_
  refine Cq.seq ?_
  refine Cq.region ?_
  refine Sq.assign .plain rfl rfl ?_
  refine Sq.nil ?_
  refine Eq.next ?_
  refine Cq.ret ?_
  refine Eq.pastRet ?_
  refine Eq.ret1 rfl rfl ?_
  exact ⟨by rw [fmtV_no hv], E⟩
end Go.Proofs.YtnckpafknojdhaaDoor
set_option linter.unusedSimpArgs false
set_option linter.unusedVariables false
namespace Go.Proofs.YtnckpafknojdhaaDoor
open Go.RowKit
def LenOk (n : Nat) : Prop := n ≤ 9223372036854775807
def IntsX (w : World) (v : Value) (xs : List Int) : Prop := LenOk xs.length ∧ ∃ e, Ints w e v xs
def BoolsX (w : World) (v : Value) (xs : List Bool) : Prop := LenOk xs.length ∧ ∃ e, Bools w e v xs
def RowsX (w : World) (v : Value) (xss : List (List Int)) : Prop := LenOk xss.length ∧ ∃ e rs, Row w e v rs ∧ rs.length = xss.length ∧ ∀ (i : Nat) (r : Value), rs[i]? = some r → IntsX w r (xss.getD i [])
section
variable {w w' : World} {v : Value} {xs : List Int} {ys : List Bool} {xss : List (List Int)}
theorem IntsX.ext (h : IntsX w v xs) (x : Ext w w') : IntsX w' v xs := ⟨h.1, h.2.elim fun e h => ⟨e, h.ext x⟩⟩
theorem BoolsX.ext (h : BoolsX w v ys) (x : Ext w w') : BoolsX w' v ys := ⟨h.1, h.2.elim fun e h => ⟨e, h.ext x⟩⟩
theorem RowsX.ext (h : RowsX w v xss) (x : Ext w w') : RowsX w' v xss := by
  obtain ⟨hl, e, rs, h1, h2, h3⟩ := h
  exact ⟨hl, e, rs, h1.ext x, h2, fun i r hr => (h3 i r hr).ext x⟩
theorem RowsX.at (h : RowsX w v xss) {i : Int} (hi : 0 ≤ i) (hlt : i.toNat < xss.length) : ∃ e p r, At w e v i p r ∧ IntsX w r (xss.getD i.toNat []) := by
  obtain ⟨hl, e, rs, h1, h2, h3⟩ := h
  have hl : i.toNat < rs.length := by omega
  obtain ⟨p, hp⟩ := h1.at hi hl
  exact ⟨e, p, rs[i.toNat], hp, h3 _ _ (List.getElem?_eq_getElem hl)⟩
theorem RowsX.len (h : RowsX w v xss) : ∃ e rs, Row w e v rs ∧ rs.length = xss.length := by
  obtain ⟨hl, e, rs, h1, h2, _⟩ := h
  exact ⟨e, rs, h1, h2⟩
end
def SmX (a : A) : Prop := a.next.length ≤ 1048576 ∧ (∀ r ∈ a.next, r.length ≤ 1048576) ∧ a.acc.length ≤ 1048576
theorem fill_step {α : Type} {xs : List α} {d : α} {k : Nat} (hk : k < xs.length) : (xs.take k ++ List.replicate (xs.length - k) d).set k (xs.getD k d) = xs.take (k + 1) ++ List.replicate (xs.length - (k + 1)) d := by
  apply List.ext_getElem?
  intro i
  have e1 : (xs.take k).length = k := by rw [List.length_take]; omega
  have e2 : (xs.take (k + 1)).length = k + 1 := by rw [List.length_take]; omega
  rw [List.getElem?_set]
  by_cases h : k = i
  · subst h
    rw [if_pos rfl, if_pos (by simp; omega), List.getElem?_append_left (by omega), List.getElem?_take, if_pos (by omega), List.getD_eq_getElem?_getD, List.getElem?_eq_getElem hk]
    rfl
  · rw [if_neg h]
    rcases Nat.lt_or_ge i k with h1 | h1
    · rw [List.getElem?_append_left (by omega), List.getElem?_append_left (by omega), List.getElem?_take, List.getElem?_take, if_pos h1, if_pos (by omega)]
    · rw [List.getElem?_append_right (by omega), List.getElem?_append_right (by omega), e1, e2, List.getElem?_replicate, List.getElem?_replicate]
      by_cases h2 : i < xs.length
      · rw [if_pos (by omega), if_pos (by omega)]
      · rw [if_neg (by omega), if_neg (by omega)]
def fillTo {α : Type} (xs : List α) (d : α) (k : Nat) : List α := xs.take k ++ List.replicate (xs.length - k) d
theorem fillTo_zero {α : Type} (xs : List α) (d : α) : fillTo xs d 0 = List.replicate xs.length d := by simp [fillTo]
theorem fillTo_succ {α : Type} {xs : List α} {d : α} {k : Nat} (hk : k < xs.length) : (fillTo xs d k).set k (xs.getD k d) = fillTo xs d (k + 1) := fill_step hk
theorem fillTo_all {α : Type} {xs : List α} {d : α} {k : Nat} (hk : xs.length ≤ k) : fillTo xs d k = xs := by
  unfold fillTo
  rw [List.take_of_length_le hk, Nat.sub_eq_zero_of_le hk]
  simp
theorem fillTo_length {α : Type} (xs : List α) (d : α) {k : Nat} (hk : k ≤ xs.length) : (fillTo xs d k).length = xs.length := by
  unfold fillTo
  simp
  omega
section
variable {w w' : World} {B U : Nat} {e e' : TypeId} {v : Value} {xss : List (List Int)}
theorem OwnRows.made {n : Nat} (h : Own w B e v (List.replicate n (Value.slice Option.none 0 0))) : OwnRows w B U e e' v (List.replicate n []) :=
  ⟨_, h, by simp, fun i r hr => by
    have h1 := List.mem_of_getElem? hr
    obtain rfl := (List.mem_replicate.1 h1).2
    have e1 : (List.replicate n ([] : List Int)).getD i [] = [] := by
      rw [List.getD_eq_getElem?_getD, List.getElem?_replicate]
      split <;> rfl
    rw [e1]
    exact ⟨Own.nil _ _ _, fun k hk => by cases hk⟩, fun i j r r' hr hr' _ k hk => by
    have h1 := List.mem_of_getElem? hr
    obtain rfl := (List.mem_replicate.1 h1).2
    cases hk⟩
theorem OwnRows.put (h : OwnRows w B U e e' v xss) (hne : e ≠ e') : ∃ rs, Own w B e v rs ∧ rs.length = xss.length ∧
    ∀ i r ys w', i < xss.length → Own w U e' r (ys.map (Value.int .i64)) → B ≤ U → Own w' B e v (rs.set i r) → w.grownBy w' v.ownBlock → OwnRows w' B w'.heap.size e e' v (xss.set i ys) := by
  obtain ⟨rs, h1, h2, h3, h4⟩ := h
  refine ⟨rs, h1, h2, fun i r ys w' hi hr hBU hv hg => ?_⟩
  have hr' := hr.owned h1 hg hne
  have hrow : ∀ j q, (rs.set i r)[j]? = some q → (j = i ∧ q = r) ∨ (j ≠ i ∧ rs[j]? = some q) := by
    intro j q hq
    rw [List.getElem?_set] at hq
    split at hq
    · rename_i hij
      rw [if_pos (by omega)] at hq
      exact .inl ⟨hij.symm, (Option.some.inj hq).symm⟩
    · rename_i hij
      exact .inr ⟨fun h => hij h.symm, hq⟩
  refine ⟨rs.set i r, hv, by simp [h2], fun j q hq => ?_, fun j k q q' hq hq' hjk b hb hb' => ?_⟩
  · rcases hrow j q hq with ⟨rfl, rfl⟩ | ⟨hji, hq2⟩
    · have e1 : (xss.set j ys).getD j [] = ys := by simp [hi]
      rw [e1]
      exact ⟨hr'.mono hBU, fun b hb => (hr'.lt b hb).2⟩
    · have e1 : (xss.set i ys).getD j [] = xss.getD j [] := by simp [List.getElem?_set_ne (fun h => hji h.symm)]
      rw [e1]
      have ho := (h3 j q hq2).1.owned h1 hg hne
      exact ⟨ho, fun b hb => (ho.lt b hb).2⟩
  · rcases hrow j q hq with ⟨rfl, rfl⟩ | ⟨hji, hq2⟩ <;> rcases hrow k q' hq' with ⟨rfl, rfl⟩ | ⟨hki, hq2'⟩
    · exact hjk rfl
    · have a1 := ((h3 k q' hq2').2 b hb')
      have a2 := (hr.lt b hb).1
      omega
    · have a1 := ((h3 j q hq2).2 b hb)
      have a2 := (hr.lt b hb').1
      omega
    · exact h4 j k q q' hq2 hq2' hjk b hb hb'
end
section
variable {H : Type} {enc : TypeId × Value → H} {P : Program} {w : World} {base : Nat} {sp : Nat → Bool} {held : Bool}
theorem row_of {x : Addr} {cap : Nat} {vs : List Value} (h : ∀ (i : Nat) (u : Value), vs[i]? = some u → w.cell? (x.add i) = some u) : ∃ e, Row w e (.slice (some x) vs.length cap) vs := by
  cases vs with
  | nil => exact ⟨0, .inl ⟨rfl, some x, cap, rfl, fun h => by cases h⟩⟩
  | cons v0 vs =>
    obtain ⟨b, o, s⟩ := x
    have hc := h 0 v0 rfl
    have hs : s = none := by simpa [Addr.add] using World.cell?_spot hc
    subst hs
    have hb : ∃ cur e fr, w.heap[b]? = some (.cells cur e fr) := by
      rw [addr_add] at hc
      unfold World.cell? at hc
      simp only at hc
      cases hw : w.heap[b]? with
      | none => rw [hw] at hc; simp at hc
      | some ob =>
        rw [hw] at hc
        cases ob <;> simp at hc
        rename_i cur e fr
        exact ⟨cur, e, fr, rfl⟩
    obtain ⟨cur, e, fr, hb⟩ := hb
    refine ⟨e, .inr ⟨b, o, cap, cur, fr, rfl, hb, fun i y hy => ?_⟩⟩
    have h1 := h i y hy
    rw [addr_add] at h1
    simpa [World.cell?, hb] using h1
theorem elems_of {t e : TypeId} {fuel : Nat} {v : Value} {x : DataW H × List MemPlace} (ht : P.underlying t = some (.slice e)) (hc : P.cellsOf e = 1) (h : DataW.trod enc P w base sp held fuel t [v] = some x) :
    ∃ vs : List Value, LenOk vs.length ∧ (∃ e', Row w e' v vs) ∧ ∀ (i : Nat) (u : Value), vs[i]? = some u → ∃ n y, DataW.trod enc P w base sp held n e [u] = some y := by
  rcases DataW.trod_slice ht h with ⟨h0, _⟩ | ⟨a, len, cap, elems, rest, n, _, hcs, _, _, hl, hm, hlen, hel, _, _⟩
  · obtain rfl : v = .slice none 0 0 := by simpa using h0
    exact ⟨[], by unfold LenOk; decide, ⟨0, Row.nil _ _⟩, by simp⟩
  · obtain rfl : v = .slice (some a) len cap := by simpa using hcs
    have each : ∀ i, i < len → ∃ u, w.cell? (a.add i) = some u ∧ ∃ y, DataW.trod enc P w base sp held n e [u] = some y := fun i hi => by
      have h1 := hel i hi
      rw [List.getElem?_eq_getElem (by omega), hc, Nat.mul_one, Option.bind_eq_some_iff] at h1
      obtain ⟨cs', h2, h3⟩ := h1
      have hsz := (World.cells?_some h2).2.1
      match cs', hsz with
      | [u], _ => exact ⟨u, ChangeShapes.cell_of_cells?_one h2, _, h3⟩
    let vs := (List.range len).map fun i => (w.cell? (a.add i)).getD (.bool false)
    have hvs : vs.length = len := by simp [vs]
    have hat : ∀ (i : Nat) (u : Value), vs[i]? = some u → i < len ∧ w.cell? (a.add i) = some u := fun i u hu => by
      have hi : i < len := by have := (List.getElem?_eq_some_iff.1 hu).1; omega
      obtain ⟨u', h1, _⟩ := each i hi
      simp [vs, hi, h1] at hu
      exact ⟨hi, by rw [h1, hu]⟩
    refine ⟨vs, ?_, ?_, fun i u hu => ?_⟩
    · unfold LenOk
      simp only [maxLen] at hm
      omega
    · have := row_of (w := w) (x := a) (cap := cap) (vs := vs) fun i u hu => (hat i u hu).2
      rw [hvs] at this
      exact this
    · obtain ⟨h1, h2⟩ := hat i u hu
      obtain ⟨u', h3, y, h4⟩ := each i h1
      rw [h2] at h3
      obtain rfl := Option.some.inj h3
      exact ⟨n, y, h4⟩
theorem choose_list {α : Type} {p : Value → α → Prop} : ∀ {vs : List Value}, (∀ u ∈ vs, ∃ a, p u a) → ∃ aas : List α, aas.length = vs.length ∧ ∀ (i : Nat) (u : Value), vs[i]? = some u → ∃ a, aas[i]? = some a ∧ p u a
  | [], _ => ⟨[], rfl, by simp⟩
  | v :: vs, h => by
    obtain ⟨a, ha⟩ := h v (by simp)
    obtain ⟨aas, h1, h2⟩ := choose_list (vs := vs) fun u hu => h u (by simp [hu])
    refine ⟨a :: aas, by simp [h1], fun i u hu => ?_⟩
    cases i with
    | zero => obtain rfl : v = u := by simpa using hu
              exact ⟨a, rfl, ha⟩
    | succ i => exact h2 i u (by simpa using hu)
theorem map_of {α : Type} {g : α → Value} {vs : List Value} (h : ∀ u ∈ vs, ∃ a, u = g a) : ∃ aas : List α, vs = aas.map g := by
  obtain ⟨aas, h1, h2⟩ := choose_list h
  refine ⟨aas, ?_⟩
  apply List.ext_getElem?
  intro i
  rcases Nat.lt_or_ge i vs.length with hi | hi
  · obtain ⟨a, ha, hu⟩ := h2 i _ (List.getElem?_eq_getElem hi)
    rw [List.getElem?_eq_getElem hi, List.getElem?_map, ha, hu]
    rfl
  · rw [List.getElem?_eq_none hi, List.getElem?_eq_none (by simp; omega)]
theorem ints_came {t e : TypeId} {fuel : Nat} {v : Value} {x : DataW H × List MemPlace} (ht : P.underlying t = some (.slice e)) (he : P.underlying e = some (.int .i64)) (hc : P.cellsOf e = 1) (h : DataW.trod enc P w base sp held fuel t [v] = some x) : ∃ xs, IntsX w v xs := by
  obtain ⟨vs, hl, ⟨e', hr⟩, hat⟩ := elems_of ht hc h
  obtain ⟨xs, rfl⟩ := map_of (g := Value.int .i64) (vs := vs) fun u hu => by
    obtain ⟨i, hi⟩ := List.getElem?_of_mem hu
    obtain ⟨n, y, hy⟩ := hat i u hi
    obtain ⟨m, hm, _⟩ := DataW.trod_int he hy
    exact ⟨m, by simpa using hm⟩
  exact ⟨xs, by simpa using hl, e', hr⟩
theorem bools_came {t e : TypeId} {fuel : Nat} {v : Value} {x : DataW H × List MemPlace} (ht : P.underlying t = some (.slice e)) (he : P.underlying e = some .bool) (hc : P.cellsOf e = 1) (h : DataW.trod enc P w base sp held fuel t [v] = some x) : ∃ xs, BoolsX w v xs := by
  obtain ⟨vs, hl, ⟨e', hr⟩, hat⟩ := elems_of ht hc h
  obtain ⟨xs, rfl⟩ := map_of (g := Value.bool) (vs := vs) fun u hu => by
    obtain ⟨i, hi⟩ := List.getElem?_of_mem hu
    obtain ⟨n, y, hy⟩ := hat i u hi
    obtain ⟨m, hm, _⟩ := DataW.trod_bool he hy
    exact ⟨m, by simpa using hm⟩
  exact ⟨xs, by simpa using hl, e', hr⟩
theorem rows_came {t s e : TypeId} {fuel : Nat} {v : Value} {x : DataW H × List MemPlace} (ht : P.underlying t = some (.slice s)) (hs : P.underlying s = some (.slice e)) (he : P.underlying e = some (.int .i64)) (hcs : P.cellsOf s = 1) (hc : P.cellsOf e = 1) (h : DataW.trod enc P w base sp held fuel t [v] = some x) : ∃ xss, RowsX w v xss := by
  obtain ⟨vs, hl, ⟨e', hr⟩, hat⟩ := elems_of ht hcs h
  obtain ⟨xss, h1, h2⟩ := choose_list (p := fun u xs => IntsX w u xs) (vs := vs) fun u hu => by
    obtain ⟨i, hi⟩ := List.getElem?_of_mem hu
    obtain ⟨n, y, hy⟩ := hat i u hi
    exact ints_came hs he hc hy
  refine ⟨xss, by rw [h1]; exact hl, e', vs, hr, h1.symm, fun i r hi => ?_⟩
  obtain ⟨a, ha, hp⟩ := h2 i r hi
  rw [List.getD_eq_getElem?_getD, ha]
  exact hp
end
end Go.Proofs.YtnckpafknojdhaaDoor
set_option linter.unusedSimpArgs false
set_option linter.unusedVariables false
namespace Go.Proofs.YtnckpafknojdhaaDoor
open Go.RowKit
set_option maxRecDepth 100000 in
theorem szIntS_c (w0 : World) (r : Value) (xs : List Int) (hr : IntsX w0 r xs) (left : Int) (hleft : 0 ≤ left ∧ left ≤ 1048576) : Ret Tryd.prog 50 #[r, Value.int .i64 left] w0 (fun v w => (∃ z, v = .int .i64 z ∧ -1 ≤ z ∧ (0 ≤ z → z ≤ left ∧ xs.length ≤ 1048576)) ∧ Ext w0 w) := by
  have E := Ext.refl w0
  have hlo : xs.length ≤ 9223372036854775807 := hr.1
  refine Ret.of (args := [r, Value.int .i64 left]) Tryd.func50 rfl rfl rfl ?_
  rintro _ rfl
  show Cq _ _ _ _ [(0, r), (1, Value.int .i64 left)] _
  refine Cq.seq ?_
  refine Cq.region ?_
  refine Sq.assign .plain rfl rfl ?_
  refine Sq.nil ?_
  refine Eq.next ?_
  refine Cq.seq ?_
  refine Cq.region ?_
  refine Sq.move .plain rfl rfl ?_
  refine Sq.move .plain rfl rfl ?_
  obtain ⟨eq1, heq1⟩ := hr.2
  refine Sq.lenInts (heq1.ext E) .plain rfl und41 rfl ?_
  refine Sq.sub .plain rfl rfl rfl (by omega) ?_
  refine Sq.assign .plain rfl rfl ?_
  refine Sq.nil ?_
  refine Eq.next ?_
  refine Cq.seq ?_
  refine Cq.seq ?_
  refine Cq.region ?_
  refine Sq.move .plain rfl rfl ?_
  refine Sq.lss .plain rfl rfl rfl ?_
  refine Sq.part (fun c2 => ?_) (fun c2 => ?_)
  · refine Sq.nil ?_
    refine Eq.next ?_
    refine Cq.thn rfl ?_
    refine Cq.seq ?_
    refine Cq.region ?_
    refine Sq.assign .plain rfl rfl ?_
    refine Sq.nil ?_
    refine Eq.next ?_
    refine Cq.ret ?_
    refine Eq.pastRet ?_
    refine Eq.ret1 rfl rfl ?_
    exact ⟨⟨_, rfl, by omega, fun h => by omega⟩, E⟩
  refine Sq.nil ?_
  refine Eq.next ?_
  refine Cq.els rfl ?_
  refine Cq.skip ?_
  refine Eq.next ?_
  refine Cq.seq ?_
  refine Cq.region ?_
  refine Sq.move .plain rfl rfl ?_
  refine Sq.assign .plain rfl rfl ?_
  refine Sq.nil ?_
  refine Eq.next ?_
  refine Cq.ret ?_
  refine Eq.ret1 rfl rfl ?_
  exact ⟨⟨_, rfl, by omega, fun h => by omega⟩, E⟩
set_option maxRecDepth 100000 in
theorem szBoolS_c (w0 : World) (r : Value) (xs : List Bool) (hr : BoolsX w0 r xs) (left : Int) (hleft : 0 ≤ left ∧ left ≤ 1048576) : Ret Tryd.prog 30 #[r, Value.int .i64 left] w0 (fun v w => (∃ z, v = .int .i64 z ∧ -1 ≤ z ∧ (0 ≤ z → z ≤ left ∧ xs.length ≤ 1048576)) ∧ Ext w0 w) := by
  have E := Ext.refl w0
  have hlo : xs.length ≤ 9223372036854775807 := hr.1
  refine Ret.of (args := [r, Value.int .i64 left]) Tryd.func30 rfl rfl rfl ?_
  rintro _ rfl
  show Cq _ _ _ _ [(0, r), (1, Value.int .i64 left)] _
  refine Cq.seq ?_
  refine Cq.region ?_
  refine Sq.assign .plain rfl rfl ?_
  refine Sq.nil ?_
  refine Eq.next ?_
  refine Cq.seq ?_
  refine Cq.region ?_
  refine Sq.move .plain rfl rfl ?_
  refine Sq.move .plain rfl rfl ?_
  obtain ⟨eq1, heq1⟩ := hr.2
  refine Sq.lenBools (heq1.ext E) .plain rfl und23 rfl ?_
  refine Sq.sub .plain rfl rfl rfl (by omega) ?_
  refine Sq.assign .plain rfl rfl ?_
  refine Sq.nil ?_
  refine Eq.next ?_
  refine Cq.seq ?_
  refine Cq.seq ?_
  refine Cq.region ?_
  refine Sq.move .plain rfl rfl ?_
  refine Sq.lss .plain rfl rfl rfl ?_
  refine Sq.part (fun c2 => ?_) (fun c2 => ?_)
  · refine Sq.nil ?_
    refine Eq.next ?_
    refine Cq.thn rfl ?_
    refine Cq.seq ?_
    refine Cq.region ?_
    refine Sq.assign .plain rfl rfl ?_
    refine Sq.nil ?_
    refine Eq.next ?_
    refine Cq.ret ?_
    refine Eq.pastRet ?_
    refine Eq.ret1 rfl rfl ?_
    exact ⟨⟨_, rfl, by omega, fun h => by omega⟩, E⟩
  refine Sq.nil ?_
  refine Eq.next ?_
  refine Cq.els rfl ?_
  refine Cq.skip ?_
  refine Eq.next ?_
  refine Cq.seq ?_
  refine Cq.region ?_
  refine Sq.move .plain rfl rfl ?_
  refine Sq.assign .plain rfl rfl ?_
  refine Sq.nil ?_
  refine Eq.next ?_
  refine Cq.ret ?_
  refine Eq.ret1 rfl rfl ?_
  exact ⟨⟨_, rfl, by omega, fun h => by omega⟩, E⟩
set_option maxRecDepth 100000 in
theorem szIntSS_c (w0 : World) (r : Value) (xss : List (List Int)) (hr : RowsX w0 r xss) (left : Int) (hleft : 0 ≤ left ∧ left ≤ 1048576) : Ret Tryd.prog 29 #[r, Value.int .i64 left] w0 (fun v w => (∃ z, v = .int .i64 z ∧ -1 ≤ z ∧ (0 ≤ z → z ≤ left ∧ xss.length ≤ 1048576 ∧ ∀ r ∈ xss, r.length ≤ 1048576)) ∧ Ext w0 w) := by
  have E := Ext.refl w0
  have hlo : xss.length ≤ 9223372036854775807 := hr.1
  refine Ret.of (args := [r, Value.int .i64 left]) Tryd.func29 rfl rfl rfl ?_
  rintro _ rfl
  show Cq _ _ _ _ [(0, r), (1, Value.int .i64 left)] _
  refine Cq.seq ?_
  refine Cq.region ?_
  refine Sq.assign .plain rfl rfl ?_
  refine Sq.nil ?_
  refine Eq.next ?_
  refine Cq.seq ?_
  refine Cq.region ?_
  refine Sq.move .plain rfl rfl ?_
  refine Sq.move .plain rfl rfl ?_
  obtain ⟨eq1, rsq1, heq1, hlq1⟩ := RowsX.len hr
  refine Sq.val .plain rfl rfl (Still.lenRow (heq1.ext E) und22 rfl) ?_
  rw [hlq1]
  refine Sq.sub .plain rfl rfl rfl (by omega) ?_
  refine Sq.assign .plain rfl rfl ?_
  refine Sq.nil ?_
  refine Eq.next ?_
  refine Cq.seq ?_
  refine Cq.seq ?_
  refine Cq.region ?_
  refine Sq.move .plain rfl rfl ?_
  refine Sq.lss .plain rfl rfl rfl ?_
  refine Sq.part (fun c2 => ?_) (fun c2 => ?_)
  · refine Sq.nil ?_
    refine Eq.next ?_
    refine Cq.thn rfl ?_
    refine Cq.seq ?_
    refine Cq.region ?_
    refine Sq.assign .plain rfl rfl ?_
    refine Sq.nil ?_
    refine Eq.next ?_
    refine Cq.ret ?_
    refine Eq.pastRet ?_
    refine Eq.ret1 rfl rfl ?_
    exact ⟨⟨_, rfl, by omega, fun h => absurd h (by omega)⟩, E⟩
  refine Sq.nil ?_
  refine Eq.next ?_
  refine Cq.els rfl ?_
  refine Cq.skip ?_
  refine Eq.next ?_
  refine Cq.seq ?_
  refine Cq.seq ?_
  refine Cq.region ?_
  refine Sq.assign .plain rfl rfl ?_
  refine Sq.nil ?_
  refine Eq.next ?_
  refine Cq.block ?_
  refine Cq.loop (fun nn w ls => ∃ (k : Int), ∃ (y : Int), ls = [(0, r), (1, Value.int .i64 y), (5, Value.int .i64 k)] ∧ (0 ≤ k ∧ k ≤ xss.length) ∧ (0 ≤ y ∧ y ≤ left) ∧ (∀ r ∈ xss.take k.toNat, r.length ≤ 1048576) ∧ Ext w0 w ∧ nn = ((xss.length : Int) - k).toNat) _ _ ⟨0, _, rfl, by omega, by omega, by simp, E, rfl⟩ (.cons rfl (.cons rfl (.cons rfl (.nil)))) ?_
  rintro nn wl1 ls ⟨k, y, rfl, hk, hy, hrl, E, rfl⟩
  have hs3 := Below.size E
  refine Cq.seq ?_
  refine Cq.seq ?_
  refine Cq.region ?_
  refine Sq.move .plain rfl rfl ?_
  refine Sq.move .plain rfl rfl ?_
  obtain ⟨eq4, rsq4, heq4, hlq4⟩ := RowsX.len hr
  refine Sq.val .plain rfl rfl (Still.lenRow (heq4.ext E) und22 rfl) ?_
  rw [hlq4]
  refine Sq.lss .plain rfl rfl rfl ?_
  refine Sq.part (fun c5 => ?_) (fun c5 => ?_)
  · refine Sq.nil ?_
    refine Eq.next ?_
    refine Cq.thn rfl ?_
    refine Cq.skip ?_
    refine Eq.next ?_
    refine Cq.seq ?_
    refine Cq.block ?_
    refine Cq.seq ?_
    refine Cq.region ?_
    refine Sq.move .plain rfl rfl ?_
    refine Sq.move .plain rfl rfl ?_
    obtain ⟨eq6, pq6, rq6, hpq6, hrq6⟩ := RowsX.at hr (i := k) (by omega) (by omega)
    refine Sq.val .plain rfl rfl (Still.at' sl22 (hpq6.ext E) rfl rfl) ?_
    refine Sq.val .plain rfl rfl (Still.loadA one41 rfl (hpq6.ext E).1) ?_
    refine Sq.move .plain rfl rfl ?_
    refine Sq.call fn50 .plain rfl rfl (szIntS_c _ _ _ (hrq6.ext E) y (by omega)) ?_
    rintro _ w8 ⟨⟨z10, rfl, hz11, hsm12⟩, e9⟩
    have hs13 := Below.size E
    have hs14 := Below.size e9
    replace E := E.trans e9
    refine Sq.assign .plain rfl rfl ?_
    refine Sq.nil ?_
    refine Eq.next ?_
    refine Cq.seq ?_
    refine Cq.region ?_
    refine Sq.move .plain rfl rfl ?_
    refine Sq.lss .plain rfl rfl rfl ?_
    refine Sq.part (fun c15 => ?_) (fun c15 => ?_)
    · refine Sq.nil ?_
      refine Eq.next ?_
      refine Cq.thn rfl ?_
      refine Cq.seq ?_
      refine Cq.region ?_
      refine Sq.assign .plain rfl rfl ?_
      refine Sq.nil ?_
      refine Eq.next ?_
      refine Cq.ret ?_
      refine Eq.outRet ?_
      refine Eq.pastRet ?_
      refine Eq.pastRet ?_
      refine Eq.outRet ?_
      refine Eq.pastRet ?_
      refine Eq.ret1 rfl rfl ?_
      exact ⟨⟨_, rfl, by omega, fun h => absurd h (by omega)⟩, E⟩
    refine Sq.nil ?_
    refine Eq.next ?_
    refine Cq.els rfl ?_
    refine Cq.skip ?_
    refine Eq.end ?_
    refine Eq.next ?_
    refine Cq.region ?_
    refine Sq.move .plain rfl rfl ?_
    refine Sq.add .plain rfl rfl rfl (by omega) ?_
    refine Sq.assign .plain rfl rfl ?_
    refine Sq.nil ?_
    have e1 := toNat_succ hk.1
    have hsx := (hsm12 (by omega))
    refine Eq.round _ _ ⟨k + 1, _, rfl, by omega, by omega, by rw [e1, take_snoc [] (by omega)]; intro r hr; rcases List.mem_append.1 hr with h | h; exact hrl r h; rw [List.mem_singleton.1 h]; exact hsx.2, E, rfl⟩ (by omega) (.cons rfl (.cons rfl (.cons rfl (.nil))))
  refine Sq.nil ?_
  refine Eq.next ?_
  refine Cq.els rfl ?_
  refine Cq.exit ?_
  refine Eq.past ?_
  refine Eq.past ?_
  refine Eq.hit ?_
  refine Eq.next ?_
  refine Cq.seq ?_
  refine Cq.region ?_
  refine Sq.move .plain rfl rfl ?_
  refine Sq.assign .plain rfl rfl ?_
  refine Sq.nil ?_
  refine Eq.next ?_
  refine Cq.ret ?_
  refine Eq.ret1 rfl rfl ?_
  exact ⟨⟨_, rfl, by omega, fun h => ⟨by omega, by omega, by rw [List.take_of_length_le (by omega)] at hrl; exact hrl⟩⟩, E⟩
set_option maxRecDepth 100000 in
theorem szA_c (w0 : World) (a : A) (nx ac : Value) (hnx : RowsX w0 nx a.next) (hac : BoolsX w0 ac a.acc) (left : Int) (hleft : 0 ≤ left ∧ left ≤ 1048576) : Ret Tryd.prog 11 #[Value.agg #[Value.int .i64 a.al, nx, ac], Value.int .i64 left] w0 (fun v w => (∃ z, v = .int .i64 z ∧ -1 ≤ z ∧ (0 ≤ z → z ≤ left ∧ SmX a)) ∧ Ext w0 w) := by
  have E := Ext.refl w0
  refine Ret.of (args := [Value.agg #[Value.int .i64 a.al, nx, ac], Value.int .i64 left]) Tryd.func11 rfl rfl rfl ?_
  rintro _ rfl
  show Cq _ _ _ _ [(0, Value.agg #[Value.int .i64 a.al, nx, ac]), (1, Value.int .i64 left)] _
  refine Cq.seq ?_
  refine Cq.region ?_
  refine Sq.box .plain rfl rfl (fun b1 w2 e3 hB4 hlo5 => ?_)
  have hd6 := Nat.le_trans (Below.size E) hlo5
  have hs7 := Below.size e3
  replace E := E.trans e3
  refine Sq.assign .plain rfl rfl ?_
  refine Sq.nil ?_
  refine Eq.next ?_
  refine Cq.seq ?_
  refine Cq.region ?_
  refine Sq.fieldAddr fld31_1 .plain rfl rfl ?_
  refine Sq.loadB one22 .plain rfl rfl hB4 rfl ?_
  refine Sq.move .plain rfl rfl ?_
  have hd14 := hB4.lt
  refine Sq.call fn29 .plain rfl rfl (szIntSS_c _ _ _ (hnx.ext E) left (by omega)) ?_
  rintro _ w9 ⟨⟨z11, rfl, hz12, hsm13⟩, e10⟩
  have hs15 := Below.size E
  have hs16 := Below.size e10
  replace E := E.trans e10
  replace hB4 := hB4.ext e10
  refine Sq.assign .plain rfl rfl ?_
  refine Sq.nil ?_
  refine Eq.next ?_
  refine Cq.seq ?_
  refine Cq.seq ?_
  refine Cq.region ?_
  refine Sq.move .plain rfl rfl ?_
  refine Sq.lss .plain rfl rfl rfl ?_
  refine Sq.part (fun c17 => ?_) (fun c17 => ?_)
  · refine Sq.nil ?_
    refine Eq.next ?_
    refine Cq.thn rfl ?_
    refine Cq.seq ?_
    refine Cq.region ?_
    refine Sq.assign .plain rfl rfl ?_
    refine Sq.nil ?_
    refine Eq.next ?_
    refine Cq.ret ?_
    refine Eq.pastRet ?_
    refine Eq.ret1 rfl rfl ?_
    exact ⟨⟨_, rfl, by omega, fun h => absurd h (by decide)⟩, E⟩
  refine Sq.nil ?_
  refine Eq.next ?_
  refine Cq.els rfl ?_
  refine Cq.skip ?_
  refine Eq.next ?_
  refine Cq.seq ?_
  refine Cq.region ?_
  refine Sq.fieldAddr fld31_2 .plain rfl rfl ?_
  refine Sq.loadB one23 .plain rfl rfl hB4 rfl ?_
  refine Sq.move .plain rfl rfl ?_
  have hd24 := hB4.lt
  refine Sq.call fn30 .plain rfl rfl (szBoolS_c _ _ _ (hac.ext E) z11 (by omega)) ?_
  rintro _ w19 ⟨⟨z21, rfl, hz22, hsm23⟩, e20⟩
  have hs25 := Below.size E
  have hs26 := Below.size e20
  replace E := E.trans e20
  refine Sq.assign .plain rfl rfl ?_
  refine Sq.nil ?_
  refine Eq.next ?_
  refine Cq.seq ?_
  refine Cq.seq ?_
  refine Cq.region ?_
  refine Sq.move .plain rfl rfl ?_
  refine Sq.lss .plain rfl rfl rfl ?_
  refine Sq.part (fun c27 => ?_) (fun c27 => ?_)
  · refine Sq.nil ?_
    refine Eq.next ?_
    refine Cq.thn rfl ?_
    refine Cq.seq ?_
    refine Cq.region ?_
    refine Sq.assign .plain rfl rfl ?_
    refine Sq.nil ?_
    refine Eq.next ?_
    refine Cq.ret ?_
    refine Eq.pastRet ?_
    refine Eq.ret1 rfl rfl ?_
    exact ⟨⟨_, rfl, by omega, fun h => absurd h (by decide)⟩, E⟩
  refine Sq.nil ?_
  refine Eq.next ?_
  refine Cq.els rfl ?_
  refine Cq.skip ?_
  refine Eq.next ?_
  refine Cq.seq ?_
  refine Cq.region ?_
  refine Sq.move .plain rfl rfl ?_
  refine Sq.assign .plain rfl rfl ?_
  refine Sq.nil ?_
  refine Eq.next ?_
  refine Cq.ret ?_
  refine Eq.ret1 rfl rfl ?_
  exact ⟨⟨_, rfl, by omega, fun h => ⟨by have := hsm13 (by omega); have := hsm23 (by omega); omega, (hsm13 (by omega)).2.1, (hsm13 (by omega)).2.2, (hsm23 (by omega)).2⟩⟩, E⟩
set_option maxRecDepth 100000 in
theorem toIntS_c (w0 : World) (r : Value) (xs : List Int) (hr : IntsX w0 r xs) (hl : xs.length ≤ 1048576) : Ret Tryd.prog 55 #[r] w0 (fun v w => Own w w0.heap.size 3 v (xs.map (Value.int .i64)) ∧ Ext w0 w) := by
  have E := Ext.refl w0
  refine Ret.of (args := [r]) Tryd.func55 rfl rfl rfl ?_
  rintro _ rfl
  show Cq _ _ _ _ [(0, r)] _
  refine Cq.seq ?_
  refine Cq.region ?_
  refine Sq.assign .plain rfl rfl ?_
  refine Sq.nil ?_
  refine Eq.next ?_
  refine Cq.seq ?_
  refine Cq.region ?_
  refine Sq.move .plain rfl rfl ?_
  obtain ⟨eq1, heq1⟩ := hr.2
  refine Sq.lenInts (heq1.ext E) .plain rfl und41 rfl ?_
  refine Sq.make sl41 .plain rfl rfl rfl rfl (by omega) (fun b2 w3 e4 hlo5 hB6 => ?_)
  replace hB6 := hB6 w0.heap.size (Nat.le_refl _)
  have hs7 := Below.size e4
  replace E := E.trans e4
  refine Sq.assign .plain rfl rfl ?_
  refine Sq.nil ?_
  refine Eq.next ?_
  refine Cq.seq ?_
  refine Cq.seq ?_
  refine Cq.region ?_
  refine Sq.assign .plain rfl rfl ?_
  refine Sq.nil ?_
  refine Eq.next ?_
  refine Cq.block ?_
  refine Cq.loop (fun nn w ls => ∃ (k : Int), ls = [(0, r), (3, Value.slice (some ⟨b2, 0, none⟩) (List.length xs : Int).toNat (List.length xs : Int).toNat), (4, Value.int .i64 k)] ∧ (0 ≤ k ∧ k ≤ xs.length) ∧ Own w w0.heap.size 3 (Value.slice (some ⟨b2, 0, none⟩) (List.length xs : Int).toNat (List.length xs : Int).toNat) ((fillTo xs 0 k.toNat).map (Value.int .i64)) ∧ Ext w0 w ∧ nn = ((xs.length : Int) - k).toNat) _ _ ⟨0, rfl, by omega, by rw [show (0 : Int).toNat = 0 from rfl, fillTo_zero, List.map_replicate]; exact hB6, E, rfl⟩ (.cons rfl (.cons rfl (.cons rfl (.nil)))) ?_
  rintro nn wl1 ls ⟨k, rfl, hk, ho, E, rfl⟩
  have hs8 := Below.size E
  have hfl := fillTo_length xs 0 (k := k.toNat) (by omega)
  refine Cq.seq ?_
  refine Cq.seq ?_
  refine Cq.region ?_
  refine Sq.move .plain rfl rfl ?_
  refine Sq.move .plain rfl rfl ?_
  obtain ⟨eq9, heq9⟩ := hr.2
  refine Sq.lenInts (heq9.ext E) .plain rfl und41 rfl ?_
  refine Sq.lss .plain rfl rfl rfl ?_
  refine Sq.part (fun c10 => ?_) (fun c10 => ?_)
  · refine Sq.nil ?_
    refine Eq.next ?_
    refine Cq.thn rfl ?_
    refine Cq.skip ?_
    refine Eq.next ?_
    refine Cq.seq ?_
    refine Cq.block ?_
    refine Cq.region ?_
    refine Sq.move .plain rfl rfl ?_
    refine Sq.move .plain rfl rfl ?_
    refine Sq.move .plain rfl rfl ?_
    refine Sq.move .plain rfl rfl ?_
    obtain ⟨eq11, heq11⟩ := hr.2
    obtain ⟨pq11, hpq11⟩ := Ints.at heq11 (i := k) (by omega) (by omega)
    refine Sq.val .plain rfl rfl (Still.at' sl41 (hpq11.ext E) rfl rfl) ?_
    refine Sq.val .plain rfl rfl (Still.loadA one3 rfl (hpq11.ext E).1) ?_
    obtain ⟨p12, hp13o⟩ := Own.at ho (i := k) (by omega) (by first | (simp only [List.length_map]; omega) | (simp; omega))
    refine Sq.atO sl41 hp13o .plain rfl rfl rfl ?_
    refine Sq.storeO one3 ho hp13o .plain rfl rfl rfl (fun w14 g15 ho16 => ?_)
    have hs17 := World.grownBy.size g15
    replace E := E.owned ho g15 (by omega)
    replace ho := ho16
    refine Sq.nil ?_
    refine Eq.end ?_
    refine Eq.next ?_
    refine Cq.region ?_
    refine Sq.move .plain rfl rfl ?_
    refine Sq.add .plain rfl rfl rfl (by omega) ?_
    refine Sq.assign .plain rfl rfl ?_
    refine Sq.nil ?_
    have e1 := toNat_succ hk.1
    refine Eq.round _ _ ⟨k + 1, rfl, by omega, by rw [e1, ← fillTo_succ (by omega), List.map_set]; exact ho, E, rfl⟩ (by omega) (.cons rfl (.cons rfl (.cons rfl (.nil))))
  refine Sq.nil ?_
  refine Eq.next ?_
  refine Cq.els rfl ?_
  refine Cq.exit ?_
  refine Eq.past ?_
  refine Eq.past ?_
  refine Eq.hit ?_
  refine Eq.next ?_
  refine Cq.seq ?_
  refine Cq.region ?_
  refine Sq.move .plain rfl rfl ?_
  refine Sq.assign .plain rfl rfl ?_
  refine Sq.nil ?_
  refine Eq.next ?_
  refine Cq.ret ?_
  refine Eq.ret1 rfl rfl ?_
  rw [fillTo_all (by omega)] at ho
  exact ⟨ho, E⟩
set_option maxRecDepth 100000 in
theorem toBoolS_c (w0 : World) (r : Value) (xs : List Bool) (hr : BoolsX w0 r xs) (hl : xs.length ≤ 1048576) : Ret Tryd.prog 35 #[r] w0 (fun v w => Own w w0.heap.size 4 v (xs.map (Value.bool)) ∧ Ext w0 w) := by
  have E := Ext.refl w0
  refine Ret.of (args := [r]) Tryd.func35 rfl rfl rfl ?_
  rintro _ rfl
  show Cq _ _ _ _ [(0, r)] _
  refine Cq.seq ?_
  refine Cq.region ?_
  refine Sq.assign .plain rfl rfl ?_
  refine Sq.nil ?_
  refine Eq.next ?_
  refine Cq.seq ?_
  refine Cq.region ?_
  refine Sq.move .plain rfl rfl ?_
  obtain ⟨eq1, heq1⟩ := hr.2
  refine Sq.lenBools (heq1.ext E) .plain rfl und23 rfl ?_
  refine Sq.make sl23 .plain rfl rfl rfl rfl (by omega) (fun b2 w3 e4 hlo5 hB6 => ?_)
  replace hB6 := hB6 w0.heap.size (Nat.le_refl _)
  have hs7 := Below.size e4
  replace E := E.trans e4
  refine Sq.assign .plain rfl rfl ?_
  refine Sq.nil ?_
  refine Eq.next ?_
  refine Cq.seq ?_
  refine Cq.seq ?_
  refine Cq.region ?_
  refine Sq.assign .plain rfl rfl ?_
  refine Sq.nil ?_
  refine Eq.next ?_
  refine Cq.block ?_
  refine Cq.loop (fun nn w ls => ∃ (k : Int), ls = [(0, r), (3, Value.slice (some ⟨b2, 0, none⟩) (List.length xs : Int).toNat (List.length xs : Int).toNat), (4, Value.int .i64 k)] ∧ (0 ≤ k ∧ k ≤ xs.length) ∧ Own w w0.heap.size 4 (Value.slice (some ⟨b2, 0, none⟩) (List.length xs : Int).toNat (List.length xs : Int).toNat) ((fillTo xs false k.toNat).map (Value.bool)) ∧ Ext w0 w ∧ nn = ((xs.length : Int) - k).toNat) _ _ ⟨0, rfl, by omega, by rw [show (0 : Int).toNat = 0 from rfl, fillTo_zero, List.map_replicate]; exact hB6, E, rfl⟩ (.cons rfl (.cons rfl (.cons rfl (.nil)))) ?_
  rintro nn wl1 ls ⟨k, rfl, hk, ho, E, rfl⟩
  have hs8 := Below.size E
  have hfl := fillTo_length xs false (k := k.toNat) (by omega)
  refine Cq.seq ?_
  refine Cq.seq ?_
  refine Cq.region ?_
  refine Sq.move .plain rfl rfl ?_
  refine Sq.move .plain rfl rfl ?_
  obtain ⟨eq9, heq9⟩ := hr.2
  refine Sq.lenBools (heq9.ext E) .plain rfl und23 rfl ?_
  refine Sq.lss .plain rfl rfl rfl ?_
  refine Sq.part (fun c10 => ?_) (fun c10 => ?_)
  · refine Sq.nil ?_
    refine Eq.next ?_
    refine Cq.thn rfl ?_
    refine Cq.skip ?_
    refine Eq.next ?_
    refine Cq.seq ?_
    refine Cq.block ?_
    refine Cq.region ?_
    refine Sq.move .plain rfl rfl ?_
    refine Sq.move .plain rfl rfl ?_
    refine Sq.move .plain rfl rfl ?_
    refine Sq.move .plain rfl rfl ?_
    obtain ⟨eq11, heq11⟩ := hr.2
    obtain ⟨pq11, hpq11⟩ := Bools.at heq11 (i := k) (by omega) (by omega)
    refine Sq.val .plain rfl rfl (Still.at' sl23 (hpq11.ext E) rfl rfl) ?_
    refine Sq.val .plain rfl rfl (Still.loadA one4 rfl (hpq11.ext E).1) ?_
    obtain ⟨p12, hp13o⟩ := Own.at ho (i := k) (by omega) (by first | (simp only [List.length_map]; omega) | (simp; omega))
    refine Sq.atO sl23 hp13o .plain rfl rfl rfl ?_
    refine Sq.storeO one4 ho hp13o .plain rfl rfl rfl (fun w14 g15 ho16 => ?_)
    have hs17 := World.grownBy.size g15
    replace E := E.owned ho g15 (by omega)
    replace ho := ho16
    refine Sq.nil ?_
    refine Eq.end ?_
    refine Eq.next ?_
    refine Cq.region ?_
    refine Sq.move .plain rfl rfl ?_
    refine Sq.add .plain rfl rfl rfl (by omega) ?_
    refine Sq.assign .plain rfl rfl ?_
    refine Sq.nil ?_
    have e1 := toNat_succ hk.1
    refine Eq.round _ _ ⟨k + 1, rfl, by omega, by rw [e1, ← fillTo_succ (by omega), List.map_set]; exact ho, E, rfl⟩ (by omega) (.cons rfl (.cons rfl (.cons rfl (.nil))))
  refine Sq.nil ?_
  refine Eq.next ?_
  refine Cq.els rfl ?_
  refine Cq.exit ?_
  refine Eq.past ?_
  refine Eq.past ?_
  refine Eq.hit ?_
  refine Eq.next ?_
  refine Cq.seq ?_
  refine Cq.region ?_
  refine Sq.move .plain rfl rfl ?_
  refine Sq.assign .plain rfl rfl ?_
  refine Sq.nil ?_
  refine Eq.next ?_
  refine Cq.ret ?_
  refine Eq.ret1 rfl rfl ?_
  rw [fillTo_all (by omega)] at ho
  exact ⟨ho, E⟩
set_option maxRecDepth 100000 in
theorem toIntSS_c (w0 : World) (r : Value) (xss : List (List Int)) (hr : RowsX w0 r xss) (hl : xss.length ≤ 1048576) (hll : ∀ r ∈ xss, r.length ≤ 1048576) : Ret Tryd.prog 34 #[r] w0 (fun v w => OwnRows w w0.heap.size w.heap.size 41 3 v xss ∧ Ext w0 w) := by
  have E := Ext.refl w0
  refine Ret.of (args := [r]) Tryd.func34 rfl rfl rfl ?_
  rintro _ rfl
  show Cq _ _ _ _ [(0, r)] _
  refine Cq.seq ?_
  refine Cq.region ?_
  refine Sq.assign .plain rfl rfl ?_
  refine Sq.nil ?_
  refine Eq.next ?_
  refine Cq.seq ?_
  refine Cq.region ?_
  refine Sq.move .plain rfl rfl ?_
  obtain ⟨eq1, rsq1, heq1, hlq1⟩ := RowsX.len hr
  refine Sq.val .plain rfl rfl (Still.lenRow (heq1.ext E) und22 rfl) ?_
  rw [hlq1]
  refine Sq.make sl22 .plain rfl rfl rfl rfl (by omega) (fun b2 w3 e4 hlo5 ho6 => ?_)
  have hs7 := Below.size e4
  replace E := E.trans e4
  have hor := OwnRows.made (U := w3.heap.size) (e' := 3) (ho6 w0.heap.size (by omega))
  refine Sq.assign .plain rfl rfl ?_
  refine Sq.nil ?_
  refine Eq.next ?_
  refine Cq.seq ?_
  refine Cq.seq ?_
  refine Cq.region ?_
  refine Sq.assign .plain rfl rfl ?_
  refine Sq.nil ?_
  refine Eq.next ?_
  refine Cq.block ?_
  refine Cq.loop (fun nn w ls => ∃ (k : Int), ls = [(0, r), (3, Value.slice (some ⟨b2, 0, none⟩) (List.length xss : Int).toNat (List.length xss : Int).toNat), (4, Value.int .i64 k)] ∧ (0 ≤ k ∧ k ≤ xss.length) ∧ OwnRows w w0.heap.size w.heap.size 41 3 (Value.slice (some ⟨b2, 0, none⟩) (List.length xss : Int).toNat (List.length xss : Int).toNat) (fillTo xss [] k.toNat) ∧ Ext w0 w ∧ nn = ((xss.length : Int) - k).toNat) _ _ ⟨0, rfl, by omega, by rw [show (0 : Int).toNat = 0 from rfl, fillTo_zero]; exact hor, E, rfl⟩ (.cons rfl (.cons rfl (.cons rfl (.nil)))) ?_
  rintro nn wl1 ls ⟨k, rfl, hk, hor, E, rfl⟩
  have hs8 := Below.size E
  refine Cq.seq ?_
  refine Cq.seq ?_
  refine Cq.region ?_
  refine Sq.move .plain rfl rfl ?_
  refine Sq.move .plain rfl rfl ?_
  obtain ⟨eq9, rsq9, heq9, hlq9⟩ := RowsX.len hr
  refine Sq.val .plain rfl rfl (Still.lenRow (heq9.ext E) und22 rfl) ?_
  rw [hlq9]
  refine Sq.lss .plain rfl rfl rfl ?_
  refine Sq.part (fun c10 => ?_) (fun c10 => ?_)
  · refine Sq.nil ?_
    refine Eq.next ?_
    refine Cq.thn rfl ?_
    refine Cq.skip ?_
    refine Eq.next ?_
    refine Cq.seq ?_
    refine Cq.block ?_
    refine Cq.region ?_
    refine Sq.move .plain rfl rfl ?_
    refine Sq.move .plain rfl rfl ?_
    refine Sq.move .plain rfl rfl ?_
    refine Sq.move .plain rfl rfl ?_
    obtain ⟨eq11, pq11, rq11, hpq11, hrq11⟩ := RowsX.at hr (i := k) (by omega) (by omega)
    refine Sq.val .plain rfl rfl (Still.at' sl22 (hpq11.ext E) rfl rfl) ?_
    refine Sq.val .plain rfl rfl (Still.loadA one41 rfl (hpq11.ext E).1) ?_
    refine Sq.call fn55 .plain rfl rfl (toIntS_c _ _ _ (hrq11.ext E) (by exact hll _ (getD_mem (by omega)))) ?_
    rintro v12 w13 ⟨ho15, e14⟩
    have hs16 := Below.size E
    have hs17 := Below.size e14
    replace E := E.trans e14
    replace hor := hor.ext e14
    obtain ⟨rs3, hq1, hq2, hq3⟩ := OwnRows.put hor (by decide)
    have hfl := fillTo_length xss [] (k := k.toNat) (by omega)
    obtain ⟨pq, hpq⟩ := Own.at hq1 (i := k) (by omega) (by omega)
    refine Sq.atO sl22 hpq .plain rfl rfl rfl ?_
    refine Sq.storeO one41 hq1 hpq .plain rfl rfl (Row.one (Own.row ho15)) (fun w18 g19 ho20 => ?_)
    have hs21 := World.grownBy.size g19
    have hor := hq3 k.toNat _ _ _ (by omega) (Own.mono ho15 (by omega)) (by omega) ho20 g19
    replace E := E.owned hq1 g19 (by omega)
    refine Sq.nil ?_
    refine Eq.end ?_
    refine Eq.next ?_
    refine Cq.region ?_
    refine Sq.move .plain rfl rfl ?_
    refine Sq.add .plain rfl rfl rfl (by omega) ?_
    refine Sq.assign .plain rfl rfl ?_
    refine Sq.nil ?_
    have e1 := toNat_succ hk.1
    refine Eq.round _ _ ⟨k + 1, rfl, by omega, by rw [e1, ← fillTo_succ (by omega)]; exact hor, E, rfl⟩ (by omega) (.cons rfl (.cons rfl (.cons rfl (.nil))))
  refine Sq.nil ?_
  refine Eq.next ?_
  refine Cq.els rfl ?_
  refine Cq.exit ?_
  refine Eq.past ?_
  refine Eq.past ?_
  refine Eq.hit ?_
  refine Eq.next ?_
  refine Cq.seq ?_
  refine Cq.region ?_
  refine Sq.move .plain rfl rfl ?_
  refine Sq.assign .plain rfl rfl ?_
  refine Sq.nil ?_
  refine Eq.next ?_
  refine Cq.ret ?_
  refine Eq.ret1 rfl rfl ?_
  rw [fillTo_all (by omega)] at hor
  exact ⟨hor, E⟩
set_option maxRecDepth 100000 in
theorem toA_c (w0 : World) (a : A) (nx ac : Value) (hnx : RowsX w0 nx a.next) (hac : BoolsX w0 ac a.acc) (hsm : SmX a) : Ret Tryd.prog 13 #[Value.agg #[Value.int .i64 a.al, nx, ac]] w0 (fun v w => OwnA w w0.heap.size v a ∧ Ext w0 w) := by
  have E := Ext.refl w0
  refine Ret.of (args := [Value.agg #[Value.int .i64 a.al, nx, ac]]) Tryd.func13 rfl rfl rfl ?_
  rintro _ rfl
  show Cq _ _ _ _ [(0, Value.agg #[Value.int .i64 a.al, nx, ac])] _
  refine Cq.seq ?_
  refine Cq.region ?_
  refine Sq.box .plain rfl rfl (fun b1 w2 e3 hB4 hlo5 => ?_)
  have hd6 := Nat.le_trans (Below.size E) hlo5
  have hs7 := Below.size e3
  replace E := E.trans e3
  refine Sq.alloc zero25 .plain rfl (fun b8 w9 e10 hB11 hlo12 => ?_)
  have hd13 := Nat.le_trans (Below.size E) hlo12
  have hd14 := Nat.lt_of_lt_of_le hB4.lt hlo12
  have hs15 := Below.size e10
  replace E := E.trans e10
  replace hB4 := hB4.ext e10
  refine Sq.nil ?_
  refine Eq.next ?_
  refine Cq.seq ?_
  refine Cq.region ?_
  refine Sq.alloc zero25 .plain rfl (fun b16 w17 e18 hB19 hlo20 => ?_)
  have hd21 := Nat.le_trans (Below.size E) hlo20
  have hd22 := Nat.lt_of_lt_of_le hB4.lt hlo20
  have hd23 := Nat.lt_of_lt_of_le hB11.lt hlo20
  have hs24 := Below.size e18
  replace E := E.trans e18
  replace hB4 := hB4.ext e18
  replace hB11 := hB11.ext e18
  refine Sq.nil ?_
  refine Eq.next ?_
  refine Cq.seq ?_
  refine Cq.region ?_
  refine Sq.fieldAddr fld31_0 .plain rfl rfl ?_
  refine Sq.loadB one3 .plain rfl rfl hB4 rfl ?_
  refine Sq.fieldAddr fld25_0 .plain rfl rfl ?_
  refine Sq.store one3 .plain rfl rfl rfl hB19 (by simp) (fun w25 g26 hB27 => ?_)
  have hs28 := World.grownBy.size g26
  replace E := E.grown g26 (fun k hk => by injection hk with hk; subst hk; omega)
  replace hB4 := hB4.grown g26 (by intro h; injection h with h; omega)
  replace hB11 := hB11.grown g26 (by intro h; injection h with h; omega)
  replace hB19 := hB27
  refine Sq.nil ?_
  refine Eq.next ?_
  refine Cq.seq ?_
  refine Cq.region ?_
  refine Sq.fieldAddr fld31_1 .plain rfl rfl ?_
  refine Sq.loadB one22 .plain rfl rfl hB4 rfl ?_
  have hd33 := hB4.lt
  have hd34 := hB11.lt
  have hd35 := hB19.lt
  refine Sq.call fn34 .plain rfl rfl (toIntSS_c _ _ _ (hnx.ext E) hsm.1 hsm.2.1) ?_
  rintro v29 w30 ⟨ho32, e31⟩
  have hs36 := Below.size E
  have hs37 := Below.size e31
  replace E := E.trans e31
  replace hB4 := hB4.ext e31
  replace hB11 := hB11.ext e31
  replace hB19 := hB19.ext e31
  refine Sq.fieldAddr fld25_1 .plain rfl rfl ?_
  refine Sq.store one22 .plain rfl rfl (Rows.one (OwnRows.rows ho32)) hB19 (by simp) (fun w38 g39 hB40 => ?_)
  have hs41 := World.grownBy.size g39
  replace E := E.grown g39 (fun k hk => by injection hk with hk; subst hk; omega)
  replace hB4 := hB4.grown g39 (by intro h; injection h with h; omega)
  replace hB11 := hB11.grown g39 (by intro h; injection h with h; omega)
  replace ho32 := ho32.stored g39 hB19 (by decide) (by decide)
  replace hB19 := hB40
  refine Sq.nil ?_
  refine Eq.next ?_
  refine Cq.seq ?_
  refine Cq.region ?_
  refine Sq.fieldAddr fld31_2 .plain rfl rfl ?_
  refine Sq.loadB one23 .plain rfl rfl hB4 rfl ?_
  have hd46 := hB4.lt
  have hd47 := hB11.lt
  have hd48 := hB19.lt
  refine Sq.call fn35 .plain rfl rfl (toBoolS_c _ _ _ (hac.ext E) (by exact hsm.2.2)) ?_
  rintro v42 w43 ⟨ho45, e44⟩
  have hs49 := Below.size E
  have hs50 := Below.size e44
  replace E := E.trans e44
  replace hB11 := hB11.ext e44
  replace hB19 := hB19.ext e44
  replace ho32 := ho32.ext e44
  refine Sq.fieldAddr fld25_2 .plain rfl rfl ?_
  refine Sq.store one23 .plain rfl rfl (Row.one (Own.row ho45)) hB19 (by simp) (fun w51 g52 hB53 => ?_)
  have hs54 := World.grownBy.size g52
  replace E := E.grown g52 (fun k hk => by injection hk with hk; subst hk; omega)
  replace hB11 := hB11.grown g52 (by intro h; injection h with h; omega)
  replace ho32 := ho32.stored g52 hB19 (by decide) (by decide)
  replace ho45 := ho45.stored g52 hB19 (by decide)
  replace hB19 := hB53
  refine Sq.nil ?_
  refine Eq.next ?_
  refine Cq.seq ?_
  refine Cq.region ?_
  refine Sq.loadAgg agg25 .plain rfl rfl hB19 rfl ?_
  refine Sq.storeAgg agg25 .plain rfl rfl (one_cons rfl (one_cons (Rows.one (OwnRows.rows ho32)) (one_cons (Row.one (Own.row ho45)) one_nil))) hB11 rfl rfl (fun w55 g56 hB57 => ?_)
  have hs58 := World.grownBy.size g56
  replace E := E.grown g56 (fun k hk => by injection hk with hk; subst hk; omega)
  replace ho32 := ho32.stored g56 hB11 (by decide) (by decide)
  replace ho45 := ho45.stored g56 hB11 (by decide)
  replace hB11 := hB57
  refine Sq.nil ?_
  refine Eq.next ?_
  refine Cq.ret ?_
  refine Eq.retCell rfl rfl agg25 hB11 rfl ?_
  exact ⟨⟨_, _, rfl, OwnRows.now (OwnRows.mono ho32 (by omega)), Own.mono ho45 (by omega)⟩, E⟩
set_option maxRecDepth 100000 in
theorem eqIntS_c (w0 : World) (xs ys : List Int) (r q : Value) (hr : Ints w0 3 r xs) (hq : Ints w0 3 q ys) (hx : xs.length ≤ 1000000000) : Ret Tryd.prog 47 #[r, q] w0 (fun v w => v = .bool (xs == ys) ∧ Ext w0 w) := by
  have E := Ext.refl w0
  refine Ret.of (args := [r, q]) Tryd.func47 rfl rfl rfl ?_
  rintro _ rfl
  show Cq _ _ _ _ [(0, r), (1, q)] _
  refine Cq.seq ?_
  refine Cq.region ?_
  refine Sq.assign .plain rfl rfl ?_
  refine Sq.nil ?_
  refine Eq.next ?_
  refine Cq.seq ?_
  refine Cq.seq ?_
  refine Cq.region ?_
  refine Sq.move .plain rfl rfl ?_
  refine Sq.lenInts (hr.ext E) .plain rfl und41 rfl ?_
  refine Sq.move .plain rfl rfl ?_
  refine Sq.lenInts (hq.ext E) .plain rfl und41 rfl ?_
  refine Sq.neq .plain rfl rfl rfl ?_
  refine Sq.part (fun c1 => ?_) (fun c1 => ?_)
  · refine Sq.nil ?_
    refine Eq.next ?_
    refine Cq.thn rfl ?_
    refine Cq.seq ?_
    refine Cq.region ?_
    refine Sq.assign .plain rfl rfl ?_
    refine Sq.nil ?_
    refine Eq.next ?_
    refine Cq.ret ?_
    refine Eq.pastRet ?_
    refine Eq.ret1 rfl rfl ?_
    exact ⟨by first | rw [beq_len (by omega)] | rw [beq_at (k := k.toNat) 0 (by simpa using hne)] | rw [beq_done (k := k.toNat) hp (by omega) (by omega)], E⟩
  refine Sq.nil ?_
  refine Eq.next ?_
  refine Cq.els rfl ?_
  refine Cq.skip ?_
  refine Eq.next ?_
  refine Cq.seq ?_
  refine Cq.seq ?_
  refine Cq.region ?_
  refine Sq.assign .plain rfl rfl ?_
  refine Sq.nil ?_
  refine Eq.next ?_
  refine Cq.block ?_
  refine Cq.loop (fun nn w ls => ∃ (k : Int), ls = [(0, r), (1, q), (5, Value.int .i64 k)] ∧ xs.length = ys.length ∧ (0 ≤ k ∧ k ≤ xs.length) ∧ xs.take k.toNat = ys.take k.toNat ∧ Ext w0 w ∧ nn = ((xs.length : Int) - k).toNat) _ _ ⟨0, rfl, by omega, by omega, rfl, E, rfl⟩ (.cons rfl (.cons rfl (.cons rfl (.nil)))) ?_
  rintro nn wl1 ls ⟨k, rfl, hl, hk, hp, E, rfl⟩
  have hs2 := Below.size E
  refine Cq.seq ?_
  refine Cq.seq ?_
  refine Cq.region ?_
  refine Sq.move .plain rfl rfl ?_
  refine Sq.move .plain rfl rfl ?_
  refine Sq.lenInts (hr.ext E) .plain rfl und41 rfl ?_
  refine Sq.lss .plain rfl rfl rfl ?_
  refine Sq.part (fun c3 => ?_) (fun c3 => ?_)
  · refine Sq.nil ?_
    refine Eq.next ?_
    refine Cq.thn rfl ?_
    refine Cq.skip ?_
    refine Eq.next ?_
    refine Cq.seq ?_
    refine Cq.block ?_
    refine Cq.seq ?_
    refine Cq.draw 9 none mixed (fun w4 e5 => ?_)
    have hs6 := Below.size e5
    replace E := E.trans e5
    have E_w4 := E
    refine Gq.st 0 rfl (by kernel_rfl) rfl .plain rfl (fun _ _ _ h => h) (World.grownBy.refl w4 _) (fun w' x => Still.move rfl) ?_
    refine Gq.st 1 rfl (by kernel_rfl) rfl .plain rfl (fun _ _ _ h => h) (World.grownBy.refl w4 _) (fun w' x => Still.move rfl) ?_
    obtain ⟨p7, hp8_w4⟩ := Ints.at hr (i := k) (by omega) (by omega)
    refine Gq.st 2 rfl (by kernel_rfl) rfl .plain rfl (fun _ _ _ h => h) (World.grownBy.refl w4 _) (fun w' x => Still.at' sl41 hp8_w4 rfl rfl) ?_
    refine Gq.st 3 rfl (by kernel_rfl) rfl .plain rfl (fun _ _ _ h => h) (World.grownBy.refl w4 _) (fun w' x => Still.loadA one3 rfl (hp8_w4.ext (E_w4.trans (Ext.of_grown x))).1) ?_
    refine Gq.st 4 rfl (by kernel_rfl) rfl .plain rfl (fun _ _ _ h => h) (World.grownBy.refl w4 _) (fun w' x => Still.move rfl) ?_
    refine Gq.st 5 rfl (by kernel_rfl) rfl .plain rfl (fun _ _ _ h => h) (World.grownBy.refl w4 _) (fun w' x => Still.move rfl) ?_
    obtain ⟨p9, hp10_w4⟩ := Ints.at hq (i := k) (by omega) (by omega)
    refine Gq.st 6 rfl (by kernel_rfl) rfl .plain rfl (fun _ _ _ h => h) (World.grownBy.refl w4 _) (fun w' x => Still.at' sl41 hp10_w4 rfl rfl) ?_
    refine Gq.st 7 rfl (by kernel_rfl) rfl .plain rfl (fun _ _ _ h => h) (World.grownBy.refl w4 _) (fun w' x => Still.loadA one3 rfl (hp10_w4.ext (E_w4.trans (Ext.of_grown x))).1) ?_
    refine Gq.st 8 rfl (by kernel_rfl) rfl .plain rfl (fun _ _ _ h => h) (World.grownBy.refl w4 _) (fun w' x => Still.neq rfl rfl) ?_
    refine Gq.part (fun hne => ?_) (fun hne => ?_)
    · refine Gq.done (by kernel_rfl) ?_
      refine Eq.next ?_
      refine Cq.thn rfl ?_
      refine Cq.seq ?_
      refine Cq.region ?_
      refine Sq.assign .plain rfl rfl ?_
      refine Sq.nil ?_
      refine Eq.next ?_
      refine Cq.ret ?_
      refine Eq.outRet ?_
      refine Eq.pastRet ?_
      refine Eq.pastRet ?_
      refine Eq.outRet ?_
      refine Eq.pastRet ?_
      refine Eq.ret1 rfl rfl ?_
      exact ⟨by first | rw [beq_len (by omega)] | rw [beq_at (k := k.toNat) 0 (by simpa using hne)] | rw [beq_done (k := k.toNat) hp (by omega) (by omega)], E⟩
    refine Gq.done (by kernel_rfl) ?_
    refine Eq.next ?_
    refine Cq.els rfl ?_
    refine Cq.skip ?_
    refine Eq.end ?_
    refine Eq.next ?_
    refine Cq.region ?_
    refine Sq.move .plain rfl rfl ?_
    refine Sq.add .plain rfl rfl rfl (by omega) ?_
    refine Sq.assign .plain rfl rfl ?_
    refine Sq.nil ?_
    have e1 := toNat_succ hk.1
    refine Eq.round _ _ ⟨k + 1, rfl, hl, by omega, by rw [e1]; exact take_eq_snoc 0 hl hp (by omega) (by simpa using hne), E, rfl⟩ (by omega) (.cons rfl (.cons rfl (.cons rfl (.nil))))
  refine Sq.nil ?_
  refine Eq.next ?_
  refine Cq.els rfl ?_
  refine Cq.exit ?_
  refine Eq.past ?_
  refine Eq.past ?_
  refine Eq.hit ?_
  refine Eq.next ?_
  refine Cq.seq ?_
  refine Cq.region ?_
  refine Sq.assign .plain rfl rfl ?_
  refine Sq.nil ?_
  refine Eq.next ?_
  refine Cq.ret ?_
  refine Eq.ret1 rfl rfl ?_
  exact ⟨by first | rw [beq_len (by omega)] | rw [beq_at (k := k.toNat) 0 (by simpa using hne)] | rw [beq_done (k := k.toNat) hp (by omega) (by omega)], E⟩
set_option maxRecDepth 100000 in
theorem eqBoolS_c (w0 : World) (xs ys : List Bool) (r q : Value) (hr : Bools w0 4 r xs) (hq : Bools w0 4 q ys) (hx : xs.length ≤ 1000000000) : Ret Tryd.prog 24 #[r, q] w0 (fun v w => v = .bool (xs == ys) ∧ Ext w0 w) := by
  have E := Ext.refl w0
  refine Ret.of (args := [r, q]) Tryd.func24 rfl rfl rfl ?_
  rintro _ rfl
  show Cq _ _ _ _ [(0, r), (1, q)] _
  refine Cq.seq ?_
  refine Cq.region ?_
  refine Sq.assign .plain rfl rfl ?_
  refine Sq.nil ?_
  refine Eq.next ?_
  refine Cq.seq ?_
  refine Cq.seq ?_
  refine Cq.region ?_
  refine Sq.move .plain rfl rfl ?_
  refine Sq.lenBools (hr.ext E) .plain rfl und23 rfl ?_
  refine Sq.move .plain rfl rfl ?_
  refine Sq.lenBools (hq.ext E) .plain rfl und23 rfl ?_
  refine Sq.neq .plain rfl rfl rfl ?_
  refine Sq.part (fun c1 => ?_) (fun c1 => ?_)
  · refine Sq.nil ?_
    refine Eq.next ?_
    refine Cq.thn rfl ?_
    refine Cq.seq ?_
    refine Cq.region ?_
    refine Sq.assign .plain rfl rfl ?_
    refine Sq.nil ?_
    refine Eq.next ?_
    refine Cq.ret ?_
    refine Eq.pastRet ?_
    refine Eq.ret1 rfl rfl ?_
    exact ⟨by first | rw [beq_len (by omega)] | rw [beq_at (k := k.toNat) false (by simpa using hne)] | rw [beq_done (k := k.toNat) hp (by omega) (by omega)], E⟩
  refine Sq.nil ?_
  refine Eq.next ?_
  refine Cq.els rfl ?_
  refine Cq.skip ?_
  refine Eq.next ?_
  refine Cq.seq ?_
  refine Cq.seq ?_
  refine Cq.region ?_
  refine Sq.assign .plain rfl rfl ?_
  refine Sq.nil ?_
  refine Eq.next ?_
  refine Cq.block ?_
  refine Cq.loop (fun nn w ls => ∃ (k : Int), ls = [(0, r), (1, q), (5, Value.int .i64 k)] ∧ xs.length = ys.length ∧ (0 ≤ k ∧ k ≤ xs.length) ∧ xs.take k.toNat = ys.take k.toNat ∧ Ext w0 w ∧ nn = ((xs.length : Int) - k).toNat) _ _ ⟨0, rfl, by omega, by omega, rfl, E, rfl⟩ (.cons rfl (.cons rfl (.cons rfl (.nil)))) ?_
  rintro nn wl1 ls ⟨k, rfl, hl, hk, hp, E, rfl⟩
  have hs2 := Below.size E
  refine Cq.seq ?_
  refine Cq.seq ?_
  refine Cq.region ?_
  refine Sq.move .plain rfl rfl ?_
  refine Sq.move .plain rfl rfl ?_
  refine Sq.lenBools (hr.ext E) .plain rfl und23 rfl ?_
  refine Sq.lss .plain rfl rfl rfl ?_
  refine Sq.part (fun c3 => ?_) (fun c3 => ?_)
  · refine Sq.nil ?_
    refine Eq.next ?_
    refine Cq.thn rfl ?_
    refine Cq.skip ?_
    refine Eq.next ?_
    refine Cq.seq ?_
    refine Cq.block ?_
    refine Cq.seq ?_
    refine Cq.draw 9 none mixed (fun w4 e5 => ?_)
    have hs6 := Below.size e5
    replace E := E.trans e5
    have E_w4 := E
    refine Gq.st 0 rfl (by kernel_rfl) rfl .plain rfl (fun _ _ _ h => h) (World.grownBy.refl w4 _) (fun w' x => Still.move rfl) ?_
    refine Gq.st 1 rfl (by kernel_rfl) rfl .plain rfl (fun _ _ _ h => h) (World.grownBy.refl w4 _) (fun w' x => Still.move rfl) ?_
    obtain ⟨p7, hp8_w4⟩ := Bools.at hr (i := k) (by omega) (by omega)
    refine Gq.st 2 rfl (by kernel_rfl) rfl .plain rfl (fun _ _ _ h => h) (World.grownBy.refl w4 _) (fun w' x => Still.at' sl23 hp8_w4 rfl rfl) ?_
    refine Gq.st 3 rfl (by kernel_rfl) rfl .plain rfl (fun _ _ _ h => h) (World.grownBy.refl w4 _) (fun w' x => Still.loadA one4 rfl (hp8_w4.ext (E_w4.trans (Ext.of_grown x))).1) ?_
    refine Gq.st 4 rfl (by kernel_rfl) rfl .plain rfl (fun _ _ _ h => h) (World.grownBy.refl w4 _) (fun w' x => Still.move rfl) ?_
    refine Gq.st 5 rfl (by kernel_rfl) rfl .plain rfl (fun _ _ _ h => h) (World.grownBy.refl w4 _) (fun w' x => Still.move rfl) ?_
    obtain ⟨p9, hp10_w4⟩ := Bools.at hq (i := k) (by omega) (by omega)
    refine Gq.st 6 rfl (by kernel_rfl) rfl .plain rfl (fun _ _ _ h => h) (World.grownBy.refl w4 _) (fun w' x => Still.at' sl23 hp10_w4 rfl rfl) ?_
    refine Gq.st 7 rfl (by kernel_rfl) rfl .plain rfl (fun _ _ _ h => h) (World.grownBy.refl w4 _) (fun w' x => Still.loadA one4 rfl (hp10_w4.ext (E_w4.trans (Ext.of_grown x))).1) ?_
    refine Gq.st 8 rfl (by kernel_rfl) rfl .plain rfl (fun _ _ _ h => h) (World.grownBy.refl w4 _) (fun w' x => Still.neqB und4 rfl rfl) ?_
    refine Gq.partB (fun hne => ?_) (fun hne => ?_)
    · refine Gq.done (by kernel_rfl) ?_
      refine Eq.next ?_
      refine Cq.thn rfl ?_
      refine Cq.seq ?_
      refine Cq.region ?_
      refine Sq.assign .plain rfl rfl ?_
      refine Sq.nil ?_
      refine Eq.next ?_
      refine Cq.ret ?_
      refine Eq.outRet ?_
      refine Eq.pastRet ?_
      refine Eq.pastRet ?_
      refine Eq.outRet ?_
      refine Eq.pastRet ?_
      refine Eq.ret1 rfl rfl ?_
      exact ⟨by first | rw [beq_len (by omega)] | rw [beq_at (k := k.toNat) false (by simpa using hne)] | rw [beq_done (k := k.toNat) hp (by omega) (by omega)], E⟩
    refine Gq.done (by kernel_rfl) ?_
    refine Eq.next ?_
    refine Cq.els rfl ?_
    refine Cq.skip ?_
    refine Eq.end ?_
    refine Eq.next ?_
    refine Cq.region ?_
    refine Sq.move .plain rfl rfl ?_
    refine Sq.add .plain rfl rfl rfl (by omega) ?_
    refine Sq.assign .plain rfl rfl ?_
    refine Sq.nil ?_
    have e1 := toNat_succ hk.1
    refine Eq.round _ _ ⟨k + 1, rfl, hl, by omega, by rw [e1]; exact take_eq_snoc false hl hp (by omega) (by simpa using hne), E, rfl⟩ (by omega) (.cons rfl (.cons rfl (.cons rfl (.nil))))
  refine Sq.nil ?_
  refine Eq.next ?_
  refine Cq.els rfl ?_
  refine Cq.exit ?_
  refine Eq.past ?_
  refine Eq.past ?_
  refine Eq.hit ?_
  refine Eq.next ?_
  refine Cq.seq ?_
  refine Cq.region ?_
  refine Sq.assign .plain rfl rfl ?_
  refine Sq.nil ?_
  refine Eq.next ?_
  refine Cq.ret ?_
  refine Eq.ret1 rfl rfl ?_
  exact ⟨by first | rw [beq_len (by omega)] | rw [beq_at (k := k.toNat) false (by simpa using hne)] | rw [beq_done (k := k.toNat) hp (by omega) (by omega)], E⟩
set_option maxRecDepth 100000 in
theorem eqIntSS_c (w0 : World) (xss yss : List (List Int)) (r q : Value) (hr : Rows w0 41 3 r xss) (hq : Rows w0 41 3 q yss) (hx : xss.length ≤ 1048576) (hxx : ∀ r ∈ xss, r.length ≤ 1048576) : Ret Tryd.prog 23 #[r, q] w0 (fun v w => v = .bool (xss == yss) ∧ Ext w0 w) := by
  have E := Ext.refl w0
  refine Ret.of (args := [r, q]) Tryd.func23 rfl rfl rfl ?_
  rintro _ rfl
  show Cq _ _ _ _ [(0, r), (1, q)] _
  refine Cq.seq ?_
  refine Cq.region ?_
  refine Sq.assign .plain rfl rfl ?_
  refine Sq.nil ?_
  refine Eq.next ?_
  refine Cq.seq ?_
  refine Cq.seq ?_
  refine Cq.region ?_
  refine Sq.move .plain rfl rfl ?_
  refine Sq.lenRows (hr.ext E) .plain rfl und22 rfl ?_
  refine Sq.move .plain rfl rfl ?_
  refine Sq.lenRows (hq.ext E) .plain rfl und22 rfl ?_
  refine Sq.neq .plain rfl rfl rfl ?_
  refine Sq.part (fun c1 => ?_) (fun c1 => ?_)
  · refine Sq.nil ?_
    refine Eq.next ?_
    refine Cq.thn rfl ?_
    refine Cq.seq ?_
    refine Cq.region ?_
    refine Sq.assign .plain rfl rfl ?_
    refine Sq.nil ?_
    refine Eq.next ?_
    refine Cq.ret ?_
    refine Eq.pastRet ?_
    refine Eq.ret1 rfl rfl ?_
    exact ⟨by first | rw [beq_len (by omega)] | rw [beq_at (k := k.toNat) [] (by simpa using hne)] | rw [beq_done (k := k.toNat) hp (by omega) (by omega)], E⟩
  refine Sq.nil ?_
  refine Eq.next ?_
  refine Cq.els rfl ?_
  refine Cq.skip ?_
  refine Eq.next ?_
  refine Cq.seq ?_
  refine Cq.seq ?_
  refine Cq.region ?_
  refine Sq.assign .plain rfl rfl ?_
  refine Sq.nil ?_
  refine Eq.next ?_
  refine Cq.block ?_
  refine Cq.loop (fun nn w ls => ∃ (k : Int), ls = [(0, r), (1, q), (5, Value.int .i64 k)] ∧ xss.length = yss.length ∧ (0 ≤ k ∧ k ≤ xss.length) ∧ xss.take k.toNat = yss.take k.toNat ∧ Ext w0 w ∧ nn = ((xss.length : Int) - k).toNat) _ _ ⟨0, rfl, by omega, by omega, rfl, E, rfl⟩ (.cons rfl (.cons rfl (.cons rfl (.nil)))) ?_
  rintro nn wl1 ls ⟨k, rfl, hl, hk, hp, E, rfl⟩
  have hs2 := Below.size E
  refine Cq.seq ?_
  refine Cq.seq ?_
  refine Cq.region ?_
  refine Sq.move .plain rfl rfl ?_
  refine Sq.move .plain rfl rfl ?_
  refine Sq.lenRows (hr.ext E) .plain rfl und22 rfl ?_
  refine Sq.lss .plain rfl rfl rfl ?_
  refine Sq.part (fun c3 => ?_) (fun c3 => ?_)
  · refine Sq.nil ?_
    refine Eq.next ?_
    refine Cq.thn rfl ?_
    refine Cq.skip ?_
    refine Eq.next ?_
    refine Cq.seq ?_
    refine Cq.block ?_
    refine Cq.seq ?_
    refine Cq.draw 10 none mixed (fun w4 e5 => ?_)
    have hs6 := Below.size e5
    replace E := E.trans e5
    have E_w4 := E
    refine Gq.st 0 rfl (by kernel_rfl) rfl .plain rfl (fun _ _ _ h => h) (World.grownBy.refl w4 _) (fun w' x => Still.move rfl) ?_
    refine Gq.st 1 rfl (by kernel_rfl) rfl .plain rfl (fun _ _ _ h => h) (World.grownBy.refl w4 _) (fun w' x => Still.move rfl) ?_
    obtain ⟨p7, r9, hp8_w4, hr10⟩ := Rows.at hr (i := k) (by omega) (by omega)
    refine Gq.st 2 rfl (by kernel_rfl) rfl .plain rfl (fun _ _ _ h => h) (World.grownBy.refl w4 _) (fun w' x => Still.at' sl22 hp8_w4 rfl rfl) ?_
    refine Gq.st 3 rfl (by kernel_rfl) rfl .plain rfl (fun _ _ _ h => h) (World.grownBy.refl w4 _) (fun w' x => Still.loadA one41 rfl (hp8_w4.ext (E_w4.trans (Ext.of_grown x))).1) ?_
    refine Gq.st 4 rfl (by kernel_rfl) rfl .plain rfl (fun _ _ _ h => h) (World.grownBy.refl w4 _) (fun w' x => Still.move rfl) ?_
    refine Gq.st 5 rfl (by kernel_rfl) rfl .plain rfl (fun _ _ _ h => h) (World.grownBy.refl w4 _) (fun w' x => Still.move rfl) ?_
    obtain ⟨p11, r13, hp12_w4, hr14⟩ := Rows.at hq (i := k) (by omega) (by omega)
    refine Gq.st 6 rfl (by kernel_rfl) rfl .plain rfl (fun _ _ _ h => h) (World.grownBy.refl w4 _) (fun w' x => Still.at' sl22 hp12_w4 rfl rfl) ?_
    refine Gq.st 7 rfl (by kernel_rfl) rfl .plain rfl (fun _ _ _ h => h) (World.grownBy.refl w4 _) (fun w' x => Still.loadA one41 rfl (hp12_w4.ext (E_w4.trans (Ext.of_grown x))).1) ?_
    refine Gq.one 8 rfl (by kernel_rfl) ?_
    refine Sq.call fn47 .plain rfl rfl (eqIntS_c _ _ _ _ _ (hr10.ext E) (hr14.ext E) (by exact Nat.le_trans (hxx _ (getD_mem (by omega))) (by decide))) ?_
    rintro _ w16 ⟨rfl, e17⟩
    have hs18 := Below.size E
    have hs19 := Below.size e17
    replace E := E.trans e17
    refine Sq.partB (fun hne => ?_) (fun hne => ?_)
    · refine Sq.nil ?_
      refine Eq.goes (fun _ => (grown_trans (World.grownBy.refl w4 _) (Ext.to_grown e17 _))) ?_
      refine Gq.st 9 rfl (by kernel_rfl) rfl .plain rfl (fun _ _ _ h => h) (grown_trans (World.grownBy.refl w4 _) (Ext.to_grown e17 _)) (fun w' x => Still.notT rfl) ?_
      refine Gq.done (by kernel_rfl) ?_
      refine Eq.next ?_
      refine Cq.els rfl ?_
      refine Cq.skip ?_
      refine Eq.end ?_
      refine Eq.next ?_
      refine Cq.region ?_
      refine Sq.move .plain rfl rfl ?_
      refine Sq.add .plain rfl rfl rfl (by omega) ?_
      refine Sq.assign .plain rfl rfl ?_
      refine Sq.nil ?_
      have e1 := toNat_succ hk.1
      refine Eq.round _ _ ⟨k + 1, rfl, hl, by omega, by rw [e1]; exact take_eq_snoc [] hl hp (by omega) (by simpa using hne), E, rfl⟩ (by omega) (.cons rfl (.cons rfl (.cons rfl (.nil))))
    refine Sq.nil ?_
    refine Eq.goes (fun _ => (grown_trans (World.grownBy.refl w4 _) (Ext.to_grown e17 _))) ?_
    refine Gq.st 9 rfl (by kernel_rfl) rfl .plain rfl (fun _ _ _ h => h) (grown_trans (World.grownBy.refl w4 _) (Ext.to_grown e17 _)) (fun w' x => Still.notF rfl) ?_
    refine Gq.done (by kernel_rfl) ?_
    refine Eq.next ?_
    refine Cq.thn rfl ?_
    refine Cq.seq ?_
    refine Cq.region ?_
    refine Sq.assign .plain rfl rfl ?_
    refine Sq.nil ?_
    refine Eq.next ?_
    refine Cq.ret ?_
    refine Eq.outRet ?_
    refine Eq.pastRet ?_
    refine Eq.pastRet ?_
    refine Eq.outRet ?_
    refine Eq.pastRet ?_
    refine Eq.ret1 rfl rfl ?_
    exact ⟨by first | rw [beq_len (by omega)] | rw [beq_at (k := k.toNat) [] (by simpa using hne)] | rw [beq_done (k := k.toNat) hp (by omega) (by omega)], E⟩
  refine Sq.nil ?_
  refine Eq.next ?_
  refine Cq.els rfl ?_
  refine Cq.exit ?_
  refine Eq.past ?_
  refine Eq.past ?_
  refine Eq.hit ?_
  refine Eq.next ?_
  refine Cq.seq ?_
  refine Cq.region ?_
  refine Sq.assign .plain rfl rfl ?_
  refine Sq.nil ?_
  refine Eq.next ?_
  refine Cq.ret ?_
  refine Eq.ret1 rfl rfl ?_
  exact ⟨by first | rw [beq_len (by omega)] | rw [beq_at (k := k.toNat) [] (by simpa using hne)] | rw [beq_done (k := k.toNat) hp (by omega) (by omega)], E⟩
set_option maxRecDepth 100000 in
theorem eqAut_c (w0 : World) (a b : A) (nx ac nx' ac' : Value) (hnx : Rows w0 41 3 nx a.next) (hac : Bools w0 4 ac a.acc) (hnx' : Rows w0 41 3 nx' b.next) (hac' : Bools w0 4 ac' b.acc) (hsm : SmX a) : Ret Tryd.prog 8 #[Value.agg #[Value.int .i64 a.al, nx, ac], Value.agg #[Value.int .i64 b.al, nx', ac']] w0 (fun v w => v = .bool (eqA a b) ∧ Ext w0 w) := by
  have E := Ext.refl w0
  refine Ret.of (args := [Value.agg #[Value.int .i64 a.al, nx, ac], Value.agg #[Value.int .i64 b.al, nx', ac']]) Tryd.func8 rfl rfl rfl ?_
  rintro _ rfl
  show Cq _ _ _ _ [(0, Value.agg #[Value.int .i64 a.al, nx, ac]), (1, Value.agg #[Value.int .i64 b.al, nx', ac'])] _
  refine Cq.seq ?_
  refine Cq.region ?_
  refine Sq.box .plain rfl rfl (fun b1 w2 e3 hB4 hlo5 => ?_)
  have hd6 := Nat.le_trans (Below.size E) hlo5
  have hs7 := Below.size e3
  replace E := E.trans e3
  refine Sq.box .plain rfl rfl (fun b8 w9 e10 hB11 hlo12 => ?_)
  have hd13 := Nat.le_trans (Below.size E) hlo12
  have hd14 := Nat.lt_of_lt_of_le hB4.lt hlo12
  have hs15 := Below.size e10
  replace E := E.trans e10
  replace hB4 := hB4.ext e10
  refine Sq.assign .plain rfl rfl ?_
  refine Sq.nil ?_
  refine Eq.next ?_
  refine Cq.seq ?_
  refine Cq.seq ?_
  refine Cq.region ?_
  refine Sq.fieldAddr fld25_0 .plain rfl rfl ?_
  refine Sq.loadB one3 .plain rfl rfl hB4 rfl ?_
  refine Sq.fieldAddr fld25_0 .plain rfl rfl ?_
  refine Sq.loadB one3 .plain rfl rfl hB11 rfl ?_
  refine Sq.neq .plain rfl rfl rfl ?_
  refine Sq.part (fun h0 => ?_) (fun h0 => ?_)
  · refine Sq.nil ?_
    refine Eq.next ?_
    refine Cq.thn rfl ?_
    refine Cq.seq ?_
    refine Cq.region ?_
    refine Sq.assign .plain rfl rfl ?_
    refine Sq.nil ?_
    refine Eq.next ?_
    refine Cq.ret ?_
    refine Eq.pastRet ?_
    refine Eq.ret1 rfl rfl ?_
    exact ⟨by simp [eqA, h0], E⟩
  refine Sq.nil ?_
  refine Eq.next ?_
  refine Cq.els rfl ?_
  refine Cq.skip ?_
  refine Eq.next ?_
  refine Cq.seq ?_
  refine Cq.seq ?_
  refine Cq.region ?_
  refine Sq.fieldAddr fld25_1 .plain rfl rfl ?_
  refine Sq.loadB one22 .plain rfl rfl hB4 rfl ?_
  refine Sq.fieldAddr fld25_1 .plain rfl rfl ?_
  refine Sq.loadB one22 .plain rfl rfl hB11 rfl ?_
  have hd19 := hB4.lt
  have hd20 := hB11.lt
  refine Sq.call fn23 .plain rfl rfl (eqIntSS_c _ _ _ _ _ (hnx.ext E) (hnx'.ext E) hsm.1 hsm.2.1) ?_
  rintro _ w17 ⟨rfl, e18⟩
  have hs21 := Below.size E
  have hs22 := Below.size e18
  replace E := E.trans e18
  replace hB4 := hB4.ext e18
  replace hB11 := hB11.ext e18
  refine Sq.partB (fun h1 => ?_) (fun h1 => ?_)
  · refine Sq.notT .plain rfl rfl ?_
    refine Sq.nil ?_
    refine Eq.next ?_
    refine Cq.els rfl ?_
    refine Cq.skip ?_
    refine Eq.next ?_
    refine Cq.seq ?_
    refine Cq.seq ?_
    refine Cq.region ?_
    refine Sq.fieldAddr fld25_2 .plain rfl rfl ?_
    refine Sq.loadB one23 .plain rfl rfl hB4 rfl ?_
    refine Sq.fieldAddr fld25_2 .plain rfl rfl ?_
    refine Sq.loadB one23 .plain rfl rfl hB11 rfl ?_
    have hd26 := hB4.lt
    have hd27 := hB11.lt
    refine Sq.call fn24 .plain rfl rfl (eqBoolS_c _ _ _ _ _ (hac.ext E) (hac'.ext E) (by exact Nat.le_trans hsm.2.2 (by decide))) ?_
    rintro _ w24 ⟨rfl, e25⟩
    have hs28 := Below.size E
    have hs29 := Below.size e25
    replace E := E.trans e25
    refine Sq.partB (fun h2 => ?_) (fun h2 => ?_)
    · refine Sq.notT .plain rfl rfl ?_
      refine Sq.nil ?_
      refine Eq.next ?_
      refine Cq.els rfl ?_
      refine Cq.skip ?_
      refine Eq.next ?_
      refine Cq.seq ?_
      refine Cq.region ?_
      refine Sq.assign .plain rfl rfl ?_
      refine Sq.nil ?_
      refine Eq.next ?_
      refine Cq.ret ?_
      refine Eq.ret1 rfl rfl ?_
      have h0' : a.al = b.al := by omega
      exact ⟨by unfold eqA; rw [h1, h2, h0', beq_self_eq_true]; rfl, E⟩
    refine Sq.notF .plain rfl rfl ?_
    refine Sq.nil ?_
    refine Eq.next ?_
    refine Cq.thn rfl ?_
    refine Cq.seq ?_
    refine Cq.region ?_
    refine Sq.assign .plain rfl rfl ?_
    refine Sq.nil ?_
    refine Eq.next ?_
    refine Cq.ret ?_
    refine Eq.pastRet ?_
    refine Eq.ret1 rfl rfl ?_
    have h0' : a.al = b.al := by omega
    exact ⟨by unfold eqA; rw [h1, h2, h0', beq_self_eq_true]; rfl, E⟩
  refine Sq.notF .plain rfl rfl ?_
  refine Sq.nil ?_
  refine Eq.next ?_
  refine Cq.thn rfl ?_
  refine Cq.seq ?_
  refine Cq.region ?_
  refine Sq.assign .plain rfl rfl ?_
  refine Sq.nil ?_
  refine Eq.next ?_
  refine Cq.ret ?_
  refine Eq.pastRet ?_
  refine Eq.ret1 rfl rfl ?_
  have h0' : a.al = b.al := by omega
  exact ⟨by unfold eqA; rw [h1, h0', beq_self_eq_true]; rfl, E⟩
end Go.Proofs.YtnckpafknojdhaaDoor
set_option linter.unusedSimpArgs false
set_option linter.unusedVariables false
namespace Go.Proofs.YtnckpafknojdhaaDoor
open Go.RowKit
set_option maxRecDepth 100000 in
theorem lExFormat (w0 : World) (a : A) (nx ac : Value) (hnx : RowsX w0 nx a.next) (hac : BoolsX w0 ac a.acc) : Ret Tryd.prog 4 #[Value.agg #[Value.int .i64 a.al, nx, ac]] w0 (fun v w => v = .bool true ∧ Ext w0 w) := by
  have E := Ext.refl w0
  refine Ret.of (args := [Value.agg #[Value.int .i64 a.al, nx, ac]]) Tryd.func4 rfl rfl rfl ?_
  rintro _ rfl
  show Cq _ _ _ _ [(0, Value.agg #[Value.int .i64 a.al, nx, ac])] _
  refine Cq.seq ?_
  refine Cq.region ?_
  refine Sq.box .plain rfl rfl (fun b1 w2 e3 hB4 hlo5 => ?_)
  have hd6 := Nat.le_trans (Below.size E) hlo5
  have hs7 := Below.size e3
  replace E := E.trans e3
  refine Sq.assign .plain rfl rfl ?_
  refine Sq.nil ?_
  refine Eq.next ?_
  refine Cq.seq ?_
  refine Cq.region ?_
  refine Sq.assign .plain rfl rfl ?_
  refine Sq.nil ?_
  refine Eq.next ?_
  refine Cq.seq ?_
  refine Cq.region ?_
  refine Sq.loadAgg agg31 .plain rfl rfl hB4 rfl ?_
  refine Sq.move .plain rfl rfl ?_
  have hd14 := hB4.lt
  refine Sq.call fn11 .plain rfl rfl (szA_c _ a _ _ (hnx.ext E) (hac.ext E) 1048576 (by omega)) ?_
  rintro _ w9 ⟨⟨z11, rfl, hz12, hsm13⟩, e10⟩
  have hs15 := Below.size E
  have hs16 := Below.size e10
  replace E := E.trans e10
  replace hB4 := hB4.ext e10
  refine Sq.assign .plain rfl rfl ?_
  refine Sq.nil ?_
  refine Eq.next ?_
  refine Cq.seq ?_
  refine Cq.seq ?_
  refine Cq.region ?_
  refine Sq.move .plain rfl rfl ?_
  refine Sq.lss .plain rfl rfl rfl ?_
  refine Sq.part (fun c17 => ?_) (fun c17 => ?_)
  · refine Sq.nil ?_
    refine Eq.next ?_
    refine Cq.thn rfl ?_
    refine Cq.seq ?_
    refine Cq.region ?_
    refine Sq.assign .plain rfl rfl ?_
    refine Sq.nil ?_
    refine Eq.next ?_
    refine Cq.ret ?_
    refine Eq.pastRet ?_
    refine Eq.ret1 rfl rfl ?_
    exact ⟨rfl, E⟩
  refine Sq.nil ?_
  refine Eq.next ?_
  refine Cq.els rfl ?_
  refine Cq.skip ?_
  refine Eq.next ?_
  refine Cq.seq ?_
  refine Cq.region ?_
  refine Sq.loadAgg agg31 .plain rfl rfl hB4 rfl ?_
  have hd25 := hB4.lt
  refine Sq.call fn13 .plain rfl rfl (toA_c _ a _ _ (hnx.ext E) (hac.ext E) (hsm13 (by omega)).2) ?_
  rintro _ w19 ⟨⟨nx21, ac22, rfl, hn23, ha24⟩, e20⟩
  have hs26 := Below.size E
  have hs27 := Below.size e20
  replace E := E.trans e20
  replace hB4 := hB4.ext e20
  have hd31 := hB4.lt
  refine Sq.call fn12 .plain rfl rfl (fmtV_c _ a _ _ (OwnRows.rows hn23) (Own.row ha24)) ?_
  rintro _ w29 ⟨rfl, e30⟩
  have hs32 := Below.size E
  have hs33 := Below.size e30
  replace E := E.trans e30
  replace hB4 := hB4.ext e30
  refine Sq.assign .plain rfl rfl ?_
  refine Sq.nil ?_
  refine Eq.next ?_
  refine Cq.seq ?_
  refine Cq.region ?_
  refine Sq.loadAgg agg31 .plain rfl rfl hB4 rfl ?_
  have hd41 := hB4.lt
  refine Sq.call fn13 .plain rfl rfl (toA_c _ a _ _ (hnx.ext E) (hac.ext E) (hsm13 (by omega)).2) ?_
  rintro _ w35 ⟨⟨nx37, ac38, rfl, hn39, ha40⟩, e36⟩
  have hs42 := Below.size E
  have hs43 := Below.size e36
  replace E := E.trans e36
  replace hB4 := hB4.ext e36
  refine Sq.alloc zero25 .plain rfl (fun b44 w45 e46 hB47 hlo48 => ?_)
  have hd49 := Nat.le_trans (Below.size E) hlo48
  have hd50 := Nat.lt_of_lt_of_le hB4.lt hlo48
  have hs51 := Below.size e46
  replace E := E.trans e46
  replace hB4 := hB4.ext e46
  replace hn39 := hn39.ext e46
  replace ha40 := ha40.ext e46
  refine Sq.storeAgg agg25 .plain rfl rfl (one_cons rfl (one_cons (Rows.one (OwnRows.rows hn39)) (one_cons (Row.one (Own.row ha40)) one_nil))) hB47 rfl rfl (fun w52 g53 hB54 => ?_)
  have hs55 := World.grownBy.size g53
  replace E := E.grown g53 (fun k hk => by injection hk with hk; subst hk; omega)
  replace hB4 := hB4.grown g53 (by intro h; injection h with h; omega)
  replace hn39 := hn39.stored g53 hB47 (by decide) (by decide)
  replace ha40 := ha40.stored g53 hB47 (by decide)
  replace hB47 := hB54
  refine Sq.nil ?_
  refine Eq.next ?_
  refine Cq.seq ?_
  refine Cq.region ?_
  refine Sq.loadAgg agg25 .plain rfl rfl hB47 rfl ?_
  have hd59 := hB4.lt
  have hd60 := hB47.lt
  refine Sq.call fn14 .plain rfl rfl (fmtVI_c _ a _ _ (OwnRows.rows hn39) (Own.row ha40)) ?_
  rintro _ w57 ⟨rfl, e58⟩
  have hs61 := Below.size E
  have hs62 := Below.size e58
  replace E := E.trans e58
  replace hB4 := hB4.ext e58
  replace hn39 := hn39.ext e58
  replace ha40 := ha40.ext e58
  replace hB47 := hB47.ext e58
  refine Sq.assign .plain rfl rfl ?_
  refine Sq.nil ?_
  refine Eq.next ?_
  refine Cq.seq ?_
  refine Cq.seq ?_
  refine Cq.region ?_
  refine Sq.move .plain rfl rfl ?_
  refine Sq.move .plain rfl rfl ?_
  refine Sq.neqS .plain rfl rfl rfl ?_
  refine Sq.isF (fun h => h rfl) ?_
  refine Sq.nil ?_
  refine Eq.next ?_
  refine Cq.els rfl ?_
  refine Cq.skip ?_
  refine Eq.next ?_
  refine Cq.seq ?_
  refine Cq.seq ?_
  refine Cq.draw 5 none mixed (fun w63 e64 => ?_)
  have hs65 := Below.size e64
  replace E := E.trans e64
  replace hB4 := hB4.ext e64
  replace hn39 := hn39.ext e64
  replace ha40 := ha40.ext e64
  replace hB47 := hB47.ext e64
  have hB4_w63 := hB4
  have hB47_w63 := hB47
  refine Gq.st 0 rfl (by kernel_rfl) rfl .plain rfl (fun _ _ _ h => h) (World.grownBy.refl w63 _) (fun w' x => Still.loadAgg agg25 rfl (hB47_w63.ext (Ext.of_grown x)) rfl) ?_
  refine Gq.st 1 rfl (by kernel_rfl) rfl .plain rfl (fun _ _ _ h => h) (World.grownBy.refl w63 _) (fun w' x => Still.loadAgg agg31 rfl (hB4_w63.ext (Ext.of_grown x)) rfl) ?_
  refine Gq.one 2 rfl (by kernel_rfl) ?_
  have hd73 := hB4.lt
  have hd74 := hB47.lt
  refine Sq.call fn13 .plain rfl rfl (toA_c _ a _ _ (hnx.ext E) (hac.ext E) (hsm13 (by omega)).2) ?_
  rintro _ w67 ⟨⟨nx69, ac70, rfl, hn71, ha72⟩, e68⟩
  have hs75 := Below.size E
  have hs76 := Below.size e68
  replace E := E.trans e68
  replace hB4 := hB4.ext e68
  replace hn39 := hn39.ext e68
  replace ha40 := ha40.ext e68
  replace hB47 := hB47.ext e68
  refine Sq.nil ?_
  refine Eq.goes (fun _ => (grown_trans (World.grownBy.refl w63 _) (Ext.to_grown e68 _))) ?_
  refine Gq.one 3 rfl (by kernel_rfl) ?_
  have hd80 := hB4.lt
  have hd81 := hB47.lt
  refine Sq.call fn8 .plain rfl rfl (eqAut_c _ a a _ _ _ _ (OwnRows.rows hn39) (Own.row ha40) (OwnRows.rows hn71) (Own.row ha72) ((hsm13 (by omega)).2)) ?_
  rintro _ w78 ⟨rfl, e79⟩
  have hs82 := Below.size E
  have hs83 := Below.size e79
  replace E := E.trans e79
  refine Sq.beT (eqA_refl _) ?_
  refine Sq.nil ?_
  refine Eq.goes (fun _ => (grown_trans (grown_trans (World.grownBy.refl w63 _) (Ext.to_grown e68 _)) (Ext.to_grown e79 _))) ?_
  refine Gq.st 4 rfl (by kernel_rfl) rfl .plain rfl (fun _ _ _ h => h) (grown_trans (grown_trans (World.grownBy.refl w63 _) (Ext.to_grown e68 _)) (Ext.to_grown e79 _)) (fun w' x => Still.notT rfl) ?_
  refine Gq.done (by kernel_rfl) ?_
  refine Eq.next ?_
  refine Cq.els rfl ?_
  refine Cq.skip ?_
  refine Eq.next ?_
  refine Cq.seq ?_
  refine Cq.region ?_
  refine Sq.assign .plain rfl rfl ?_
  refine Sq.nil ?_
  refine Eq.next ?_
  refine Cq.ret ?_
  refine Eq.ret1 rfl rfl ?_
  exact ⟨rfl, E⟩
end Go.Proofs.YtnckpafknojdhaaDoor
