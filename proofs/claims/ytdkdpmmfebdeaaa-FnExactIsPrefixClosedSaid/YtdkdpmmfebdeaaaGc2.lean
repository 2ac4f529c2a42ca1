/-
  The texts of this proof, joined (wip/merge.py): the calculus of slots, plain mathematics, walks.
-/
import Derived.Test.YtdkdpmmfebdeaaaGc1
set_option linter.unusedSimpArgs false
set_option linter.unusedVariables false
namespace Go.Proofs.Ytdkdpmmfebdeaaa
open Go.RowKit
def txb (w : List Int) : List UInt8 := w.map fun x => UInt8.ofNat (97 + x).toNat
def txt (w : List Int) : ByteArray := ⟨(txb w).toArray⟩
theorem txt_snoc (w : List Int) (x : Int) : txt (w ++ [x]) = txt w ++ chr x := by
  apply ByteArray.ext
  simp [txt, txb, chr]
theorem txb_rev (w : List Int) : (txb w.reverse).reverse = txb w := by simp [txb]
theorem txt_size (w : List Int) : (txt w).size = w.length := by simp [txt, txb, ByteArray.size]
def stepV (r : Int × Int × Value) : List Value := [.int .i64 r.1, .int .i64 r.2.1, r.2.2]
def rows3 (rs : List (Int × Int × Value)) : List (List Value) := rs.map stepV
theorem rows3_length (rs : List (Int × Int × Value)) : (rows3 rs).length = rs.length := List.length_map _
theorem rows3_snoc (rs : List (Int × Int × Value)) (r : Int × Int × Value) : rows3 (rs ++ [r]) = rows3 rs ++ [[.int .i64 r.1, .int .i64 r.2.1, r.2.2]] := by simp [rows3, stepV]
section
variable {w w' : World} {B : Nat} {e : TypeId} {v : Value} {rs : List (Int × Int × Value)}
theorem Wid.triple (h : Wid w B e 3 v (rows3 rs)) {i : Int} {r : Int × Int × Value} (h0 : 0 ≤ i) (hr : rs[i.toNat]? = some r) : ∃ g c, v = .slice (some ⟨g, 0, none⟩) rs.length c ∧ (i.toNat < rs.length) ∧ w.cell? ⟨g, i.toNat * 3 + 0, none⟩ = some (.int .i64 r.1) ∧ w.cell? ⟨g, i.toNat * 3 + 1, none⟩ = some (.int .i64 r.2.1) ∧ w.cell? ⟨g, i.toNat * 3 + 2, none⟩ = some r.2.2 := by
  have hi := (List.getElem?_eq_some_iff.1 hr).1
  obtain ⟨g, c, hv, _, _, hc⟩ := h.at h0 (by rw [rows3_length]; omega)
  rw [rows3_length] at hv
  have e1 : (rows3 rs).getD i.toNat [] = stepV r := by
    unfold rows3
    rw [List.getD_eq_getElem?_getD, List.getElem?_map, hr]
    rfl
  rw [e1] at hc
  exact ⟨g, c, hv, hi, hc 0 (by decide), hc 1 (by decide), hc 2 (by decide)⟩
end
def Link (ws : List (List Int)) (p l : Int) (v : List Int) : Prop := (v = [] ∧ p = -1) ∨ ∃ u, v = u ++ [l] ∧ 0 ≤ p ∧ ws[p.toNat]? = some u
theorem Link.more {ws : List (List Int)} {p l : Int} {v : List Int} (h : Link ws p l v) (us : List (List Int)) : Link (ws ++ us) p l v := by
  rcases h with h | ⟨u, h1, h2, h3⟩
  · exact .inl h
  · exact .inr ⟨u, h1, h2, by rw [List.getElem?_append_left (List.getElem?_eq_some_iff.1 h3).1]; exact h3⟩
structure Trail (w : World) (I : TypeId) (f : Int → Int → Int) (s : Int) (ws : List (List Int)) (rs : List (Int × Int × Value)) : Prop where
  len : rs.length = ws.length
  row : ∀ (j : Nat) (v : List Int), ws[j]? = some v → ∃ p l fv, rs[j]? = some (p, l, fv) ∧ Link ws p l v ∧ Ints w I fv [nodeOf f s v]
  lets : ∀ v ∈ ws, ∀ x ∈ v, 0 ≤ x ∧ x < 6
section
variable {w w' : World} {I : TypeId} {f : Int → Int → Int} {s : Int} {ws : List (List Int)} {rs : List (Int × Int × Value)}
theorem Trail.map (h : Trail w I f s ws rs) (k : ∀ v xs, Ints w I v xs → Ints w' I v xs) : Trail w' I f s ws rs :=
  ⟨h.len, fun j v hv => by
    obtain ⟨p, l, fv, h1, h2, h3⟩ := h.row j v hv
    exact ⟨p, l, fv, h1, h2, k _ _ h3⟩, h.lets⟩
theorem Trail.ext (h : Trail w I f s ws rs) (x : Ext w w') : Trail w' I f s ws rs := h.map fun _ _ h => h.ext x
theorem Trail.owned {B : Nat} {t : TypeId} {u : Value} {us : List Value} (h : Trail w I f s ws rs) (ho : Own w B t u us) (hg : w.grownBy w' u.ownBlock) (hne : t ≠ I) : Trail w' I f s ws rs := h.map fun _ _ h => Row.owned h ho hg hne
theorem Trail.stored {g : Nat} {t : TypeId} {cs : List Value} (h : Trail w I f s ws rs) (hg : w.grownBy w' (some g)) (hb : Blk w g t cs) (hne : t ≠ I) : Trail w' I f s ws rs := h.map fun _ _ h => Row.stored h hg hb hne
theorem Trail.wid {B n : Nat} {e : TypeId} {u : Value} {rows : List (List Value)} (h : Trail w I f s ws rs) (ho : Wid w B e n u rows) (hg : w.grownBy w' u.ownBlock) (hne : e ≠ I) : Trail w' I f s ws rs := h.map fun _ _ h => Row.wid h ho hg hne
theorem Trail.nil (w : World) (I : TypeId) (f : Int → Int → Int) (s : Int) : Trail w I f s [] [] := ⟨rfl, by simp, by simp⟩
theorem Trail.snoc (h : Trail w I f s ws rs) {p l : Int} {fv : Value} {v : List Int} (hl : Link ws p l v) (hf : Ints w I fv [nodeOf f s v]) (hv : ∀ x ∈ v, 0 ≤ x ∧ x < 6) : Trail w I f s (ws ++ [v]) (rs ++ [(p, l, fv)]) := by
  refine ⟨by simp [h.len], fun j u hu => ?_, fun u hu => ?_⟩
  · rcases Nat.lt_or_ge j ws.length with hj | hj
    · rw [List.getElem?_append_left hj] at hu
      obtain ⟨p', l', fv', h1, h2, h3⟩ := h.row j u hu
      exact ⟨p', l', fv', by rw [List.getElem?_append_left (by rw [h.len]; exact hj)]; exact h1, h2.more _, h3⟩
    · have hj2 := (List.getElem?_eq_some_iff.1 hu).1
      rw [List.length_append, List.length_singleton] at hj2
      obtain rfl : j = ws.length := by omega
      rw [List.getElem?_append_right (Nat.le_refl _), Nat.sub_self] at hu
      have hu' : v = u := by simpa using hu
      subst hu'
      exact ⟨p, l, fv, by rw [List.getElem?_append_right (by rw [h.len]; exact Nat.le_refl _), h.len, Nat.sub_self]; rfl, hl.more _, hf⟩
  · rcases List.mem_append.1 hu with h' | h'
    · exact h.lets u h'
    · rw [List.mem_singleton.1 h']; exact hv
end
def seenOf (n : Nat) (ns : List Int) : List Bool := (List.range n).map fun (i : Nat) => decide ((i : Int) ∈ ns)
theorem seenOf_length (n : Nat) (ns : List Int) : (seenOf n ns).length = n := by simp [seenOf]
theorem seenOf_nil (n : Nat) : seenOf n [] = List.replicate n false := by
  apply List.ext_getElem <;> simp [seenOf]
theorem seenOf_at {n : Nat} {ns : List Int} {q : Int} (hq : 0 ≤ q ∧ q < n) : (seenOf n ns).getD q.toNat false = decide (q ∈ ns) := by
  have h : q.toNat < n := by omega
  have e : ((q.toNat : Nat) : Int) = q := Int.toNat_of_nonneg hq.1
  simp [seenOf, List.getD_eq_getElem?_getD, h, e]
theorem seenOf_set {n : Nat} {ns : List Int} {q : Int} (hq : 0 ≤ q) : (seenOf n ns).set q.toNat true = seenOf n (ns ++ [q]) := by
  apply List.ext_getElem
  · simp [seenOf]
  · intro i h1 h2
    rw [List.getElem_set]
    by_cases h : q.toNat = i
    · have : ((i : Nat) : Int) = q := by omega
      simp [seenOf, h, this]
    · have : ((i : Nat) : Int) ≠ q := by omega
      simp [seenOf, h, this]
theorem Own.seen0 {w : World} {B n : Nat} {e : TypeId} {v : Value} (h : Own w B e v (List.replicate n (Value.bool false))) : Own w B e v ((seenOf n []).map Value.bool) := by rw [seenOf_nil, List.map_replicate]; exact h
theorem seen_n {w : World} {B n : Nat} {e : TypeId} {v : Value} {m : Int} (hm : m = n) (h : Own w B e v (List.replicate m.toNat (Value.bool false))) : Own w B e v (List.replicate n (Value.bool false)) := by
  subst hm; exact h
def NClo (P : Program) (w0 : World) (I : TypeId) (fv : Value) (D : Int → Prop) (f : Int → Int → Int) : Prop :=
  ∃ k fn, ∃ cs : List Value, fv = .func (.func k) #[] cs.toArray ∧ Fn P k fn ∧ ∀ w q x, Ext w0 w → D q → 0 ≤ x ∧ x < 6 → Ret P k ([Value.int .i64 q, Value.int .i64 x, Value.slice none 0 0] ++ cs).toArray w fun v w' => Own w' w.heap.size I v [Value.int .i64 (f q x)] ∧ Ext w w'
def GClo (P : Program) (w0 : World) (gv : Value) (D : Int → Prop) (G : Int → Bool) : Prop :=
  ∃ k fn, ∃ cs : List Value, gv = .func (.func k) #[] cs.toArray ∧ Fn P k fn ∧ ∀ w q, Ext w0 w → D q → Ret P k ([Value.int .i64 q] ++ cs).toArray w fun v w' => v = .bool (G q) ∧ Ext w w'
theorem NClo.up {P : Program} {w0 w1 : World} {I : TypeId} {fv : Value} {D : Int → Prop} {f : Int → Int → Int} (h : NClo P w0 I fv D f) (x : Ext w0 w1) : NClo P w1 I fv D f := by
  obtain ⟨k, fn, cs, h1, h2, h3⟩ := h
  exact ⟨k, fn, cs, h1, h2, fun w q y hw hq hy => h3 w q y (x.trans hw) hq hy⟩
theorem GClo.up {P : Program} {w0 w1 : World} {gv : Value} {D : Int → Prop} {G : Int → Bool} (h : GClo P w0 gv D G) (x : Ext w0 w1) : GClo P w1 gv D G := by
  obtain ⟨k, fn, cs, h1, h2, h3⟩ := h
  exact ⟨k, fn, cs, h1, h2, fun w q hw hq => h3 w q (x.trans hw) hq⟩
def BClo (P : Program) (w0 : World) (gv : Value) (g : Bool → Bool → Bool) : Prop :=
  ∃ k fn, ∃ cs : List Value, gv = .func (.func k) #[] cs.toArray ∧ Fn P k fn ∧ ∀ w x y, Ext w0 w → Ret P k ([Value.bool x, Value.bool y] ++ cs).toArray w fun v w' => v = .bool (g x y) ∧ Ext w w'
theorem BClo.up {P : Program} {w0 w1 : World} {gv : Value} {g : Bool → Bool → Bool} (h : BClo P w0 gv g) (x : Ext w0 w1) : BClo P w1 gv g := by
  obtain ⟨k, fn, cs, h1, h2, h3⟩ := h
  exact ⟨k, fn, cs, h1, h2, fun w a b hw => h3 w a b (x.trans hw)⟩
theorem BClo.one {P : Program} {w0 : World} {gv : Value} {g : Bool → Bool → Bool} (h : BClo P w0 gv g) : gv.oneCell' = true := by
  obtain ⟨k, fn, cs, h1, _⟩ := h
  rw [h1]; rfl
def SMem (wb w : World) (I Bo LB S LS GT : TypeId) (B bs bt bg : Nat) (gv : Value) (n : Nat) (f : Int → Int → Int) (s : Int) (ws : List (List Int)) : Prop :=
  ∃ sv tv rs, Blk w bs LB [sv] ∧ Own w B Bo sv ((seenOf n (ws.map (nodeOf f s))).map Value.bool) ∧ Blk w bt LS [tv] ∧ Wid w B S 3 tv (rows3 rs) ∧ Trail w I f s ws rs ∧ Blk w bg GT [gv] ∧ Ext wb w ∧ wb.heap.size ≤ B ∧ wb.heap.size ≤ bs ∧ wb.heap.size ≤ bt ∧ B ≤ w.heap.size
section
variable {wb w w' : World} {I Bo LB S LS GT : TypeId} {B bs bt bg n : Nat} {gv : Value} {f : Int → Int → Int} {s : Int} {ws : List (List Int)}
theorem SMem.ext (h : SMem wb w I Bo LB S LS GT B bs bt bg gv n f s ws) (x : Ext w w') : SMem wb w' I Bo LB S LS GT B bs bt bg gv n f s ws := by
  obtain ⟨sv, tv, rs, h1, h2, h3, h4, h5, h6, h7, h8, h9, h10, h11⟩ := h
  exact ⟨sv, tv, rs, h1.ext x, h2.ext x, h3.ext x, h4.ext x, h5.ext x, h6.ext x, h7.trans x, h8, h9, h10, Nat.le_trans h11 (Below.size x)⟩
theorem SMem.base (h : SMem wb w I Bo LB S LS GT B bs bt bg gv n f s ws) : Ext wb w := by
  obtain ⟨sv, tv, rs, h1, h2, h3, h4, h5, h6, h7, h8⟩ := h
  exact h7
end
theorem Wid.one {w : World} {B n : Nat} {e : TypeId} {v : Value} {rows : List (List Value)} (h : Wid w B e n v rows) : v.oneCell' = true := by
  rcases h.cases with ⟨rfl, _⟩ | ⟨g, cap, cs, rfl, _⟩ <;> rfl
theorem Own.snocT {w : World} {B : Nat} {e : TypeId} {v : Value} {t : List Int} {l : Int} (h : Own w B e v ((txb t.reverse).map (fun b => Value.int .u8 (b.toNat : Int)) ++ [Value.int .u8 (97 + l)])) (hl : 0 ≤ l ∧ l < 6) : Own w B e v ((txb (l :: t).reverse).map fun b => Value.int .u8 (b.toNat : Int)) := by
  have e1 : (txb (l :: t).reverse).map (fun b => Value.int .u8 (b.toNat : Int)) = (txb t.reverse).map (fun b => Value.int .u8 (b.toNat : Int)) ++ [Value.int .u8 (97 + l)] := by
    have := u8_of (n := 97 + l) (by omega)
    simp only [txb, List.reverse_cons, List.map_append, List.map_cons, List.map_nil, this]
  rw [e1]; exact h
section
variable {f : Int → Int → Int} {s : Int} {L : List Int} {G : Int → Bool}
def wmid (f : Int → Int → Int) (s : Int) (L : List Int) (i : Nat) (u : List Int) (k : Nat) : List (List Int) := wround f s u (bfsw f s L i) (L.take k)
theorem wmid_succ {i : Nat} {u : List Int} {k : Nat} (hk : k < L.length) : wmid f s L i u (k + 1) = wadd f s (wmid f s L i u k) (u ++ [L.getD k 0]) := by
  unfold wmid wround
  rw [take_snoc 0 hk, List.foldl_append]
  rfl
theorem wmid_done {i : Nat} {u : List Int} {k : Nat} (h : L.length ≤ k) (hu : (bfsw f s L i)[i]? = some u) : wmid f s L i u k = bfsw f s L (i + 1) := by
  rw [bfsw, hu]
  unfold wmid
  rw [List.take_of_length_le h]
theorem wmid_more (i : Nat) (u : List Int) (k : Nat) : bfsw f s L i <+: wmid f s L i u k := wround_prefix _ _ _
theorem wmid_last {i : Nat} {u : List Int} {k : Nat} (hu : (bfsw f s L i)[i]? = some u) : wmid f s L i u k <+: bfsw f s L (i + 1) := by
  rcases Nat.lt_or_ge k L.length with h | h
  · rw [← wmid_done (k := L.length) (Nat.le_refl _) hu]
    unfold wmid wround
    have e : L.take L.length = L.take k ++ L.drop k := by rw [List.take_length, List.take_append_drop]
    rw [e, List.foldl_append]
    exact wround_prefix (f := f) (s := s) u (L.drop k) _
  · rw [wmid_done h hu]; exact List.prefix_refl _
theorem bfsw_more {i j : Nat} (h : i ≤ j) : bfsw f s L i <+: bfsw f s L j := by
  induction j with
  | zero => obtain rfl : i = 0 := by omega
            exact List.prefix_refl _
  | succ j ih =>
    rcases Nat.lt_or_ge i (j + 1) with h1 | h1
    · exact (ih (by omega)).trans (bfsw_prefix1 j)
    · obtain rfl : i = j + 1 := by omega
      exact List.prefix_refl _
theorem wadd_T {ws : List (List Int)} {v : List Int} (h : nodeOf f s v ∈ ws.map (nodeOf f s)) : wadd f s ws v = ws := if_pos h
theorem wadd_F {ws : List (List Int)} {v : List Int} (h : nodeOf f s v ∉ ws.map (nodeOf f s)) : wadd f s ws v = ws ++ [v] := if_neg h
theorem first_found {i : Nat} {u : List Int} {k : Nat} (hu : (bfsw f s L i)[i]? = some u) (hi : i + 1 ≤ 200) (hk : k < L.length) (hG : ∀ v ∈ wmid f s L i u k, G (nodeOf f s v) = false) (hn : nodeOf f s (u ++ [L.getD k 0]) ∉ (wmid f s L i u k).map (nodeOf f s)) (hg : G (nodeOf f s (u ++ [L.getD k 0])) = true) :
    firstOf f s L G = some (u ++ [L.getD k 0]) := by
  have h1 := wmid_last (k := k + 1) hu
  rw [wmid_succ hk, wadd_F hn] at h1
  obtain ⟨t, ht⟩ := h1.trans (bfsw_more (f := f) (s := s) (L := L) (i := i + 1) (j := many 0) (by rw [many_eq]; exact hi))
  unfold firstOf ordw
  rw [← ht, List.append_assoc, List.find?_append, List.find?_eq_none.2 (fun v hv => by rw [hG v hv]; decide), Option.none_or, List.singleton_append]
  exact List.find?_cons_of_pos (p := fun w => G (nodeOf f s w)) hg
theorem first_missed {i : Nat} (hl : (bfsw f s L i).length ≤ i) (hi : i ≤ 200) (hG : ∀ v ∈ bfsw f s L i, G (nodeOf f s v) = false) : firstOf f s L G = none := by
  have e : bfsw f s L (many 0) = bfsw f s L i := by
    have h1 := bfsw_more (f := f) (s := s) (L := L) (i := i) (j := many 0) (by rw [many_eq]; exact hi)
    refine (h1.eq_of_length ?_).symm
    rw [bfsw_length, bfsw_length]
    rw [bfsw_length] at hl
    rw [bfs_stop (j := many 0) hl (by rw [many_eq]; exact hi)]
  unfold firstOf ordw
  rw [e, List.find?_eq_none.2 (fun v hv => by rw [hG v hv]; decide)]
theorem first_here (hg : G s = true) : firstOf f s L G = some [] := by
  obtain ⟨t, ht⟩ := bfsw_more (f := f) (s := s) (L := L) (i := 0) (j := many 0) (Nat.zero_le _)
  unfold firstOf ordw
  rw [← ht]
  have : bfsw f s L 0 = [[]] := rfl
  rw [this]
  simp [nodeOf, hg]
theorem bfsw_lets {i : Nat} (hL : ∀ x ∈ L, 0 ≤ x ∧ x < 6) : ∀ v ∈ bfsw f s L i, ∀ x ∈ v, 0 ≤ x ∧ x < 6 := by
  induction i with
  | zero =>
    intro v hv
    have : v = [] := by simpa [bfsw] using hv
    subst this
    intro x hx; cases hx
  | succ i ih =>
    intro v hv
    rw [bfsw] at hv
    cases h : (bfsw f s L i)[i]? with
    | none => rw [h] at hv; exact ih v hv
    | some u =>
      rw [h] at hv
      rcases wround_mem u L _ hv with h' | ⟨l, hl, rfl⟩
      · exact ih v h'
      · intro x hx
        rcases List.mem_append.1 hx with h1 | h1
        · exact ih u (List.mem_of_getElem? h) x h1
        · rw [List.mem_singleton.1 h1]; exact hL l hl
theorem wadd_miss {ws : List (List Int)} {v : List Int} (h : ∀ u ∈ ws, G (nodeOf f s u) = false) (hf : (!decide (nodeOf f s v ∈ ws.map (nodeOf f s)) && G (nodeOf f s v)) = false) : ∀ u ∈ wadd f s ws v, G (nodeOf f s u) = false := by
  intro u hu
  by_cases hm : nodeOf f s v ∈ ws.map (nodeOf f s)
  · rw [wadd_T hm] at hu; exact h u hu
  · rw [wadd_F hm] at hu
    rcases List.mem_append.1 hu with h1 | h1
    · exact h u h1
    · rw [List.mem_singleton.1 h1]
      simpa [hm] using hf
theorem bfsw_range {n : Nat} {D : Int → Prop} (h0 : D s) (hD : ∀ q, D q → ∀ x ∈ L, D (f q x)) (hn : ∀ q, D q → 0 ≤ q ∧ q < n) (i : Nat) : (bfsw f s L i).length ≤ n := by
  rw [bfsw_length]
  have h1 := nodup_len (U := (List.range n).map fun (i : Nat) => (i : Int)) (bfs_nodup (f := f) (s := s) (L := L) i) (fun q hq => inU.2 (hn q (bfs_all h0 hD i q hq)))
  simpa using h1
theorem bfsw_lenw {i j : Nat} {u : List Int} (h : (bfsw f s L i)[j]? = some u) : u.length ≤ i := by
  have hall : ∀ v ∈ bfsw f s L i, v.length ≤ i := by
    clear h
    induction i with
    | zero =>
      intro v hv
      have : v = [] := by simpa [bfsw] using hv
      subst this
      exact Nat.le_refl _
    | succ i ih =>
      intro v hv
      rw [bfsw] at hv
      cases h : (bfsw f s L i)[i]? with
      | none => rw [h] at hv; exact Nat.le_succ_of_le (ih v hv)
      | some u =>
        rw [h] at hv
        rcases wround_mem u L _ hv with h' | ⟨l, hl, rfl⟩
        · exact Nat.le_succ_of_le (ih v h')
        · have := ih u (List.mem_of_getElem? h)
          simp only [List.length_append, List.length_singleton]
          omega
  exact hall u (List.mem_of_getElem? h)
theorem nodeOf_in {D : Int → Prop} (h0 : D s) (hD : ∀ q, D q → ∀ x ∈ L, D (f q x)) : ∀ (i : Nat), ∀ v ∈ bfsw f s L i, D (nodeOf f s v) := by
  intro i v hv
  have : nodeOf f s v ∈ bfs f s L i := by rw [← bfsw_map]; exact List.mem_map.2 ⟨v, hv, rfl⟩
  exact bfs_all h0 hD i _ this
end
section maps
variable {α β : Type} [DecidableEq α] [DecidableEq β] {f : α → Int → α} {s : α} {L : List Int} {f' : β → Int → β} {g : α → β} {P : α → Prop}
omit [DecidableEq α] [DecidableEq β] in
theorem nodeOf_map (h0 : P s) (hs : ∀ q, P q → ∀ l ∈ L, P (f q l)) (hf : ∀ q, P q → ∀ l ∈ L, f' (g q) l = g (f q l)) : ∀ (v : List Int), (∀ x ∈ v, x ∈ L) → nodeOf f' (g s) v = g (nodeOf f s v) ∧ P (nodeOf f s v) := by
  intro v
  induction v generalizing s with
  | nil => intro _; exact ⟨rfl, h0⟩
  | cons x v ih =>
    intro hv
    have hx := hv x (by simp)
    have := ih (s := f s x) (hs s h0 x hx) (fun y hy => hv y (by simp [hy]))
    show nodeOf f' (f' (g s) x) v = g (nodeOf f (f s x) v) ∧ P (nodeOf f (f s x) v)
    rw [hf s h0 x hx]
    exact this
theorem wround_over (u : List Int) (hu : ∀ x ∈ u, x ∈ L) : ∀ (Ls : List Int) (ws : List (List Int)), (∀ l ∈ Ls, l ∈ L) → (∀ v ∈ ws, ∀ x ∈ v, x ∈ L) → ∀ v ∈ wround f s u ws Ls, ∀ x ∈ v, x ∈ L := by
  intro Ls ws hLs hws v hv
  rcases wround_mem u Ls ws hv with h | ⟨l, hl, rfl⟩
  · exact hws v h
  · intro x hx
    rcases List.mem_append.1 hx with h1 | h1
    · exact hu x h1
    · rw [List.mem_singleton.1 h1]; exact hLs l hl
theorem bfsw_over (i : Nat) : ∀ v ∈ bfsw f s L i, ∀ x ∈ v, x ∈ L := by
  induction i with
  | zero =>
    intro v hv
    have : v = [] := by simpa [bfsw] using hv
    subst this
    intro x hx; cases hx
  | succ i ih =>
    intro v hv
    rw [bfsw] at hv
    cases h : (bfsw f s L i)[i]? with
    | none => rw [h] at hv; exact ih v hv
    | some u => rw [h] at hv; exact wround_over u (ih u (List.mem_of_getElem? h)) L _ (fun _ h => h) ih v hv
theorem wadd_map' (hg : ∀ a b, P a → P b → g a = g b → a = b) (h0 : P s) (hs : ∀ q, P q → ∀ l ∈ L, P (f q l)) (hf : ∀ q, P q → ∀ l ∈ L, f' (g q) l = g (f q l)) {ws : List (List Int)} {v : List Int} (hws : ∀ u ∈ ws, ∀ x ∈ u, x ∈ L) (hv : ∀ x ∈ v, x ∈ L) : wadd f' (g s) ws v = wadd f s ws v := by
  have h1 := nodeOf_map h0 hs hf v hv
  have e : nodeOf f' (g s) v ∈ ws.map (nodeOf f' (g s)) ↔ nodeOf f s v ∈ ws.map (nodeOf f s) := by
    constructor
    · intro h
      obtain ⟨u, hu, he⟩ := List.mem_map.1 h
      have h2 := nodeOf_map h0 hs hf u (hws u hu)
      rw [h1.1, h2.1] at he
      exact List.mem_map.2 ⟨u, hu, hg _ _ h2.2 h1.2 he⟩
    · intro h
      obtain ⟨u, hu, he⟩ := List.mem_map.1 h
      have h2 := nodeOf_map h0 hs hf u (hws u hu)
      exact List.mem_map.2 ⟨u, hu, by rw [h1.1, h2.1, he]⟩
  unfold wadd
  by_cases h : nodeOf f s v ∈ ws.map (nodeOf f s)
  · rw [if_pos h, if_pos (e.2 h)]
  · rw [if_neg h, if_neg (fun hc => h (e.1 hc))]
theorem wround_map' (hg : ∀ a b, P a → P b → g a = g b → a = b) (h0 : P s) (hs : ∀ q, P q → ∀ l ∈ L, P (f q l)) (hf : ∀ q, P q → ∀ l ∈ L, f' (g q) l = g (f q l)) {u : List Int} (hu : ∀ x ∈ u, x ∈ L) : ∀ (Ls : List Int) (ws : List (List Int)), (∀ l ∈ Ls, l ∈ L) → (∀ v ∈ ws, ∀ x ∈ v, x ∈ L) → wround f' (g s) u ws Ls = wround f s u ws Ls
  | [], ws, _, _ => rfl
  | l :: Ls, ws, hLs, hws => by
    have hul : ∀ x ∈ u ++ [l], x ∈ L := fun x hx => by
      rcases List.mem_append.1 hx with h1 | h1
      · exact hu x h1
      · rw [List.mem_singleton.1 h1]; exact hLs l (by simp)
    have e := wadd_map' hg h0 hs hf hws hul
    show wround f' (g s) u (wadd f' (g s) ws (u ++ [l])) Ls = wround f s u (wadd f s ws (u ++ [l])) Ls
    rw [e]
    refine wround_map' hg h0 hs hf hu Ls _ (fun x hx => hLs x (by simp [hx])) (fun v hv => ?_)
    rcases wadd_mem hv with h | rfl
    · exact hws v h
    · exact hul
theorem bfsw_map' (hg : ∀ a b, P a → P b → g a = g b → a = b) (h0 : P s) (hs : ∀ q, P q → ∀ l ∈ L, P (f q l)) (hf : ∀ q, P q → ∀ l ∈ L, f' (g q) l = g (f q l)) (i : Nat) : bfsw f' (g s) L i = bfsw f s L i := by
  induction i with
  | zero => rfl
  | succ i ih =>
    rw [bfsw, bfsw, ih]
    cases h : (bfsw f s L i)[i]? with
    | none => rfl
    | some u => exact wround_map' hg h0 hs hf (bfsw_over i u (List.mem_of_getElem? h)) L _ (fun _ h => h) (bfsw_over i)
theorem firstOf_map {G : α → Bool} {G' : β → Bool} (hg : ∀ a b, P a → P b → g a = g b → a = b) (h0 : P s) (hs : ∀ q, P q → ∀ l ∈ L, P (f q l)) (hf : ∀ q, P q → ∀ l ∈ L, f' (g q) l = g (f q l)) (hG : ∀ q, P q → G' (g q) = G q) : firstOf f' (g s) L G' = firstOf f s L G := by
  unfold firstOf ordw
  rw [bfsw_map' hg h0 hs hf]
  have : ∀ (ws : List (List Int)), (∀ v ∈ ws, ∀ x ∈ v, x ∈ L) → ws.find? (fun w => G' (nodeOf f' (g s) w)) = ws.find? (fun w => G (nodeOf f s w)) := by
    intro ws
    induction ws with
    | nil => intro _; rfl
    | cons v ws ih =>
      intro h
      have h1 := nodeOf_map h0 hs hf v (h v (by simp))
      rw [List.find?_cons, List.find?_cons, h1.1, hG _ h1.2, ih (fun u hu => h u (by simp [hu]))]
  exact this _ (bfsw_over _)
end maps
def firstA (a : A) (s : Int) (G : Int → Bool) : Option (List Int) := firstOf (goA a) s (letters a.al) G
def firstAB (a b : A) (p : Int × Int) (g : Bool → Bool → Bool) : Option (List Int) := firstOf (step2 a b) p (letters a.al) fun p => g (accA a p.1) (accA b p.2)
def resW (o : Option (List Int)) : Value := .tuple #[.string (txt (o.getD [])), .bool o.isSome]
def cmp2 (a b : A) : Bool := validA a && (validA b && decide (a.al = b.al))
theorem cmp2_spec {a b : A} : cmp2 a b = true ↔ validA a = true ∧ validA b = true ∧ a.al = b.al := by simp [cmp2]
def fAt (a : A) (q : Int) : Option (List Int) := if validA a = true then firstA a 0 (fun x => decide (x = q)) else none
def fTwo (a b : A) (g : Bool → Bool → Bool) : Option (List Int) := if cmp2 a b = true then firstAB a b (0, 0) g else none
def fOut (a b : A) : Option (List Int) := fTwo a b fun x y => x && !y
def withinL (a b : A) : Bool := cmp2 a b && !(fOut a b).isSome
end Go.Proofs.Ytdkdpmmfebdeaaa
set_option linter.unusedSimpArgs false
set_option linter.unusedVariables false
namespace Go.Proofs.Ytdkdpmmfebdeaaa
open Go.RowKit
section
variable {w w' : World} {B n : Nat} {e : TypeId} {v : Value} {rows : List (List Value)}
theorem Wid.rowAt (h : Wid w B e n v rows) {i : Int} (h0 : 0 ≤ i) {r : List Value} (hr : rows[i.toNat]? = some r) : ∃ g c, v = .slice (some ⟨g, 0, none⟩) rows.length c ∧ i.toNat < rows.length := by
  have hi := (List.getElem?_eq_some_iff.1 hr).1
  obtain ⟨g, c, hv, _⟩ := h.at h0 (by omega)
  exact ⟨g, c, hv, hi⟩
theorem Wid.cellR {g c : Nat} (hv : v = .slice (some ⟨g, 0, none⟩) rows.length c) (h : Wid w B e n v rows) {i : Int} (h0 : 0 ≤ i) {r : List Value} (hr : rows[i.toNat]? = some r) {j : Nat} (hj : j < n) : w.cell? ⟨g, i.toNat * n + j, none⟩ = r[j]? := by
  have hi := (List.getElem?_eq_some_iff.1 hr).1
  obtain ⟨g', c', hv', _, _, hc⟩ := h.at h0 (by omega)
  rw [hv] at hv'
  injection hv' with hv' _ _
  injection hv' with hv'
  injection hv' with hv' _ _
  subst hv'
  rw [hc j hj, List.getD_eq_getElem?_getD, hr]
  rfl
end
theorem Still.loadAggW {P : Program} {N : Nat} {l : Slots} {w : World} {d : Nat} {ty : TypeId} {pos : String} {after : Array Edge} {g : Option (Nat × Bool)} {t : TypeId} {b o n : Nat} {x : Operand} {cs : List Value} (h1 : Agg P t n) (hx : ev l x = some (.pointer (some ⟨b, o, none⟩))) (hn : cs.length = n) (hc : ∀ j, j < n → w.cell? ⟨b, o + j, none⟩ = cs[j]?) : Still P N l ⟨some d, .load t x, ty, pos, after, g⟩ (.agg cs.toArray) w := fun a ha => by
  have hl : (loadCells ⟨b, o, none⟩ n).run P w = .ok cs.toArray w := by
    rw [← hn]
    refine run_loadCells_list _ _ _ fun j v hv => ?_
    rw [addr_add]
    have hj := (List.getElem?_eq_some_iff.1 hv).1
    rw [hc j (by omega)]
    simpa using hv
  simp [execOp, ha.ev hx, Instr.loadAt, Instr.sureAddr, loadVar, h1.agg, h1.size, hl]
def NetA (w : World) (AU SI I Bo : TypeId) (av : Value) (aas : List A) : Prop :=
  ∃ B rows, Wid w B AU 3 av rows ∧ rows.length = aas.length ∧ ∀ (j : Nat) (a : A), aas[j]? = some a → ∃ nx ac, rows[j]? = some [.int .i64 a.al, nx, ac] ∧ Rows w SI I nx a.next ∧ Bools w Bo ac a.acc
theorem NetA.ext {w w' : World} {AU SI I Bo : TypeId} {av : Value} {aas : List A} (h : NetA w AU SI I Bo av aas) (x : Ext w w') : NetA w' AU SI I Bo av aas := by
  obtain ⟨B, rows, h1, h2, h3⟩ := h
  refine ⟨B, rows, h1.ext x, h2, fun j a ha => ?_⟩
  obtain ⟨nx, ac, g1, g2, g3⟩ := h3 j a ha
  exact ⟨nx, ac, g1, g2.ext x, g3.ext x⟩
theorem NetA.one {w : World} {AU SI I Bo : TypeId} {av : Value} {aas : List A} (h : NetA w AU SI I Bo av aas) : av.oneCell' = true := by
  obtain ⟨B, rows, h1, _⟩ := h
  exact h1.one
def Cell1 (w : World) (p : Addr) (u : Value) : Prop := w.cell? p = some u
theorem Cell1.ext {w w' : World} {p : Addr} {u : Value} (h : Cell1 w p u) (x : Ext w w') : Cell1 w' p u := by
  have hb := World.block_lt_of_cell? w p h
  unfold Cell1 at *
  rw [← h]
  unfold World.cell?
  rw [x.block p.block hb]
theorem at_getD {α : Type} {l : List α} {k : Nat} {d : α} (h : k < l.length) : l[k]? = some (l.getD k d) := by
  rw [List.getD_eq_getElem?_getD, List.getElem?_eq_getElem h]; rfl
def Read3 (w : World) (e3 e2 e1 : TypeId) (v : Value) (xsss : List (List (List Int))) : Prop := ∃ rs, Row w e3 v rs ∧ rs.length = xsss.length ∧ ∀ (i : Nat) (r : Value), rs[i]? = some r → Rows w e2 e1 r (xsss.getD i [])
def RowU (w : World) (U : Nat) (e : TypeId) (v : Value) (vs : List Value) : Prop := Row w e v vs ∧ ∀ k, v.ownBlock = some k → k < U
def RowsU (w : World) (U : Nat) (e e' : TypeId) (v : Value) (xss : List (List Int)) : Prop := ∃ rs, RowU w U e v rs ∧ rs.length = xss.length ∧ ∀ (i : Nat) (r : Value), rs[i]? = some r → RowU w U e' r ((xss.getD i []).map (Value.int .i64))
def Own3 (w : World) (B U : Nat) (e3 e2 e1 : TypeId) (v : Value) (xsss : List (List (List Int))) : Prop := ∃ rs, Own w B e3 v rs ∧ rs.length = xsss.length ∧ ∀ (i : Nat) (r : Value), rs[i]? = some r → RowsU w U e2 e1 r (xsss.getD i [])
section
variable {w w' : World} {B U : Nat} {e e' e1 e2 e3 : TypeId} {v : Value} {vs : List Value} {xss : List (List Int)} {xsss : List (List (List Int))}
theorem RowU.ext (h : RowU w U e v vs) (x : Ext w w') : RowU w' U e v vs := ⟨h.1.ext x, h.2⟩
theorem RowU.apart {g : Nat} (h : RowU w U e v vs) (hg : w.grownBy w' (some g)) (hU : U ≤ g) : RowU w' U e v vs := by
  refine ⟨?_, h.2⟩
  rcases h.1 with h1 | ⟨b, o, c, cur, fr, hv, hb, hx⟩
  · exact .inl h1
  · refine .inr ⟨b, o, c, cur, fr, hv, ?_, hx⟩
    have hlt := h.2 b (by rw [hv]; rfl)
    rw [hg.block b (lt_of_block hb) (fun h => by injection h with h; omega)]
    exact hb
theorem RowU.other {B' : Nat} {t : TypeId} {u : Value} {us : List Value} (h : RowU w U e v vs) (ho : Own w B' t u us) (hg : w.grownBy w' u.ownBlock) (hne : t ≠ e) : RowU w' U e v vs := ⟨h.1.owned ho hg hne, h.2⟩
theorem RowsU.ext (h : RowsU w U e e' v xss) (x : Ext w w') : RowsU w' U e e' v xss := by
  obtain ⟨rs, h1, h2, h3⟩ := h
  exact ⟨rs, h1.ext x, h2, fun i r hr => (h3 i r hr).ext x⟩
theorem RowsU.apart {g : Nat} (h : RowsU w U e e' v xss) (hg : w.grownBy w' (some g)) (hU : U ≤ g) : RowsU w' U e e' v xss := by
  obtain ⟨rs, h1, h2, h3⟩ := h
  exact ⟨rs, h1.apart hg hU, h2, fun i r hr => (h3 i r hr).apart hg hU⟩
theorem RowsU.other {B' : Nat} {t : TypeId} {u : Value} {us : List Value} (h : RowsU w U e e' v xss) (ho : Own w B' t u us) (hg : w.grownBy w' u.ownBlock) (hne : t ≠ e) (hne' : t ≠ e') : RowsU w' U e e' v xss := by
  obtain ⟨rs, h1, h2, h3⟩ := h
  exact ⟨rs, h1.other ho hg hne, h2, fun i r hr => (h3 i r hr).other ho hg hne'⟩
theorem RowsU.up {U' : Nat} (h : RowsU w U e e' v xss) (hU : U ≤ U') : RowsU w U' e e' v xss := by
  obtain ⟨rs, h1, h2, h3⟩ := h
  exact ⟨rs, ⟨h1.1, fun k hk => Nat.lt_of_lt_of_le (h1.2 k hk) hU⟩, h2, fun i r hr => ⟨(h3 i r hr).1, fun k hk => Nat.lt_of_lt_of_le ((h3 i r hr).2 k hk) hU⟩⟩
theorem RowsU.rows (h : RowsU w U e e' v xss) : Rows w e e' v xss := by
  obtain ⟨rs, h1, h2, h3⟩ := h
  exact ⟨rs, h1.1, h2, fun i r hr => (h3 i r hr).1⟩
theorem RowsU.of (h : OwnRows w B w.heap.size e e' v xss) : RowsU w w.heap.size e e' v xss := by
  obtain ⟨rs, h1, h2, h3, h4⟩ := h
  exact ⟨rs, ⟨h1.row, fun k hk => (h1.lt k hk).2⟩, h2, fun i r hr => ⟨(h3 i r hr).1.row, (h3 i r hr).2⟩⟩
theorem Own3.nil (w : World) (B U : Nat) (e3 e2 e1 : TypeId) {v : Value} (h : Own w B e3 v []) : Own3 w B U e3 e2 e1 v [] := ⟨[], h, rfl, by simp⟩
theorem Own3.now (h : Own3 w B U e3 e2 e1 v xsss) (hU : U ≤ w.heap.size := by omega) : Own3 w B w.heap.size e3 e2 e1 v xsss := by
  obtain ⟨rs, h1, h2, h3⟩ := h
  exact ⟨rs, h1, h2, fun i r hr => (h3 i r hr).up hU⟩
theorem OwnRows.nil' (w : World) (B U : Nat) (e e' : TypeId) {v : Value} (h : Own w B e v []) : OwnRows w B U e e' v [] := ⟨[], h, rfl, by simp, by simp⟩
theorem Own3.ext (h : Own3 w B U e3 e2 e1 v xsss) (x : Ext w w') : Own3 w' B U e3 e2 e1 v xsss := by
  obtain ⟨rs, h1, h2, h3⟩ := h
  exact ⟨rs, h1.ext x, h2, fun i r hr => (h3 i r hr).ext x⟩
theorem Own3.apart {B' : Nat} {t : TypeId} {u : Value} {us : List Value} (h : Own3 w B U e3 e2 e1 v xsss) (ho : Own w B' t u us) (hg : w.grownBy w' u.ownBlock) (hB : U ≤ B') (hne : t ≠ e3) : Own3 w' B U e3 e2 e1 v xsss := by
  obtain ⟨rs, h1, h2, h3⟩ := h
  refine ⟨rs, h1.owned ho hg hne, h2, fun i r hr => ?_⟩
  rcases ho.cases with ⟨rfl, rfl⟩ | ⟨g, cap, cs, rfl, hg', hb, _⟩
  · exact (h3 i r hr).ext (Ext.of_grown hg)
  · exact (h3 i r hr).apart (g := g) hg (Nat.le_trans hB hg')
theorem Own3.read (h : Own3 w B U e3 e2 e1 v xsss) : Read3 w e3 e2 e1 v xsss := by
  obtain ⟨rs, h1, h2, h3⟩ := h
  exact ⟨rs, h1.row, h2, fun i r hr => (h3 i r hr).rows⟩
theorem Own3.open (h : Own3 w B U e3 e2 e1 v xsss) (hne : e3 ≠ e2) (hne' : e3 ≠ e1) : ∃ rs, Own w B e3 v rs ∧ rs.length = xsss.length ∧
    ∀ r xss w1 v' w', Ext w w1 → RowsU w1 w1.heap.size e2 e1 r xss → U ≤ w1.heap.size → Own w' B e3 v' (rs ++ [r]) → w1.grownBy w' v.ownBlock → Own3 w' B w'.heap.size e3 e2 e1 v' (xsss ++ [xss]) := by
  obtain ⟨rs, h1, h2, h3⟩ := h
  refine ⟨rs, h1, h2, fun r xss w1 v' w' x hr hU hv hg => ?_⟩
  have hv1 := h1.ext x
  have hsz := World.grownBy.size hg
  refine ⟨rs ++ [r], hv, by simp [h2], fun i q hq => ?_⟩
  rcases Nat.lt_or_ge i rs.length with hi | hi
  · rw [List.getElem?_append_left hi] at hq
    have e4 : (xsss ++ [xss]).getD i [] = xsss.getD i [] := by
      rw [List.getD_eq_getElem?_getD, List.getElem?_append_left (by omega), ← List.getD_eq_getElem?_getD]
    rw [e4]
    exact (((h3 i q hq).ext x).other hv1 hg hne hne').up (by omega)
  · have hi2 := (List.getElem?_eq_some_iff.1 hq).1
    rw [List.length_append, List.length_singleton] at hi2
    obtain rfl : i = rs.length := by omega
    rw [List.getElem?_append_right (Nat.le_refl _), Nat.sub_self] at hq
    have hq' : r = q := by simpa using hq
    subst hq'
    have e4 : (xsss ++ [xss]).getD rs.length [] = xss := by
      rw [h2, List.getD_eq_getElem?_getD, List.getElem?_append_right (Nat.le_refl _), Nat.sub_self]; rfl
    rw [e4]
    exact (hr.other hv1 hg hne hne').up hsz
theorem Read3.ext (h : Read3 w e3 e2 e1 v xsss) (x : Ext w w') : Read3 w' e3 e2 e1 v xsss := by
  obtain ⟨rs, h1, h2, h3⟩ := h
  exact ⟨rs, h1.ext x, h2, fun i r hr => (h3 i r hr).ext x⟩
theorem Read3.at (h : Read3 w e3 e2 e1 v xsss) {i : Int} (hi : 0 ≤ i) (hlt : i.toNat < xsss.length) : ∃ p r, At w e3 v i p r ∧ Rows w e2 e1 r (xsss.getD i.toNat []) := by
  obtain ⟨rs, h1, h2, h3⟩ := h
  have hl : i.toNat < rs.length := by omega
  obtain ⟨p, hp⟩ := h1.at hi hl
  exact ⟨p, rs[i.toNat], hp, h3 _ _ (List.getElem?_eq_getElem hl)⟩
end
def szs (aas : List A) : List Int := aas.map fun a => (a.next.length : Int)
def prodFrom (ss : List Int) (i : Nat) : Int := (ss.drop i).foldr (· * ·) 1
def decL (ss : List Int) (q : Int) : List Int := (List.range ss.length).map fun i => q / prodFrom ss (i + 1) % ss.getD i 0
def decTo (ss : List Int) (q : Int) (m : Nat) : List Int := (List.range ss.length).map fun i => if i < m then 0 else q / prodFrom ss (i + 1) % ss.getD i 0
def encTo (ss st : List Int) : Nat → Int
  | 0 => 0
  | k + 1 => encTo ss st k * ss.getD k 0 + st.getD k 0
def goL (aas : List A) (st : List Int) (x : Int) : List Int := (List.range aas.length).map fun i => goA (aas.getD i zeroA) (st.getD i 0) x
def fN (aas : List A) (q x : Int) : Int := encTo (szs aas) (goL aas (decL (szs aas) q) x) aas.length
def foundN (kd gl : Int) (aas : List A) (st : List Int) : Bool :=
  if kd = 0 then accA (aas.getD 0 zeroA) (st.getD 0 0) else if kd = 1 then accA (aas.getD 0 zeroA) (st.getD 0 0) != accA (aas.getD 1 zeroA) (st.getD 1 0)
  else if kd = 2 then accA (aas.getD 0 zeroA) (st.getD 0 0) && !accA (aas.getD 1 zeroA) (st.getD 1 0) else decide (st.getD 0 0 = gl)
def NetOk (aas : List A) : Prop := (1 ≤ aas.length ∧ aas.length ≤ 2) ∧ ∀ a ∈ aas, validA a = true
def KindOk (kd : Int) (aas : List A) : Prop := kd = 0 ∨ kd = 5 ∨ ((kd = 1 ∨ kd = 2) ∧ aas.length = 2)
theorem szs_length (aas : List A) : (szs aas).length = aas.length := by simp [szs]
theorem szs_at {aas : List A} {k : Nat} (h : k < aas.length) : (szs aas).getD k 0 = ((aas.getD k zeroA).next.length : Int) := by
  simp [szs, List.getD_eq_getElem?_getD, h]
theorem net_at {aas : List A} (h : NetOk aas) {k : Nat} (hk : k < aas.length) : aas[k]? = some (aas.getD k zeroA) ∧ validA (aas.getD k zeroA) = true ∧ 1 ≤ (aas.getD k zeroA).next.length ∧ (aas.getD k zeroA).next.length ≤ 12 ∧ (aas.getD k zeroA).acc.length = (aas.getD k zeroA).next.length := by
  have e : aas[k]? = some (aas.getD k zeroA) := by rw [List.getD_eq_getElem?_getD, List.getElem?_eq_getElem hk]; rfl
  have hv := h.2 _ (List.mem_of_getElem? e)
  have := (validA_spec.1 hv).2
  exact ⟨e, hv, by omega, by omega, by omega⟩
def SzOk (ss : List Int) : Prop := ss.length ≤ 2 ∧ ∀ k, k < ss.length → 1 ≤ ss.getD k 0 ∧ ss.getD k 0 ≤ 12
theorem szs_ok {aas : List A} (h : NetOk aas) : SzOk (szs aas) := ⟨by rw [szs_length]; exact h.1.2, fun k hk => by
  rw [szs_length] at hk
  have := net_at h hk
  rw [szs_at hk]
  omega⟩
theorem prodFrom_step {ss : List Int} {i : Nat} (h : i < ss.length) : prodFrom ss i = ss.getD i 0 * prodFrom ss (i + 1) := by
  unfold prodFrom
  rw [List.drop_eq_getElem_cons h, List.foldr_cons, List.getD_eq_getElem?_getD, List.getElem?_eq_getElem h]
  rfl
theorem prodFrom_end {ss : List Int} {i : Nat} (h : ss.length ≤ i) : prodFrom ss i = 1 := by
  unfold prodFrom
  rw [List.drop_of_length_le h]
  rfl
theorem prodFrom_pos {ss : List Int} (h : SzOk ss) (i : Nat) : 1 ≤ prodFrom ss i ∧ prodFrom ss i ≤ 144 := by
  have h0 : ∀ i, 1 ≤ i → 1 ≤ prodFrom ss i ∧ prodFrom ss i ≤ 12 := fun i hi => by
    rcases Nat.lt_or_ge i ss.length with hl | hl
    · rw [prodFrom_step hl, prodFrom_end (i := i + 1) (by have := h.1; omega), Int.mul_one]
      exact h.2 i hl
    · rw [prodFrom_end hl]; omega
  rcases Nat.eq_zero_or_pos i with rfl | hi
  · rcases Nat.lt_or_ge 0 ss.length with hl | hl
    · rw [prodFrom_step hl]
      have h1 := h.2 0 hl
      have h2 : 1 ≤ prodFrom ss (0 + 1) ∧ prodFrom ss (0 + 1) ≤ 12 := h0 1 (Nat.le_refl _)
      have h3 : 1 * 1 ≤ ss.getD 0 0 * prodFrom ss (0 + 1) := Int.mul_le_mul h1.1 h2.1 (by omega) (by omega)
      have h4 : ss.getD 0 0 * prodFrom ss (0 + 1) ≤ 12 * 12 := Int.mul_le_mul h1.2 h2.2 (by omega) (by omega)
      omega
    · rw [prodFrom_end hl]; omega
  · have := h0 i hi; omega
theorem decTo_zero (ss : List Int) (q : Int) : decTo ss q 0 = decL ss q := by simp [decTo, decL]
theorem decTo_all {ss : List Int} (q : Int) {m : Nat} (h : ss.length ≤ m) : decTo ss q m = List.replicate ss.length 0 := by
  apply List.ext_getElem
  · simp [decTo]
  · intro i h1 h2
    have : i < m := by simp [decTo] at h1; omega
    simp [decTo, this]
theorem decTo_length (ss : List Int) (q : Int) (m : Nat) : (decTo ss q m).length = ss.length := by simp [decTo]
theorem decL_length (ss : List Int) (q : Int) : (decL ss q).length = ss.length := by simp [decL]
theorem decTo_step {ss : List Int} {q : Int} {m : Nat} (h : m < ss.length) : (decTo ss q (m + 1)).set m (q / prodFrom ss (m + 1) % ss.getD m 0) = decTo ss q m := by
  apply List.ext_getElem
  · simp [decTo]
  · intro i h1 h2
    rw [List.getElem_set]
    by_cases hi : m = i
    · subst hi
      simp [decTo]
    · by_cases hl : i < m
      · simp [decTo, hi, hl, Nat.lt_succ_of_lt hl]
      · have hl2 : ¬ i < m + 1 := by omega
        simp [decTo, hi, hl, hl2]
theorem prod_node {ss : List Int} {q : Int} {m : Nat} (h : m < ss.length) (hs : SzOk ss) : q / prodFrom ss (m + 1) / ss.getD m 0 = q / prodFrom ss m := by
  rw [Int.ediv_ediv, if_neg (by have := prodFrom_pos hs (m + 1); omega), Int.sub_zero, prodFrom_step h, Int.mul_comm]
theorem node_bd {ss : List Int} {q : Int} (hs : SzOk ss) (hq : 0 ≤ q ∧ q ≤ 1000) (m : Nat) : 0 ≤ q / prodFrom ss m ∧ q / prodFrom ss m ≤ 1000 := by
  have h1 := prodFrom_pos hs m
  have h2 : 0 ≤ q / prodFrom ss m := Int.ediv_nonneg hq.1 (by omega)
  have h3 := Int.ediv_le_self (a := q) (prodFrom ss m) hq.1
  omega
def StOk (ss st : List Int) : Prop := ∀ k, k < ss.length → 0 ≤ st.getD k 0 ∧ st.getD k 0 < ss.getD k 0
theorem enc_bd {ss st : List Int} (hs : SzOk ss) (h : StOk ss st) {k : Nat} (hk : k < ss.length) : 0 ≤ encTo ss st k ∧ encTo ss st k ≤ 11 ∧ 0 ≤ encTo ss st k * ss.getD k 0 ∧ encTo ss st k * ss.getD k 0 ≤ 132 := by
  have h2 := hs.2 k hk
  have key : 0 ≤ encTo ss st k ∧ encTo ss st k ≤ 11 := by
    cases k with
    | zero => exact ⟨Int.le_refl _, by show (0 : Int) ≤ 11; decide⟩
    | succ k =>
      have : k = 0 := by have := hs.1; omega
      subst this
      have h3 := h 0 (by omega)
      have h4 := hs.2 0 (by omega)
      show 0 ≤ 0 * _ + st.getD 0 0 ∧ 0 * _ + st.getD 0 0 ≤ 11
      rw [Int.zero_mul, Int.zero_add]
      omega
  have h3 : 0 ≤ encTo ss st k * ss.getD k 0 := Int.mul_nonneg key.1 (by omega)
  have h4 : encTo ss st k * ss.getD k 0 ≤ 11 * 12 := Int.mul_le_mul key.2 h2.2 (by omega) (by omega)
  exact ⟨key.1, key.2, h3, by omega⟩
theorem decL_at {ss : List Int} {q : Int} {k : Nat} (h : k < ss.length) : (decL ss q).getD k 0 = q / prodFrom ss (k + 1) % ss.getD k 0 := by
  simp [decL, List.getD_eq_getElem?_getD, h]
theorem decL_ok {ss : List Int} (hs : SzOk ss) (q : Int) : StOk ss (decL ss q) := fun k hk => by
  have h2 := hs.2 k hk
  rw [decL_at hk]
  exact ⟨Int.emod_nonneg _ (by omega), Int.emod_lt_of_pos _ (by omega)⟩
theorem goL_at {aas : List A} {st : List Int} {x : Int} {k : Nat} (h : k < aas.length) : (goL aas st x).getD k 0 = goA (aas.getD k zeroA) (st.getD k 0) x := by
  simp [goL, List.getD_eq_getElem?_getD, h]
theorem st_at {aas : List A} {st : List Int} (h : StOk (szs aas) st) {k : Nat} (hk : k < aas.length) : 0 ≤ st.getD k 0 ∧ st.getD k 0 < ((aas.getD k zeroA).next.length : Int) := by
  have := h k (by rw [szs_length]; exact hk)
  rw [szs_at hk] at this
  exact this
theorem goL_ok {aas : List A} (h : NetOk aas) {st : List Int} (hst : StOk (szs aas) st) {x : Int} (hx : 0 ≤ x ∧ x < 6) : StOk (szs aas) (goL aas st x) := fun k hk => by
  rw [szs_length] at hk
  rw [goL_at hk, szs_at hk]
  exact goA_in (net_at h hk).2.1 (st_at hst hk) hx
theorem enc_lt {ss st : List Int} (hs : SzOk ss) (h : StOk ss st) (h1 : 1 ≤ ss.length) : 0 ≤ encTo ss st ss.length ∧ encTo ss st ss.length < prodFrom ss 0 := by
  rcases Nat.lt_or_ge 1 ss.length with h2 | h2
  · have hl : ss.length = 2 := by have := hs.1; omega
    have a0 := h 0 (by omega)
    have a1 := h 1 (by omega)
    have b0 := hs.2 0 (by omega)
    have b1 := hs.2 1 (by omega)
    rw [hl, prodFrom_step (by omega), prodFrom_step (by omega), prodFrom_end (by omega), Int.mul_one]
    show 0 ≤ (0 * ss.getD 0 0 + st.getD 0 0) * ss.getD 1 0 + st.getD 1 0 ∧ (0 * ss.getD 0 0 + st.getD 0 0) * ss.getD 1 0 + st.getD 1 0 < ss.getD 0 0 * ss.getD (0 + 1) 0
    rw [Int.zero_mul, Int.zero_add]
    have c1 : 0 ≤ st.getD 0 0 * ss.getD 1 0 := Int.mul_nonneg a0.1 (by omega)
    have c2 : (st.getD 0 0 + 1) * ss.getD 1 0 ≤ ss.getD 0 0 * ss.getD 1 0 := Int.mul_le_mul_of_nonneg_right (by omega) (by omega)
    rw [Int.add_mul, Int.one_mul] at c2
    show 0 ≤ st.getD 0 0 * ss.getD 1 0 + st.getD 1 0 ∧ st.getD 0 0 * ss.getD 1 0 + st.getD 1 0 < ss.getD 0 0 * ss.getD 1 0
    omega
  · have hl : ss.length = 1 := by omega
    have a0 := h 0 (by omega)
    rw [hl, prodFrom_step (by omega), prodFrom_end (by omega), Int.mul_one]
    show 0 ≤ 0 * ss.getD 0 0 + st.getD 0 0 ∧ 0 * ss.getD 0 0 + st.getD 0 0 < ss.getD 0 0
    rw [Int.zero_mul, Int.zero_add]
    omega
def total (aas : List A) : Nat := (prodFrom (szs aas) 0).toNat
theorem total_bd {aas : List A} (h : NetOk aas) : 1 ≤ total aas ∧ total aas ≤ 144 ∧ ((total aas : Nat) : Int) = prodFrom (szs aas) 0 := by
  have := prodFrom_pos (szs_ok h) 0
  unfold total
  omega
theorem fN_in {aas : List A} (h : NetOk aas) (q : Int) {x : Int} (hx : 0 ≤ x ∧ x < 6) : 0 ≤ fN aas q x ∧ fN aas q x < (total aas : Int) := by
  have h1 := enc_lt (szs_ok h) (goL_ok h (decL_ok (szs_ok h) q) hx) (by rw [szs_length]; exact h.1.1)
  rw [szs_length] at h1
  rw [(total_bd h).2.2]
  exact h1
def prodTo (ss : List Int) (k : Nat) : Int := (ss.take k).foldl (· * ·) 1
theorem prodTo_succ {ss : List Int} {k : Nat} (h : k < ss.length) : prodTo ss (k + 1) = prodTo ss k * ss.getD k 0 := by
  unfold prodTo
  rw [take_snoc 0 h, List.foldl_append]
  rfl
theorem prodTo_bd {ss : List Int} (hs : SzOk ss) {k : Nat} (hk : k < ss.length) : 1 ≤ prodTo ss k ∧ prodTo ss k ≤ 12 ∧ 0 ≤ prodTo ss k * ss.getD k 0 ∧ prodTo ss k * ss.getD k 0 ≤ 144 := by
  have h2 := hs.2 k hk
  have key : 1 ≤ prodTo ss k ∧ prodTo ss k ≤ 12 := by
    cases k with
    | zero => show (1 : Int) ≤ 1 ∧ (1 : Int) ≤ 12; decide
    | succ k =>
      have : k = 0 := by have := hs.1; omega
      subst this
      rw [prodTo_succ (by omega)]
      have h4 := hs.2 0 (by omega)
      show 1 ≤ 1 * _ ∧ 1 * _ ≤ 12
      rw [Int.one_mul]
      exact h4
  have h3 : 0 ≤ prodTo ss k * ss.getD k 0 := Int.mul_nonneg (by omega) (by omega)
  have h4 : prodTo ss k * ss.getD k 0 ≤ 12 * 12 := Int.mul_le_mul key.2 h2.2 (by omega) (by omega)
  exact ⟨key.1, key.2, h3, by omega⟩
theorem foldl_mul (l : List Int) : ∀ (c : Int), l.foldl (· * ·) c = c * l.foldr (· * ·) 1 := by
  induction l with
  | nil => intro c; simp
  | cons x l ih => intro c; rw [List.foldl_cons, ih, List.foldr_cons, Int.mul_assoc]
theorem prodTo_all {ss : List Int} {k : Nat} (h : ss.length ≤ k) : prodTo ss k = prodFrom ss 0 := by
  unfold prodTo prodFrom
  rw [List.take_of_length_le h, foldl_mul, Int.one_mul, List.drop_zero]
def movesN (aas : List A) (L : List Int) : List (List (List Int)) := (List.range (total aas)).map fun (q : Nat) => L.map fun x => [fN aas (q : Int) x]
theorem moves_at {aas : List A} {L : List Int} {q : Int} (hq : 0 ≤ q ∧ q < (total aas : Int)) : (movesN aas L).getD q.toNat [] = L.map fun x => [fN aas q x] := by
  have h : q.toNat < total aas := by omega
  have e : ((q.toNat : Nat) : Int) = q := Int.toNat_of_nonneg hq.1
  simp [movesN, List.getD_eq_getElem?_getD, h, e]
section
variable {f : Int → Int → Int} {L : List Int} {G : Int → Bool} {n : Nat}
def dsAt (f : Int → Int → Int) (L : List Int) (G : Int → Bool) (n d i : Nat) : List Int := (List.range n).map fun (q : Nat) => if q < i then disTo f L G (d + 1) (q : Int) else disTo f L G d (q : Int)
def dsOf (f : Int → Int → Int) (L : List Int) (G : Int → Bool) (n d : Nat) : List Int := (List.range n).map fun (q : Nat) => disTo f L G d (q : Int)
theorem dsAt_zero (d : Nat) : dsAt f L G n d 0 = dsOf f L G n d := by simp [dsAt, dsOf]
theorem dsAt_all {d i : Nat} (h : n ≤ i) : dsAt f L G n d i = dsOf f L G n (d + 1) := by
  unfold dsAt dsOf
  refine List.map_congr_left fun q hq => ?_
  have := List.mem_range.1 hq
  rw [if_pos (by omega)]
theorem dsAt_length (d i : Nat) : (dsAt f L G n d i).length = n := by simp [dsAt]
theorem dsOf_length (d : Nat) : (dsOf f L G n d).length = n := by simp [dsOf]
theorem dsAt_get {d i : Nat} {q : Int} (hq : 0 ≤ q ∧ q < n) : (dsAt f L G n d i).getD q.toNat 0 = if q.toNat < i then disTo f L G (d + 1) q else disTo f L G d q := by
  have h : q.toNat < n := by omega
  have e : ((q.toNat : Nat) : Int) = q := Int.toNat_of_nonneg hq.1
  simp [dsAt, List.getD_eq_getElem?_getD, h, e]
theorem dsOf_get {d : Nat} {q : Int} (hq : 0 ≤ q ∧ q < n) : (dsOf f L G n d).getD q.toNat 0 = disTo f L G d q := by
  have h : q.toNat < n := by omega
  have e : ((q.toNat : Nat) : Int) = q := Int.toNat_of_nonneg hq.1
  simp [dsOf, List.getD_eq_getElem?_getD, h, e]
theorem dsAt_keep {d i : Nat} (h : disTo f L G (d + 1) (i : Int) = disTo f L G d (i : Int)) : dsAt f L G n d (i + 1) = dsAt f L G n d i := by
  unfold dsAt
  refine List.map_congr_left fun q hq => ?_
  by_cases hi : q = i
  · subst hi
    rw [if_pos (by omega), if_neg (by omega), h]
  · by_cases hl : q < i
    · rw [if_pos (by omega), if_pos hl]
    · rw [if_neg (by omega), if_neg hl]
theorem dsAt_set {d i : Nat} (hi : i < n) : (dsAt f L G n d i).set i (disTo f L G (d + 1) (i : Int)) = dsAt f L G n d (i + 1) := by
  apply List.ext_getElem
  · simp [dsAt]
  · intro j h1 h2
    rw [List.getElem_set]
    by_cases hj : i = j
    · subst hj
      simp [dsAt]
    · by_cases hl : j < i
      · simp [dsAt, hj, hl, Nat.lt_succ_of_lt hl]
      · have hl2 : ¬ j < i + 1 := by omega
        simp [dsAt, hj, hl, hl2]
theorem dis_same {d : Nat} (t : Int) : disTo f L G (d + 1) t = (d : Int) ↔ disTo f L G d t = (d : Int) := by
  rw [disTo_eq, disTo_eq]
  constructor
  · rintro ⟨_, h⟩; exact ⟨Nat.le_refl _, h⟩
  · rintro ⟨_, h⟩; exact ⟨Nat.le_succ _, h⟩
theorem any_same {α : Type} {p q : α → Bool} : ∀ {l : List α}, (∀ x ∈ l, p x = q x) → l.any p = l.any q
  | [], _ => rfl
  | x :: l, h => by rw [List.any_cons, List.any_cons, h x (by simp), any_same fun y hy => h y (by simp [hy])]
def nearX (ds : List Int) (xss : List (List Int)) (d : Int) : Bool := xss.any fun r => r.any fun x => decide (ds.getD x.toNat 0 = d)
theorem near_yes {ds : List Int} {xss : List (List Int)} {d : Int} {k i : Nat} (hk : k < xss.length) (hi : i < (xss.getD k []).length) (h : ds.getD ((xss.getD k []).getD i 0).toNat 0 = d) : nearX ds xss d = true :=
  List.any_eq_true.2 ⟨_, getD_mem hk, List.any_eq_true.2 ⟨_, getD_mem hi, decide_eq_true h⟩⟩
theorem nearX_eq {d i : Nat} (hf : ∀ q l, l ∈ L → 0 ≤ f q l ∧ f q l < n) (q : Int) : nearX (dsAt f L G n d i) (L.map fun x => [f q x]) (d : Int) = near f L G d q := by
  unfold nearX near
  rw [List.any_map]
  have h : ∀ l ∈ L, ((fun r => List.any r fun x => decide ((dsAt f L G n d i).getD x.toNat 0 = (d : Int))) ∘ fun x => [f q x]) l = decide (disTo f L G d (f q l) = (d : Int)) := fun l hl => by
    have hl2 := hf q l hl
    simp only [Function.comp, List.any_cons, List.any_nil, Bool.or_false]
    rw [dsAt_get hl2]
    by_cases hi : (f q l).toNat < i
    · rw [if_pos hi]
      by_cases hd : disTo f L G d (f q l) = (d : Int)
      · rw [decide_eq_true hd, decide_eq_true (dis_same _ |>.2 hd)]
      · rw [decide_eq_false hd, decide_eq_false (fun hc => hd (dis_same _ |>.1 hc))]
    · rw [if_neg hi]
  exact any_same h
theorem dsOf_init : dsOf f L G n 0 = (List.range n).map fun (q : Nat) => if G (q : Int) then (0 : Int) else -1 := by
  unfold dsOf
  exact List.map_congr_left fun q _ => disTo_zero
theorem moves_f {q : Int} (hq : 0 ≤ q ∧ q < n) : ((List.range n).map fun (q : Nat) => L.map fun x => [f (q : Int) x]).getD q.toNat [] = L.map fun x => [f q x] := by
  have h : q.toNat < n := by omega
  have e : ((q.toNat : Nat) : Int) = q := Int.toNat_of_nonneg hq.1
  simp [List.getD_eq_getElem?_getD, h, e]
theorem mv_ok (hf : ∀ q l, l ∈ L → 0 ≤ f q l ∧ f q l < n) (hLl : L.length ≤ 100) {d i : Nat} {q : Int} (hq : 0 ≤ q ∧ q < n) : ∀ r ∈ ((List.range n).map fun (q : Nat) => L.map fun x => [f (q : Int) x]).getD q.toNat [], r.length ≤ 1000 ∧ ∀ x ∈ r, 0 ≤ x ∧ x < ((dsAt f L G n d i).length : Int) := by
  rw [moves_f hq, dsAt_length]
  intro r hr
  obtain ⟨x, hx, rfl⟩ := List.mem_map.1 hr
  refine ⟨by simp, fun y hy => ?_⟩
  rw [List.mem_singleton.1 hy]
  exact hf q x hx
theorem dsOf_same {d : Nat} (h : ∀ j : Nat, j < n → disTo f L G (d + 1) (j : Int) = disTo f L G d (j : Int)) : dsOf f L G n (d + 1) = dsOf f L G n d := List.map_congr_left fun q hq => h q (List.mem_range.1 hq)
theorem dis_all {d : Nat} (h : ∀ j : Nat, j < n → disTo f L G (d + 1) (j : Int) = disTo f L G d (j : Int)) : ∀ q, 0 ≤ q ∧ q < (n : Int) → disTo f L G (d + 1) q = disTo f L G d q := fun q hq => by
  have := h q.toNat (by omega)
  rwa [Int.toNat_of_nonneg hq.1] at this
theorem dis_more {d k k' : Nat} {i : Int} (ei : ((k : Nat) : Int) = i) (h : ∀ j : Nat, j < k → disTo f L G (d + 1) (j : Int) = disTo f L G d (j : Int)) (h2 : disTo f L G (d + 1) (k : Int) = disTo f L G d (k : Int)) (e : k' = k + 1) : ∀ j : Nat, j < k' → disTo f L G (d + 1) (j : Int) = disTo f L G d (j : Int) := fun j hj => by
  rcases Nat.lt_or_ge j k with h3 | h3
  · exact h j h3
  · obtain rfl : j = k := by omega
    exact h2
def todo (f : Int → Int → Int) (L : List Int) (G : Int → Bool) (n d i : Nat) : Nat := (dsAt f L G n d i).countP fun x => decide (x < 0)
theorem dsAt_split {d i : Nat} (hi : i < n) : dsAt f L G n d i = (dsAt f L G n d i).take i ++ disTo f L G d (i : Int) :: (dsAt f L G n d i).drop (i + 1) := by
  have h1 : i < (dsAt f L G n d i).length := by rw [dsAt_length]; exact hi
  have e1 : dsAt f L G n d i = (dsAt f L G n d i).take i ++ (dsAt f L G n d i).drop i := (List.take_append_drop i _).symm
  have e2 : (dsAt f L G n d i).drop i = disTo f L G d (i : Int) :: (dsAt f L G n d i).drop (i + 1) := by
    rw [List.drop_eq_getElem_cons h1]
    congr 1
    simp [dsAt]
  rw [← e2]
  exact e1
theorem todo_keep {d i : Nat} (h : disTo f L G (d + 1) (i : Int) = disTo f L G d (i : Int)) : todo f L G n d (i + 1) = todo f L G n d i := by unfold todo; rw [dsAt_keep h]
theorem todo_less {d i : Nat} (hi : i < n) (h : disTo f L G d (i : Int) < 0) (h2 : 0 ≤ disTo f L G (d + 1) (i : Int)) : todo f L G n d (i + 1) + 1 = todo f L G n d i := by
  unfold todo
  have e1 := dsAt_split (f := f) (L := L) (G := G) (d := d) hi
  rw [← dsAt_set hi, e1, List.set_append_right _ _ (by rw [List.length_take, dsAt_length]; omega)]
  rw [List.length_take, dsAt_length, Nat.min_eq_left (by omega), Nat.sub_self, List.set_cons_zero]
  simp only [List.countP_append, List.countP_cons]
  rw [if_neg (by simp; omega), if_pos (by simpa using h)]
  omega
theorem todo_round (d : Nat) (i : Nat) (h : n ≤ i) : todo f L G n d i = todo f L G n (d + 1) 0 := by unfold todo; rw [dsAt_all h, dsAt_zero]
theorem todo_le (d i : Nat) : todo f L G n d i ≤ n := by
  unfold todo
  refine Nat.le_trans List.countP_le_length ?_
  rw [dsAt_length]
  exact Nat.le_refl _
def dsInit (G : Int → Bool) (n i : Nat) : List Int := (List.range n).map fun (q : Nat) => if q < i then (if G (q : Int) then 0 else -1) else 0
theorem dsInit_zero : dsInit G n 0 = List.replicate n 0 := by
  apply List.ext_getElem <;> simp [dsInit]
theorem dsInit_length (i : Nat) : (dsInit G n i).length = n := by simp [dsInit]
theorem dsInit_all {i : Nat} (h : n ≤ i) : dsInit G n i = dsOf f L G n 0 := by
  rw [dsOf_init]
  unfold dsInit
  refine List.map_congr_left fun q hq => ?_
  have := List.mem_range.1 hq
  rw [if_pos (by omega)]
theorem dsInit_set {i : Nat} (hi : i < n) {x : Int} (hx : x = if G (i : Int) then 0 else -1) : (dsInit G n i).set i x = dsInit G n (i + 1) := by
  apply List.ext_getElem
  · simp [dsInit]
  · intro j h1 h2
    rw [List.getElem_set]
    by_cases hj : i = j
    · subst hj
      simp [dsInit, hx]
    · by_cases hl : j < i
      · simp [dsInit, hj, hl, Nat.lt_succ_of_lt hl]
      · have hl2 : ¬ j < i + 1 := by omega
        simp [dsInit, hj, hl, hl2]
theorem dsInit_F {v : Int} {i : Nat} (hi : i < n) (hv : ((i : Nat) : Int) = v) (h : G v = false) : ((dsInit G n i).map (Value.int .i64)).set i (.int .i64 (-1)) = (dsInit G n (i + 1)).map (Value.int .i64) := by
  rw [← List.map_set, dsInit_set hi (by rw [hv, h]; rfl)]
theorem dsInit_T {v : Int} {i : Nat} (hi : i < n) (hv : ((i : Nat) : Int) = v) (h : G v = true) : (((dsInit G n i).map (Value.int .i64)).set i (.int .i64 (-1))).set i (.int .i64 0) = (dsInit G n (i + 1)).map (Value.int .i64) := by
  rw [List.set_set, ← List.map_set, dsInit_set hi (by rw [hv, h]; rfl)]
theorem disTo_next {d n : Nat} {q : Int} (h : disTo f L G d q = ((n + 1 : Nat) : Int)) : ∃ l ∈ L, disTo f L G d (f q l) = (n : Int) := by
  have h1 := disTo_eq.1 h
  obtain ⟨l, hl, hl2⟩ := List.any_eq_true.1 h1.2.1
  refine ⟨l, hl, disTo_eq.2 ⟨by omega, hl2, fun m hm => ?_⟩⟩
  cases hm2 : lev f L G m (f q l) with
  | false => rfl
  | true =>
    have h5 : lev f L G (m + 1) q = true := List.any_eq_true.2 ⟨l, hl, hm2⟩
    rw [h1.2.2 (m + 1) (by omega)] at h5
    cases h5
theorem find_first {α : Type} {p : α → Bool} {d : α} : ∀ {L : List α} {k : Nat}, k < L.length → (∀ j, j < k → p (L.getD j d) = false) → p (L.getD k d) = true → L.find? p = some (L.getD k d)
  | x :: L, 0, _, _, h => by
    have h' : p x = true := h
    rw [List.find?_cons_of_pos h']; rfl
  | x :: L, k + 1, hk, hno, h => by
    have h0 : p x = false := hno 0 (by omega)
    rw [List.find?_cons_of_neg (by rw [h0]; decide)]
    exact find_first (by simpa using hk) (fun j hj => hno (j + 1) (by omega)) h
theorem gre_next {dis : Int → Int} {m k : Nat} {q : Int} (hk : k < L.length) (hno : ∀ j, j < k → ¬ dis (f q (L.getD j 0)) = (m : Int)) (h : dis (f q (L.getD k 0)) = (m : Int)) : gre f L dis (m + 1) q = L.getD k 0 :: gre f L dis m (f q (L.getD k 0)) := by
  rw [gre, find_first (p := fun l => decide (dis (f q l) = (m : Int))) hk (fun j hj => decide_eq_false (hno j hj)) (decide_eq_true h)]
theorem next_lt {d k : Nat} {q e : Int} (hq : disTo f L G d q = e) (he : 0 < e) (hno : ∀ j, j < k → ¬ disTo f L G d (f q (L.getD j 0)) = e - 1) : k < L.length := by
  obtain ⟨m, rfl⟩ : ∃ m : Nat, e = ((m + 1 : Nat) : Int) := ⟨(e - 1).toNat, by omega⟩
  obtain ⟨l, hl, h⟩ := disTo_next hq
  rcases Nat.lt_or_ge k L.length with h1 | h1
  · exact h1
  · obtain ⟨j, hj, rfl⟩ := List.getElem_of_mem hl
    refine absurd ?_ (hno j (by omega))
    rw [List.getD_eq_getElem?_getD, List.getElem?_eq_getElem hj]
    show disTo f L G d (f q L[j]) = _
    rw [h]
    omega
theorem disTo_le {d : Nat} {q : Int} : disTo f L G d q ≤ d := by
  rcases disTo_cases (f := f) (L := L) (G := G) d q with h | ⟨n, h, h2⟩ <;> omega
theorem ord_range {s : Int} (hf : ∀ q l, l ∈ L → 0 ≤ f q l ∧ f q l < (n : Int)) (hs : 0 ≤ s ∧ s < (n : Int)) : (ord f s L).length ≤ n := by
  have h := bfsw_range (f := f) (s := s) (L := L) (n := n) (D := fun q => 0 ≤ q ∧ q < (n : Int)) hs (fun q _ x hx => hf q x hx) (fun q hq => hq) (many 0)
  rw [bfsw_length] at h
  exact h
theorem row_get {q : Int} {k : Nat} (hk : k < L.length) : (L.map fun x => [f q x]).getD k [] = [f q (L.getD k 0)] := by
  simp [List.getD_eq_getElem?_getD, hk]
end
theorem Ret.resW {P : Program} {k : FuncId} {args : Array Value} {w0 : World} {X Y : Option (List Int)} (h : Ret P k args w0 (fun v w => v = Go.Proofs.Ytdkdpmmfebdeaaa.resW X ∧ Ext w0 w)) (e : X = Y) : Ret P k args w0 (fun v w => v = Go.Proofs.Ytdkdpmmfebdeaaa.resW Y ∧ Ext w0 w) := by rw [← e]; exact h
section
variable {w : World} {B : Nat} {AU SI I Bo : TypeId} {v nx ac nx' ac' : Value} {a b : A}
theorem NetA.of2 (hW : Wid w B AU 3 v [[.int .i64 a.al, nx, ac], [.int .i64 b.al, nx', ac']]) (h1 : Rows w SI I nx a.next) (h2 : Bools w Bo ac a.acc) (h1' : Rows w SI I nx' b.next) (h2' : Bools w Bo ac' b.acc) : NetA w AU SI I Bo v [a, b] :=
  ⟨B, _, hW, rfl, fun j x hx => by
    match j, hx with
    | 0, hx => obtain rfl : a = x := by simpa using hx
               exact ⟨nx, ac, rfl, h1, h2⟩
    | 1, hx => obtain rfl : b = x := by simpa using hx
               exact ⟨nx', ac', rfl, h1', h2'⟩
    | j + 2, hx => simp at hx⟩
theorem netOk2 (h : validA a = true) (h' : validA b = true) : NetOk [a, b] := ⟨⟨by show 1 ≤ 2; decide, Nat.le_refl _⟩, fun x hx => by
  rcases List.mem_cons.1 hx with rfl | hx
  · exact h
  · rw [List.mem_singleton.1 hx]; exact h'⟩
theorem stOk2 {i j : Int} (h : 0 ≤ i ∧ i < a.next.length) (h' : 0 ≤ j ∧ j < b.next.length) : StOk (szs [a, b]) [i, j] := fun k hk => by
  have : k = 0 ∨ k = 1 := by simp [szs] at hk; omega
  rcases this with rfl | rfl
  · exact h
  · exact h'
theorem dec2 {p : Int × Int} (h : In2 a b p) : decL (szs [a, b]) (enc2 b p) = [p.1, p.2] := by
  show [enc2 b p / ((b.next.length : Int) * 1) % (a.next.length : Int), enc2 b p / 1 % (b.next.length : Int)] = [p.1, p.2]
  rw [Int.mul_one, Int.ediv_one, (enc_div h).1, (enc_div h).2, Int.emod_eq_of_lt h.1.1 h.1.2]
theorem fN2 {p : Int × Int} {l : Int} (h : In2 a b p) : fN [a, b] (enc2 b p) l = enc2 b (step2 a b p l) := by
  unfold fN
  rw [dec2 h]
  show ((0 : Int) * _ + goA a p.1 l) * (b.next.length : Int) + goA b p.2 l = _
  rw [Int.zero_mul, Int.zero_add]
  rfl
theorem net2 {i j : Int} {g : Bool → Bool → Bool} {kd gl : Int} (hv : validA a = true) (hv' : validA b = true) (hp : In2 a b (i, j)) (hG : ∀ p q, foundN kd gl [a, b] [p, q] = g (accA a p) (accA b q)) : firstOf (fN [a, b]) (encTo (szs [a, b]) [i, j] (szs [a, b]).length) (letters a.al) (fun q => foundN kd gl [a, b] (decL (szs [a, b]) q)) = firstAB a b (i, j) g := by
  have e : encTo (szs [a, b]) [i, j] (szs [a, b]).length = enc2 b (i, j) := by
    show ((0 : Int) * _ + i) * (b.next.length : Int) + j = _
    rw [Int.zero_mul, Int.zero_add]; rfl
  rw [e]
  exact firstOf_map (P := In2 a b) (g := enc2 b) enc_inj hp (fun q hq l hl => in2 hv hv' hq ⟨(mem_letters hl).1, (mem_letters hl).2.1⟩) (fun q hq l _ => fN2 hq) (fun q hq => by show foundN kd gl [a, b] (decL (szs [a, b]) (enc2 b q)) = _; rw [dec2 hq, hG])
end
end Go.Proofs.Ytdkdpmmfebdeaaa
set_option linter.unusedSimpArgs false
set_option linter.unusedVariables false
namespace Go.Proofs.Ytdkdpmmfebdeaaa
open Go.RowKit
def LenOk (n : Nat) : Prop := n ≤ 9223372036854775807
def IntsX (w : World) (v : Value) (xs : List Int) : Prop := LenOk xs.length ∧ ∃ e, Ints w e v xs
def BoolsX (w : World) (v : Value) (xs : List Bool) : Prop := LenOk xs.length ∧ ∃ e, Bools w e v xs
def RowsX (w : World) (v : Value) (xss : List (List Int)) : Prop := LenOk xss.length ∧ ∃ e rs, Row w e v rs ∧ rs.length = xss.length ∧ ∀ (i : Nat) (r : Value), rs[i]? = some r → IntsX w r (xss.getD i [])
section
variable {w w' : World} {v : Value} {xs : List Int} {ys : List Bool} {xss : List (List Int)}
theorem IntsX.ext (h : IntsX w v xs) (x : Ext w w') : IntsX w' v xs := ⟨h.1, h.2.elim fun e h => ⟨e, h.ext x⟩⟩
theorem BoolsX.ext (h : BoolsX w v ys) (x : Ext w w') : BoolsX w' v ys := ⟨h.1, h.2.elim fun e h => ⟨e, h.ext x⟩⟩
theorem RowsX.ext (h : RowsX w v xss) (x : Ext w w') : RowsX w' v xss := by
  obtain ⟨hl, e, rs, h1, h2, h3⟩ := h
  exact ⟨hl, e, rs, h1.ext x, h2, fun i r hr => (h3 i r hr).ext x⟩
theorem RowsX.at (h : RowsX w v xss) {i : Int} (hi : 0 ≤ i) (hlt : i.toNat < xss.length) : ∃ e p r, At w e v i p r ∧ IntsX w r (xss.getD i.toNat []) := by
  obtain ⟨hl, e, rs, h1, h2, h3⟩ := h
  have hl : i.toNat < rs.length := by omega
  obtain ⟨p, hp⟩ := h1.at hi hl
  exact ⟨e, p, rs[i.toNat], hp, h3 _ _ (List.getElem?_eq_getElem hl)⟩
theorem RowsX.len (h : RowsX w v xss) : ∃ e rs, Row w e v rs ∧ rs.length = xss.length := by
  obtain ⟨hl, e, rs, h1, h2, _⟩ := h
  exact ⟨e, rs, h1, h2⟩
end
def SmX (a : A) : Prop := a.next.length ≤ 1048576 ∧ (∀ r ∈ a.next, r.length ≤ 1048576) ∧ a.acc.length ≤ 1048576
theorem fill_step {α : Type} {xs : List α} {d : α} {k : Nat} (hk : k < xs.length) : (xs.take k ++ List.replicate (xs.length - k) d).set k (xs.getD k d) = xs.take (k + 1) ++ List.replicate (xs.length - (k + 1)) d := by
  apply List.ext_getElem?
  intro i
  have e1 : (xs.take k).length = k := by rw [List.length_take]; omega
  have e2 : (xs.take (k + 1)).length = k + 1 := by rw [List.length_take]; omega
  rw [List.getElem?_set]
  by_cases h : k = i
  · subst h
    rw [if_pos rfl, if_pos (by simp; omega), List.getElem?_append_left (by omega), List.getElem?_take, if_pos (by omega), List.getD_eq_getElem?_getD, List.getElem?_eq_getElem hk]
    rfl
  · rw [if_neg h]
    rcases Nat.lt_or_ge i k with h1 | h1
    · rw [List.getElem?_append_left (by omega), List.getElem?_append_left (by omega), List.getElem?_take, List.getElem?_take, if_pos h1, if_pos (by omega)]
    · rw [List.getElem?_append_right (by omega), List.getElem?_append_right (by omega), e1, e2, List.getElem?_replicate, List.getElem?_replicate]
      by_cases h2 : i < xs.length
      · rw [if_pos (by omega), if_pos (by omega)]
      · rw [if_neg (by omega), if_neg (by omega)]
def fillTo {α : Type} (xs : List α) (d : α) (k : Nat) : List α := xs.take k ++ List.replicate (xs.length - k) d
theorem fillTo_zero {α : Type} (xs : List α) (d : α) : fillTo xs d 0 = List.replicate xs.length d := by simp [fillTo]
theorem fillTo_succ {α : Type} {xs : List α} {d : α} {k : Nat} (hk : k < xs.length) : (fillTo xs d k).set k (xs.getD k d) = fillTo xs d (k + 1) := fill_step hk
theorem fillTo_all {α : Type} {xs : List α} {d : α} {k : Nat} (hk : xs.length ≤ k) : fillTo xs d k = xs := by
  unfold fillTo
  rw [List.take_of_length_le hk, Nat.sub_eq_zero_of_le hk]
  simp
theorem fillTo_length {α : Type} (xs : List α) (d : α) {k : Nat} (hk : k ≤ xs.length) : (fillTo xs d k).length = xs.length := by
  unfold fillTo
  simp
  omega
section
variable {w w' : World} {B U : Nat} {e e' : TypeId} {v : Value} {xss : List (List Int)}
theorem OwnRows.made {n : Nat} (h : Own w B e v (List.replicate n (Value.slice Option.none 0 0))) : OwnRows w B U e e' v (List.replicate n []) :=
  ⟨_, h, by simp, fun i r hr => by
    have h1 := List.mem_of_getElem? hr
    obtain rfl := (List.mem_replicate.1 h1).2
    have e1 : (List.replicate n ([] : List Int)).getD i [] = [] := by
      rw [List.getD_eq_getElem?_getD, List.getElem?_replicate]
      split <;> rfl
    rw [e1]
    exact ⟨Own.nil _ _ _, fun k hk => by cases hk⟩, fun i j r r' hr hr' _ k hk => by
    have h1 := List.mem_of_getElem? hr
    obtain rfl := (List.mem_replicate.1 h1).2
    cases hk⟩
theorem OwnRows.put (h : OwnRows w B U e e' v xss) (hne : e ≠ e') : ∃ rs, Own w B e v rs ∧ rs.length = xss.length ∧
    ∀ i r ys w', i < xss.length → Own w U e' r (ys.map (Value.int .i64)) → B ≤ U → Own w' B e v (rs.set i r) → w.grownBy w' v.ownBlock → OwnRows w' B w'.heap.size e e' v (xss.set i ys) := by
  obtain ⟨rs, h1, h2, h3, h4⟩ := h
  refine ⟨rs, h1, h2, fun i r ys w' hi hr hBU hv hg => ?_⟩
  have hr' := hr.owned h1 hg hne
  have hrow : ∀ j q, (rs.set i r)[j]? = some q → (j = i ∧ q = r) ∨ (j ≠ i ∧ rs[j]? = some q) := by
    intro j q hq
    rw [List.getElem?_set] at hq
    split at hq
    · rename_i hij
      rw [if_pos (by omega)] at hq
      exact .inl ⟨hij.symm, (Option.some.inj hq).symm⟩
    · rename_i hij
      exact .inr ⟨fun h => hij h.symm, hq⟩
  refine ⟨rs.set i r, hv, by simp [h2], fun j q hq => ?_, fun j k q q' hq hq' hjk b hb hb' => ?_⟩
  · rcases hrow j q hq with ⟨rfl, rfl⟩ | ⟨hji, hq2⟩
    · have e1 : (xss.set j ys).getD j [] = ys := by simp [hi]
      rw [e1]
      exact ⟨hr'.mono hBU, fun b hb => (hr'.lt b hb).2⟩
    · have e1 : (xss.set i ys).getD j [] = xss.getD j [] := by simp [List.getElem?_set_ne (fun h => hji h.symm)]
      rw [e1]
      have ho := (h3 j q hq2).1.owned h1 hg hne
      exact ⟨ho, fun b hb => (ho.lt b hb).2⟩
  · rcases hrow j q hq with ⟨rfl, rfl⟩ | ⟨hji, hq2⟩ <;> rcases hrow k q' hq' with ⟨rfl, rfl⟩ | ⟨hki, hq2'⟩
    · exact hjk rfl
    · have a1 := ((h3 k q' hq2').2 b hb')
      have a2 := (hr.lt b hb).1
      omega
    · have a1 := ((h3 j q hq2).2 b hb)
      have a2 := (hr.lt b hb').1
      omega
    · exact h4 j k q q' hq2 hq2' hjk b hb hb'
end
section
variable {H : Type} {enc : TypeId × Value → H} {P : Program} {w : World} {base : Nat} {sp : Nat → Bool} {held : Bool}
theorem row_of {x : Addr} {cap : Nat} {vs : List Value} (h : ∀ (i : Nat) (u : Value), vs[i]? = some u → w.cell? (x.add i) = some u) : ∃ e, Row w e (.slice (some x) vs.length cap) vs := by
  cases vs with
  | nil => exact ⟨0, .inl ⟨rfl, some x, cap, rfl, fun h => by cases h⟩⟩
  | cons v0 vs =>
    obtain ⟨b, o, s⟩ := x
    have hc := h 0 v0 rfl
    have hs : s = none := by simpa [Addr.add] using World.cell?_spot hc
    subst hs
    have hb : ∃ cur e fr, w.heap[b]? = some (.cells cur e fr) := by
      rw [addr_add] at hc
      unfold World.cell? at hc
      simp only at hc
      cases hw : w.heap[b]? with
      | none => rw [hw] at hc; simp at hc
      | some ob =>
        rw [hw] at hc
        cases ob <;> simp at hc
        rename_i cur e fr
        exact ⟨cur, e, fr, rfl⟩
    obtain ⟨cur, e, fr, hb⟩ := hb
    refine ⟨e, .inr ⟨b, o, cap, cur, fr, rfl, hb, fun i y hy => ?_⟩⟩
    have h1 := h i y hy
    rw [addr_add] at h1
    simpa [World.cell?, hb] using h1
theorem elems_of {t e : TypeId} {fuel : Nat} {v : Value} {x : DataW H × List MemPlace} (ht : P.underlying t = some (.slice e)) (hc : P.cellsOf e = 1) (h : DataW.trod enc P w base sp held fuel t [v] = some x) :
    ∃ vs : List Value, LenOk vs.length ∧ (∃ e', Row w e' v vs) ∧ ∀ (i : Nat) (u : Value), vs[i]? = some u → ∃ n y, DataW.trod enc P w base sp held n e [u] = some y := by
  rcases DataW.trod_slice ht h with ⟨h0, _⟩ | ⟨a, len, cap, elems, rest, n, _, hcs, _, _, hl, hm, hlen, hel, _, _⟩
  · obtain rfl : v = .slice none 0 0 := by simpa using h0
    exact ⟨[], by unfold LenOk; decide, ⟨0, Row.nil _ _⟩, by simp⟩
  · obtain rfl : v = .slice (some a) len cap := by simpa using hcs
    have each : ∀ i, i < len → ∃ u, w.cell? (a.add i) = some u ∧ ∃ y, DataW.trod enc P w base sp held n e [u] = some y := fun i hi => by
      have h1 := hel i hi
      rw [List.getElem?_eq_getElem (by omega), hc, Nat.mul_one, Option.bind_eq_some_iff] at h1
      obtain ⟨cs', h2, h3⟩ := h1
      have hsz := (World.cells?_some h2).2.1
      match cs', hsz with
      | [u], _ => exact ⟨u, ChangeShapes.cell_of_cells?_one h2, _, h3⟩
    let vs := (List.range len).map fun i => (w.cell? (a.add i)).getD (.bool false)
    have hvs : vs.length = len := by simp [vs]
    have hat : ∀ (i : Nat) (u : Value), vs[i]? = some u → i < len ∧ w.cell? (a.add i) = some u := fun i u hu => by
      have hi : i < len := by have := (List.getElem?_eq_some_iff.1 hu).1; omega
      obtain ⟨u', h1, _⟩ := each i hi
      simp [vs, hi, h1] at hu
      exact ⟨hi, by rw [h1, hu]⟩
    refine ⟨vs, ?_, ?_, fun i u hu => ?_⟩
    · unfold LenOk
      simp only [maxLen] at hm
      omega
    · have := row_of (w := w) (x := a) (cap := cap) (vs := vs) fun i u hu => (hat i u hu).2
      rw [hvs] at this
      exact this
    · obtain ⟨h1, h2⟩ := hat i u hu
      obtain ⟨u', h3, y, h4⟩ := each i h1
      rw [h2] at h3
      obtain rfl := Option.some.inj h3
      exact ⟨n, y, h4⟩
theorem choose_list {α : Type} {p : Value → α → Prop} : ∀ {vs : List Value}, (∀ u ∈ vs, ∃ a, p u a) → ∃ aas : List α, aas.length = vs.length ∧ ∀ (i : Nat) (u : Value), vs[i]? = some u → ∃ a, aas[i]? = some a ∧ p u a
  | [], _ => ⟨[], rfl, by simp⟩
  | v :: vs, h => by
    obtain ⟨a, ha⟩ := h v (by simp)
    obtain ⟨aas, h1, h2⟩ := choose_list (vs := vs) fun u hu => h u (by simp [hu])
    refine ⟨a :: aas, by simp [h1], fun i u hu => ?_⟩
    cases i with
    | zero => obtain rfl : v = u := by simpa using hu
              exact ⟨a, rfl, ha⟩
    | succ i => exact h2 i u (by simpa using hu)
theorem map_of {α : Type} {g : α → Value} {vs : List Value} (h : ∀ u ∈ vs, ∃ a, u = g a) : ∃ aas : List α, vs = aas.map g := by
  obtain ⟨aas, h1, h2⟩ := choose_list h
  refine ⟨aas, ?_⟩
  apply List.ext_getElem?
  intro i
  rcases Nat.lt_or_ge i vs.length with hi | hi
  · obtain ⟨a, ha, hu⟩ := h2 i _ (List.getElem?_eq_getElem hi)
    rw [List.getElem?_eq_getElem hi, List.getElem?_map, ha, hu]
    rfl
  · rw [List.getElem?_eq_none hi, List.getElem?_eq_none (by simp; omega)]
theorem ints_came {t e : TypeId} {fuel : Nat} {v : Value} {x : DataW H × List MemPlace} (ht : P.underlying t = some (.slice e)) (he : P.underlying e = some (.int .i64)) (hc : P.cellsOf e = 1) (h : DataW.trod enc P w base sp held fuel t [v] = some x) : ∃ xs, IntsX w v xs := by
  obtain ⟨vs, hl, ⟨e', hr⟩, hat⟩ := elems_of ht hc h
  obtain ⟨xs, rfl⟩ := map_of (g := Value.int .i64) (vs := vs) fun u hu => by
    obtain ⟨i, hi⟩ := List.getElem?_of_mem hu
    obtain ⟨n, y, hy⟩ := hat i u hi
    obtain ⟨m, hm, _⟩ := DataW.trod_int he hy
    exact ⟨m, by simpa using hm⟩
  exact ⟨xs, by simpa using hl, e', hr⟩
theorem bools_came {t e : TypeId} {fuel : Nat} {v : Value} {x : DataW H × List MemPlace} (ht : P.underlying t = some (.slice e)) (he : P.underlying e = some .bool) (hc : P.cellsOf e = 1) (h : DataW.trod enc P w base sp held fuel t [v] = some x) : ∃ xs, BoolsX w v xs := by
  obtain ⟨vs, hl, ⟨e', hr⟩, hat⟩ := elems_of ht hc h
  obtain ⟨xs, rfl⟩ := map_of (g := Value.bool) (vs := vs) fun u hu => by
    obtain ⟨i, hi⟩ := List.getElem?_of_mem hu
    obtain ⟨n, y, hy⟩ := hat i u hi
    obtain ⟨m, hm, _⟩ := DataW.trod_bool he hy
    exact ⟨m, by simpa using hm⟩
  exact ⟨xs, by simpa using hl, e', hr⟩
theorem rows_came {t s e : TypeId} {fuel : Nat} {v : Value} {x : DataW H × List MemPlace} (ht : P.underlying t = some (.slice s)) (hs : P.underlying s = some (.slice e)) (he : P.underlying e = some (.int .i64)) (hcs : P.cellsOf s = 1) (hc : P.cellsOf e = 1) (h : DataW.trod enc P w base sp held fuel t [v] = some x) : ∃ xss, RowsX w v xss := by
  obtain ⟨vs, hl, ⟨e', hr⟩, hat⟩ := elems_of ht hcs h
  obtain ⟨xss, h1, h2⟩ := choose_list (p := fun u xs => IntsX w u xs) (vs := vs) fun u hu => by
    obtain ⟨i, hi⟩ := List.getElem?_of_mem hu
    obtain ⟨n, y, hy⟩ := hat i u hi
    exact ints_came hs he hc hy
  refine ⟨xss, by rw [h1]; exact hl, e', vs, hr, h1.symm, fun i r hi => ?_⟩
  obtain ⟨a, ha, hp⟩ := h2 i r hi
  rw [List.getD_eq_getElem?_getD, ha]
  exact hp
end
end Go.Proofs.Ytdkdpmmfebdeaaa
set_option linter.unusedSimpArgs false
set_option linter.unusedVariables false
namespace Go.Proofs.Ytdkdpmmfebdeaaa
open Go.RowKit
structure Wrote (w w' : World) (B U : Nat) : Prop where
  os : w'.os = w.os
  tape : w'.tape = w.tape
  output : w'.output = w.output
  size : w.heap.size ≤ w'.heap.size
  block : ∀ k, k < w.heap.size → ¬ (B ≤ k ∧ k < U) → w'.heap[k]? = w.heap[k]?
section
variable {w w' w'' w0 : World} {B U B' U' b : Nat} {e e' t : TypeId} {v : Value} {vs cs : List Value} {xss : List (List Int)}
theorem Wrote.refl (w : World) (B U : Nat) : Wrote w w B U := ⟨rfl, rfl, rfl, Nat.le_refl _, fun _ _ _ => rfl⟩
theorem Wrote.trans (h : Wrote w w' B U) (k : Wrote w' w'' B U) : Wrote w w'' B U :=
  ⟨k.os.trans h.os, k.tape.trans h.tape, k.output.trans h.output, Nat.le_trans h.size k.size, fun i hi hn => (k.block i (Nat.lt_of_lt_of_le hi h.size) hn).trans (h.block i hi hn)⟩
theorem Wrote.of {r : Option Nat} (h : w.grownBy w' r) (hr : ∀ k, r = some k → B ≤ k ∧ k < U) : Wrote w w' B U :=
  ⟨h.os, h.tape, h.output, h.size, fun k hk hn => h.block k hk fun hc => hn (hr k hc.symm)⟩
theorem Wrote.ofExt (h : Ext w w') (B U : Nat) : Wrote w w' B U := ⟨h.os, h.tape, h.output, h.size, fun k hk _ => h.block k hk⟩
theorem Ext.wrote (h : Ext w0 w) (k : Wrote w w' B U) (hB : w0.heap.size ≤ B) : Ext w0 w' :=
  ⟨k.os.trans h.os, k.tape.trans h.tape, k.output.trans h.output, Nat.le_trans h.size k.size, fun i hi => (k.block i (Nat.lt_of_lt_of_le hi h.size) (by omega)).trans (h.block i hi)⟩
theorem Blk.wrote (h : Blk w b t cs) (k : Wrote w w' B U) (hb : ¬ (B ≤ b ∧ b < U)) : Blk w' b t cs := by
  simp only [Blk] at *
  rw [k.block b (lt_of_block h) hb]; exact h
theorem Own.wrote (h : Own w B' e v vs) (k : Wrote w w' B U) (hU : U ≤ B') : Own w' B' e v vs := by
  rcases h.cases with ⟨rfl, rfl⟩ | ⟨g, cap, cs, rfl, hg', hb, h3, h4, h5, h6⟩
  · exact Own.nil _ _ _
  · exact Own.mk hg' (hb.wrote k (by omega)) h3 h4 h5 h6
theorem OwnRows.wrote (h : OwnRows w B' U' e e' v xss) (k : Wrote w w' B U) (hU : U ≤ B') : OwnRows w' B' U' e e' v xss := by
  obtain ⟨rs, h1, h2, h3, h4⟩ := h
  exact ⟨rs, h1.wrote k hU, h2, fun i r hr => ⟨(h3 i r hr).1.wrote k hU, (h3 i r hr).2⟩, h4⟩
theorem OwnRows.rowLt (h : OwnRows w B U e e' v xss) {i : Int} {p : Addr} {r : Value} (ha : At w e v i p r) : ∀ k, r.ownBlock = some k → B ≤ k ∧ k < U := by
  have h0 := (h.rowAt ha).1
  obtain ⟨rs, h1, h2, h3, h4⟩ := h
  intro k hk
  refine ⟨(h0.lt k hk).1, ?_⟩
  obtain ⟨hc, ⟨b, o, c, n, rfl, rfl, h0, hn⟩, hty⟩ := ha
  rcases h1.cases with ⟨hv, _⟩ | ⟨g, cap, cs, hv, hB, hb, h5, h6, h7, h8⟩
  · simp at hv
  · simp only [Value.slice.injEq, Option.some.injEq, Addr.mk.injEq] at hv
    obtain ⟨⟨rfl, rfl, _⟩, rfl, rfl⟩ := hv
    rw [hb.cell] at hc
    have hlt : i.toNat < rs.length := by omega
    have : rs[i.toNat]? = some r := by
      rw [← h8, List.getElem?_take, if_pos hlt]
      simpa using hc
    exact (h3 _ _ this).2 k hk
end
def KeepT (w w' : World) (e : TypeId) : Prop := ∀ b t cs, Blk w b t cs → t ≠ e → Blk w' b t cs
theorem KeepT.refl (w : World) (e : TypeId) : KeepT w w e := fun _ _ _ h _ => h
theorem KeepT.next {w w' w'' : World} {e : TypeId} {B : Nat} {u : Value} {us : List Value} (h : KeepT w w' e) (ho : Own w' B e u us) (hg : w'.grownBy w'' u.ownBlock) : KeepT w w'' e := fun b t cs hb hne => (h b t cs hb hne).owned ho hg (fun hc => hne hc.symm)
theorem Own.kept {w w' : World} {e t : TypeId} {B : Nat} {v : Value} {vs : List Value} (h : Own w B t v vs) (k : KeepT w w' e) (hne : t ≠ e) : Own w' B t v vs := by
  rcases h.cases with ⟨rfl, rfl⟩ | ⟨g, cap, cs, rfl, hg', hb, h3, h4, h5, h6⟩
  · exact Own.nil _ _ _
  · exact Own.mk hg' (k _ _ _ hb hne) h3 h4 h5 h6
def upI (k : Int) (n : Nat) : List Int := (List.range n).map fun (i : Nat) => k + i
def upTo (k : Int) (xs : List Int) (m : Nat) : List Int := (List.range xs.length).map fun (i : Nat) => if i < m then k + i else xs.getD i 0
theorem upTo_zero (k : Int) (xs : List Int) : upTo k xs 0 = xs := by
  unfold upTo
  apply List.ext_getElem?
  intro i
  rw [List.getElem?_map]
  rcases Nat.lt_or_ge i xs.length with h | h
  · rw [List.getElem?_range h, List.getElem?_eq_getElem h]
    simp [h]
  · rw [List.getElem?_eq_none (by simpa using h), List.getElem?_eq_none h]; rfl
theorem upTo_length (k : Int) (xs : List Int) (m : Nat) : (upTo k xs m).length = xs.length := by simp [upTo]
theorem upTo_step {k : Int} {xs : List Int} {m : Nat} (h : m < xs.length) : (upTo k xs m).set m (k + m) = upTo k xs (m + 1) := by
  apply List.ext_getElem?
  intro i
  unfold upTo
  rw [List.getElem?_set]
  rcases Nat.lt_or_ge i xs.length with hi | hi
  · by_cases e : m = i
    · subst e
      rw [if_pos rfl, if_pos (by simpa using h), List.getElem?_map, List.getElem?_range hi]
      simp
    · rw [if_neg e, List.getElem?_map, List.getElem?_map, List.getElem?_range hi]
      simp only [Option.map_some]
      by_cases h1 : i < m
      · rw [if_pos h1, if_pos (by omega)]
      · rw [if_neg h1, if_neg (by omega)]
  · rw [if_neg (by omega), List.getElem?_eq_none (by simpa using hi), List.getElem?_eq_none (by simpa using hi)]
theorem upTo_all {k : Int} {xs : List Int} {m : Nat} (h : xs.length ≤ m) : upTo k xs m = upI k xs.length := by
  unfold upTo upI
  refine List.map_congr_left fun i hi => ?_
  rw [if_pos (by have := List.mem_range.1 hi; omega)]
theorem upI_at {k : Int} {n i : Nat} (h : i < n) : (upI k n).getD i 0 = k + i := by
  unfold upI
  rw [List.getD_eq_getElem?_getD, List.getElem?_map, List.getElem?_range h]; rfl
theorem upI_length (k : Int) (n : Nat) : (upI k n).length = n := by simp [upI]
def upB (k : Int) (n : Nat) : List Bool := (List.range n).map fun (i : Nat) => decide ((k + i) % 3 = 0)
def upBTo (k : Int) (xs : List Bool) (m : Nat) : List Bool := (List.range xs.length).map fun (i : Nat) => if i < m then decide ((k + i) % 3 = 0) else xs.getD i false
theorem upBTo_zero (k : Int) (xs : List Bool) : upBTo k xs 0 = xs := by
  unfold upBTo
  apply List.ext_getElem?
  intro i
  rw [List.getElem?_map]
  rcases Nat.lt_or_ge i xs.length with h | h
  · rw [List.getElem?_range h, List.getElem?_eq_getElem h]
    simp [h]
  · rw [List.getElem?_eq_none (by simpa using h), List.getElem?_eq_none h]; rfl
theorem upBTo_length (k : Int) (xs : List Bool) (m : Nat) : (upBTo k xs m).length = xs.length := by simp [upBTo]
theorem upBTo_step {k : Int} {xs : List Bool} {m : Nat} (h : m < xs.length) : (upBTo k xs m).set m (decide ((k + m) % 3 = 0)) = upBTo k xs (m + 1) := by
  apply List.ext_getElem?
  intro i
  unfold upBTo
  rw [List.getElem?_set]
  rcases Nat.lt_or_ge i xs.length with hi | hi
  · by_cases e : m = i
    · subst e
      rw [if_pos rfl, if_pos (by simpa using h), List.getElem?_map, List.getElem?_range hi]
      simp
    · rw [if_neg e, List.getElem?_map, List.getElem?_map, List.getElem?_range hi]
      simp only [Option.map_some]
      by_cases h1 : i < m
      · rw [if_pos h1, if_pos (by omega)]
      · rw [if_neg h1, if_neg (by omega)]
  · rw [if_neg (by omega), List.getElem?_eq_none (by simpa using hi), List.getElem?_eq_none (by simpa using hi)]
theorem upBTo_all {k : Int} {xs : List Bool} {m : Nat} (h : xs.length ≤ m) : upBTo k xs m = upB k xs.length := by
  unfold upBTo upB
  refine List.map_congr_left fun i hi => ?_
  rw [if_pos (by have := List.mem_range.1 hi; omega)]
theorem upB_at {k : Int} {n i : Nat} (h : i < n) : (upB k n).getD i false = decide ((k + i) % 3 = 0) := by
  unfold upB
  rw [List.getD_eq_getElem?_getD, List.getElem?_map, List.getElem?_range h]; rfl
theorem upB_length (k : Int) (n : Nat) : (upB k n).length = n := by simp [upB]
def offR (xss : List (List Int)) : Nat → Int
  | 0 => 0
  | i + 1 => offR xss i + ((xss.getD i []).length : Int)
theorem offR_nonneg (xss : List (List Int)) : ∀ i, 0 ≤ offR xss i
  | 0 => Int.le_refl _
  | i + 1 => by have := offR_nonneg xss i; rw [offR]; omega
theorem offR_le {xss : List (List Int)} (h : ∀ r ∈ xss, r.length ≤ 1048576) : ∀ i, offR xss i ≤ (i : Int) * 1048576
  | 0 => by simp [offR]
  | i + 1 => by
    have h1 := offR_le h i
    have h2 : (xss.getD i []).length ≤ 1048576 := by
      rcases Nat.lt_or_ge i xss.length with hi | hi
      · exact h _ (getD_mem hi)
      · rw [List.getD_eq_getElem?_getD, List.getElem?_eq_none hi]; exact Nat.zero_le _
    rw [offR]
    have : ((i + 1 : Nat) : Int) * 1048576 = (i : Int) * 1048576 + 1048576 := by rw [Int.natCast_add, Int.add_mul]; omega
    omega
def rowsTo (xss : List (List Int)) (k : Int) (m : Nat) : List (List Int) := (List.range xss.length).map fun (i : Nat) => if i < m then upI (k + offR xss i) (xss.getD i []).length else xss.getD i []
def markR (xss : List (List Int)) (k : Int) : List (List Int) := (List.range xss.length).map fun (i : Nat) => upI (k + offR xss i) (xss.getD i []).length
theorem rowsTo_zero (xss : List (List Int)) (k : Int) : rowsTo xss k 0 = xss := by
  unfold rowsTo
  apply List.ext_getElem?
  intro i
  rw [List.getElem?_map]
  rcases Nat.lt_or_ge i xss.length with h | h
  · rw [List.getElem?_range h, List.getElem?_eq_getElem h]
    simp [h]
  · rw [List.getElem?_eq_none (by simpa using h), List.getElem?_eq_none h]; rfl
theorem rowsTo_length (xss : List (List Int)) (k : Int) (m : Nat) : (rowsTo xss k m).length = xss.length := by simp [rowsTo]
theorem markR_length (xss : List (List Int)) (k : Int) : (markR xss k).length = xss.length := by simp [markR]
theorem rowsTo_at {xss : List (List Int)} {k : Int} {m : Nat} (h : m < xss.length) : (rowsTo xss k m).getD m [] = xss.getD m [] := by
  unfold rowsTo
  rw [List.getD_eq_getElem?_getD, List.getElem?_map, List.getElem?_range h]
  simp
theorem markR_at {xss : List (List Int)} {k : Int} {m : Nat} (h : m < xss.length) : (markR xss k).getD m [] = upI (k + offR xss m) (xss.getD m []).length := by
  unfold markR
  rw [List.getD_eq_getElem?_getD, List.getElem?_map, List.getElem?_range h]; rfl
theorem rowsTo_step {xss : List (List Int)} {k : Int} {m : Nat} (h : m < xss.length) : (rowsTo xss k m).set m (upI (k + offR xss m) (xss.getD m []).length) = rowsTo xss k (m + 1) := by
  apply List.ext_getElem?
  intro i
  unfold rowsTo
  rw [List.getElem?_set]
  rcases Nat.lt_or_ge i xss.length with hi | hi
  · by_cases e : m = i
    · subst e
      rw [if_pos rfl, if_pos (by simpa using h), List.getElem?_map, List.getElem?_range hi]
      simp
    · rw [if_neg e, List.getElem?_map, List.getElem?_map, List.getElem?_range hi]
      simp only [Option.map_some]
      by_cases h1 : i < m
      · rw [if_pos h1, if_pos (by omega)]
      · rw [if_neg h1, if_neg (by omega)]
  · rw [if_neg (by omega), List.getElem?_eq_none (by simpa using hi), List.getElem?_eq_none (by simpa using hi)]
theorem rowsTo_all {xss : List (List Int)} {k : Int} {m : Nat} (h : xss.length ≤ m) : rowsTo xss k m = markR xss k := by
  unfold rowsTo markR
  refine List.map_congr_left fun i hi => ?_
  rw [if_pos (by have := List.mem_range.1 hi; omega)]
def sumR (xss : List (List Int)) : Int := offR xss xss.length
def cntA (a : A) : Int := sumR a.next + (a.acc.length : Int)
theorem cntA_nonneg (a : A) : 0 ≤ cntA a := by have := offR_nonneg a.next a.next.length; unfold cntA sumR; omega
theorem cntA_le {a : A} (h : SmX a) : 0 ≤ sumR a.next ∧ sumR a.next ≤ 1099511627776 ∧ cntA a ≤ 1099512676352 := by
  have h1 := offR_le h.2.1 a.next.length
  have h0 := offR_nonneg a.next a.next.length
  have h2 : (a.next.length : Int) * 1048576 ≤ 1048576 * 1048576 := Int.mul_le_mul_of_nonneg_right (by have := h.1; omega) (by decide)
  have h3 := h.2.2
  unfold cntA sumR
  omega
theorem smx_valid {a : A} (h : validA a = true) : SmX a := by
  have hs := validA_spec.1 h
  refine ⟨by omega, fun r hr => ?_, by omega⟩
  have := (hs.2.2.2 r hr).1
  have := letters_len6 a.al
  omega
theorem smx_zero : SmX zeroA := ⟨by decide, by simp [zeroA], by decide⟩
end Go.Proofs.Ytdkdpmmfebdeaaa
set_option linter.unusedSimpArgs false
set_option linter.unusedVariables false
namespace Go.Proofs.Ytdkdpmmfebdeaaa
set_option maxRecDepth 100000
theorem mixed : Try.prog.follows .mixedOrders = true := Try.checked.mixed
theorem fn13 : Fn Try.prog 13 Try.f13 := ⟨Try.func13, rfl, by kernel_rfl⟩
theorem fn14 : Fn Try.prog 14 Try.f14 := ⟨Try.func14, rfl, by kernel_rfl⟩
theorem fn15 : Fn Try.prog 15 Try.f15 := ⟨Try.func15, rfl, by kernel_rfl⟩
theorem fn16 : Fn Try.prog 16 Try.f16 := ⟨Try.func16, rfl, by kernel_rfl⟩
theorem fn17 : Fn Try.prog 17 Try.f17 := ⟨Try.func17, rfl, by kernel_rfl⟩
theorem fn18 : Fn Try.prog 18 Try.f18 := ⟨Try.func18, rfl, by kernel_rfl⟩
theorem fn19 : Fn Try.prog 19 Try.f19 := ⟨Try.func19, rfl, by kernel_rfl⟩
theorem fn20 : Fn Try.prog 20 Try.f20 := ⟨Try.func20, rfl, by kernel_rfl⟩
theorem fn21 : Fn Try.prog 21 Try.f21 := ⟨Try.func21, rfl, by kernel_rfl⟩
theorem fn30 : Fn Try.prog 30 Try.f30 := ⟨Try.func30, rfl, by kernel_rfl⟩
theorem fn32 : Fn Try.prog 32 Try.f32 := ⟨Try.func32, rfl, by kernel_rfl⟩
theorem fn36 : Fn Try.prog 36 Try.f36 := ⟨Try.func36, rfl, by kernel_rfl⟩
theorem fn37 : Fn Try.prog 37 Try.f37 := ⟨Try.func37, rfl, by kernel_rfl⟩
theorem fn38 : Fn Try.prog 38 Try.f38 := ⟨Try.func38, rfl, by kernel_rfl⟩
theorem fn39 : Fn Try.prog 39 Try.f39 := ⟨Try.func39, rfl, by kernel_rfl⟩
theorem fn40 : Fn Try.prog 40 Try.f40 := ⟨Try.func40, rfl, by kernel_rfl⟩
theorem fn41 : Fn Try.prog 41 Try.f41 := ⟨Try.func41, rfl, by kernel_rfl⟩
theorem fn42 : Fn Try.prog 42 Try.f42 := ⟨Try.func42, rfl, by kernel_rfl⟩
theorem fn43 : Fn Try.prog 43 Try.f43 := ⟨Try.func43, rfl, by kernel_rfl⟩
theorem fn44 : Fn Try.prog 44 Try.f44 := ⟨Try.func44, rfl, by kernel_rfl⟩
theorem fn45 : Fn Try.prog 45 Try.f45 := ⟨Try.func45, rfl, by kernel_rfl⟩
theorem fn46 : Fn Try.prog 46 Try.f46 := ⟨Try.func46, rfl, by kernel_rfl⟩
theorem fn47 : Fn Try.prog 47 Try.f47 := ⟨Try.func47, rfl, by kernel_rfl⟩
theorem fn48 : Fn Try.prog 48 Try.f48 := ⟨Try.func48, rfl, by kernel_rfl⟩
theorem fn49 : Fn Try.prog 49 Try.f49 := ⟨Try.func49, rfl, by kernel_rfl⟩
theorem fn50 : Fn Try.prog 50 Try.f50 := ⟨Try.func50, rfl, by kernel_rfl⟩
theorem fn51 : Fn Try.prog 51 Try.f51 := ⟨Try.func51, rfl, by kernel_rfl⟩
theorem fn52 : Fn Try.prog 52 Try.f52 := ⟨Try.func52, rfl, by kernel_rfl⟩
theorem fn53 : Fn Try.prog 53 Try.f53 := ⟨Try.func53, rfl, by kernel_rfl⟩
theorem fn54 : Fn Try.prog 54 Try.f54 := ⟨Try.func54, rfl, by kernel_rfl⟩
theorem fn55 : Fn Try.prog 55 Try.f55 := ⟨Try.func55, rfl, by kernel_rfl⟩
theorem fn56 : Fn Try.prog 56 Try.f56 := ⟨Try.func56, rfl, by kernel_rfl⟩
theorem fn57 : Fn Try.prog 57 Try.f57 := ⟨Try.func57, rfl, by kernel_rfl⟩
theorem fn58 : Fn Try.prog 58 Try.f58 := ⟨Try.func58, rfl, by kernel_rfl⟩
theorem fn59 : Fn Try.prog 59 Try.f59 := ⟨Try.func59, rfl, by kernel_rfl⟩
theorem fn60 : Fn Try.prog 60 Try.f60 := ⟨Try.func60, rfl, by kernel_rfl⟩
theorem fn67 : Fn Try.prog 67 Try.f67 := ⟨Try.func67, rfl, by kernel_rfl⟩
theorem fn71 : Fn Try.prog 71 Try.f71 := ⟨Try.func71, rfl, by kernel_rfl⟩
theorem fn72 : Fn Try.prog 72 Try.f72 := ⟨Try.func72, rfl, by kernel_rfl⟩
theorem fn73 : Fn Try.prog 73 Try.f73 := ⟨Try.func73, rfl, by kernel_rfl⟩
theorem fn74 : Fn Try.prog 74 Try.f74 := ⟨Try.func74, rfl, by kernel_rfl⟩
theorem fn75 : Fn Try.prog 75 Try.f75 := ⟨Try.func75, rfl, by kernel_rfl⟩
theorem fn76 : Fn Try.prog 76 Try.f76 := ⟨Try.func76, rfl, by kernel_rfl⟩
theorem fn77 : Fn Try.prog 77 Try.f77 := ⟨Try.func77, rfl, by kernel_rfl⟩
theorem fn78 : Fn Try.prog 78 Try.f78 := ⟨Try.func78, rfl, by kernel_rfl⟩
theorem fn79 : Fn Try.prog 79 Try.f79 := ⟨Try.func79, rfl, by kernel_rfl⟩
theorem fn80 : Fn Try.prog 80 Try.f80 := ⟨Try.func80, rfl, by kernel_rfl⟩
theorem fn81 : Fn Try.prog 81 Try.f81 := ⟨Try.func81, rfl, by kernel_rfl⟩
theorem fn82 : Fn Try.prog 82 Try.f82 := ⟨Try.func82, rfl, by kernel_rfl⟩
theorem fn83 : Fn Try.prog 83 Try.f83 := ⟨Try.func83, rfl, by kernel_rfl⟩
theorem fn84 : Fn Try.prog 84 Try.f84 := ⟨Try.func84, rfl, by kernel_rfl⟩
theorem fn85 : Fn Try.prog 85 Try.f85 := ⟨Try.func85, rfl, by kernel_rfl⟩
theorem fn86 : Fn Try.prog 86 Try.f86 := ⟨Try.func86, rfl, by kernel_rfl⟩
theorem fn87 : Fn Try.prog 87 Try.f87 := ⟨Try.func87, rfl, by kernel_rfl⟩
theorem fn88 : Fn Try.prog 88 Try.f88 := ⟨Try.func88, rfl, by kernel_rfl⟩
theorem fn89 : Fn Try.prog 89 Try.f89 := ⟨Try.func89, rfl, by kernel_rfl⟩
theorem fn90 : Fn Try.prog 90 Try.f90 := ⟨Try.func90, rfl, by kernel_rfl⟩
theorem fn91 : Fn Try.prog 91 Try.f91 := ⟨Try.func91, rfl, by kernel_rfl⟩
theorem fn92 : Fn Try.prog 92 Try.f92 := ⟨Try.func92, rfl, by kernel_rfl⟩
theorem fn93 : Fn Try.prog 93 Try.f93 := ⟨Try.func93, rfl, by kernel_rfl⟩
theorem fn94 : Fn Try.prog 94 Try.f94 := ⟨Try.func94, rfl, by kernel_rfl⟩
theorem fn95 : Fn Try.prog 95 Try.f95 := ⟨Try.func95, rfl, by kernel_rfl⟩
theorem fn99 : Fn Try.prog 99 Try.f99 := ⟨Try.func99, rfl, by kernel_rfl⟩
theorem fn100 : Fn Try.prog 100 Try.f100 := ⟨Try.func100, rfl, by kernel_rfl⟩
theorem fn101 : Fn Try.prog 101 Try.f101 := ⟨Try.func101, rfl, by kernel_rfl⟩
theorem fn102 : Fn Try.prog 102 Try.f102 := ⟨Try.func102, rfl, by kernel_rfl⟩
theorem fn103 : Fn Try.prog 103 Try.f103 := ⟨Try.func103, rfl, by kernel_rfl⟩
theorem fn104 : Fn Try.prog 104 Try.f104 := ⟨Try.func104, rfl, by kernel_rfl⟩
theorem fn105 : Fn Try.prog 105 Try.f105 := ⟨Try.func105, rfl, by kernel_rfl⟩
theorem fn106 : Fn Try.prog 106 Try.f106 := ⟨Try.func106, rfl, by kernel_rfl⟩
theorem fn107 : Fn Try.prog 107 Try.f107 := ⟨Try.func107, rfl, by kernel_rfl⟩
theorem fn108 : Fn Try.prog 108 Try.f108 := ⟨Try.func108, rfl, by kernel_rfl⟩
theorem fn109 : Fn Try.prog 109 Try.f109 := ⟨Try.func109, rfl, by kernel_rfl⟩
theorem fn110 : Fn Try.prog 110 Try.f110 := ⟨Try.func110, rfl, by kernel_rfl⟩
theorem one3 : One Try.prog 3 := ⟨fun _ => by kernel_rfl, fun _ => by kernel_rfl⟩
theorem zero3 : ∀ w, (zeroValue 3).run Try.prog w = .ok (.int .i64 0) w := fun _ => by kernel_rfl
theorem one4 : One Try.prog 4 := ⟨fun _ => by kernel_rfl, fun _ => by kernel_rfl⟩
theorem one5 : One Try.prog 5 := ⟨fun _ => by kernel_rfl, fun _ => by kernel_rfl⟩
theorem one22 : One Try.prog 22 := ⟨fun _ => by kernel_rfl, fun _ => by kernel_rfl⟩
theorem one23 : One Try.prog 23 := ⟨fun _ => by kernel_rfl, fun _ => by kernel_rfl⟩
theorem zero23 : ∀ w, (zeroValue 23).run Try.prog w = .ok (.slice none 0 0) w := fun _ => by kernel_rfl
theorem one52 : One Try.prog 52 := ⟨fun _ => by kernel_rfl, fun _ => by kernel_rfl⟩
theorem one60 : One Try.prog 60 := ⟨fun _ => by kernel_rfl, fun _ => by kernel_rfl⟩
theorem zero60 : ∀ w, (zeroValue 60).run Try.prog w = .ok (.slice none 0 0) w := fun _ => by kernel_rfl
theorem one67 : One Try.prog 67 := ⟨fun _ => by kernel_rfl, fun _ => by kernel_rfl⟩
theorem one68 : One Try.prog 68 := ⟨fun _ => by kernel_rfl, fun _ => by kernel_rfl⟩
theorem one72 : One Try.prog 72 := ⟨fun _ => by kernel_rfl, fun _ => by kernel_rfl⟩
theorem one104 : One Try.prog 104 := ⟨fun _ => by kernel_rfl, fun _ => by kernel_rfl⟩
theorem zero104 : ∀ w, (zeroValue 104).run Try.prog w = .ok (.slice none 0 0) w := fun _ => by kernel_rfl
theorem und4 : Try.prog.underlying 4 = some .bool := by kernel_rfl
theorem und9 : Try.prog.underlying 9 = some .string := by kernel_rfl
theorem sl22 : SlT Try.prog 22 52 (.slice none 0 0) := ⟨by kernel_rfl, ⟨_, rfl, by kernel_rfl, by kernel_rfl, by decide⟩, rfl⟩
theorem und22 : Try.prog.underlying 22 = some (.slice (Try.prog.elem 22)) := by kernel_rfl
theorem sl23 : SlT Try.prog 23 4 (.bool false) := ⟨by kernel_rfl, ⟨_, rfl, by kernel_rfl, by kernel_rfl, by decide⟩, rfl⟩
theorem und23 : Try.prog.underlying 23 = some (.slice (Try.prog.elem 23)) := by kernel_rfl
theorem sl52 : SlT Try.prog 52 3 (.int .i64 0) := ⟨by kernel_rfl, ⟨_, rfl, by kernel_rfl, by kernel_rfl, by decide⟩, rfl⟩
theorem und52 : Try.prog.underlying 52 = some (.slice (Try.prog.elem 52)) := by kernel_rfl
theorem und56 : Try.prog.underlying 56 = some (.slice (Try.prog.elem 56)) := by kernel_rfl
theorem und60 : Try.prog.underlying 60 = some (.slice (Try.prog.elem 60)) := by kernel_rfl
theorem und67 : Try.prog.underlying 67 = some (.slice (Try.prog.elem 67)) := by kernel_rfl
theorem und68 : Try.prog.underlying 68 = some (.slice (Try.prog.elem 68)) := by kernel_rfl
theorem sl85 : SlT Try.prog 85 22 (.slice none 0 0) := ⟨by kernel_rfl, ⟨_, rfl, by kernel_rfl, by kernel_rfl, by decide⟩, rfl⟩
theorem sl103 : SlT Try.prog 103 5 (.int .u8 0) := ⟨by kernel_rfl, ⟨_, rfl, by kernel_rfl, by kernel_rfl, by decide⟩, rfl⟩
theorem und103 : Try.prog.underlying 103 = some (.slice (Try.prog.elem 103)) := by kernel_rfl
theorem und8_103 : Try.prog.underlying (Try.prog.elem 103) = some (.int .u8) := by kernel_rfl
theorem und104 : Try.prog.underlying 104 = some (.slice (Try.prog.elem 104)) := by kernel_rfl
theorem agg25 : Agg Try.prog 25 3 := ⟨fun _ => by kernel_rfl, fun _ => by kernel_rfl⟩
theorem fld25_0 : Fld Try.prog 25 0 0 := fun _ _ _ => by kernel_rfl
theorem fld25_1 : Fld Try.prog 25 1 1 := fun _ _ _ => by kernel_rfl
theorem fld25_2 : Fld Try.prog 25 2 2 := fun _ _ _ => by kernel_rfl
theorem agg27 : Agg Try.prog 27 3 := ⟨fun _ => by kernel_rfl, fun _ => by kernel_rfl⟩
theorem zero27 : ∀ w, (zeroValue 27).run Try.prog w = .ok (.agg [.int .i64 0, .slice none 0 0, .slice none 0 0].toArray) w := fun _ => by kernel_rfl
theorem st27 : StT Try.prog 27 3 [.int .i64 0, .slice none 0 0, .slice none 0 0] := StT.of (by kernel_rfl) (fun _ => by kernel_rfl) zero27
theorem fld27_0 : Fld Try.prog 27 0 0 := fun _ _ _ => by kernel_rfl
theorem fld27_1 : Fld Try.prog 27 1 1 := fun _ _ _ => by kernel_rfl
theorem fld27_2 : Fld Try.prog 27 2 2 := fun _ _ _ => by kernel_rfl
theorem agg55 : Agg Try.prog 55 2 := ⟨fun _ => by kernel_rfl, fun _ => by kernel_rfl⟩
theorem zero55 : ∀ w, (zeroValue 55).run Try.prog w = .ok (.agg [.int .i64 0, .int .i64 0].toArray) w := fun _ => by kernel_rfl
theorem st55 : StT Try.prog 55 2 [.int .i64 0, .int .i64 0] := StT.of (by kernel_rfl) (fun _ => by kernel_rfl) zero55
theorem fld55_0 : Fld Try.prog 55 0 0 := fun _ _ _ => by kernel_rfl
theorem fld55_1 : Fld Try.prog 55 1 1 := fun _ _ _ => by kernel_rfl
theorem agg70 : Agg Try.prog 70 6 := ⟨fun _ => by kernel_rfl, fun _ => by kernel_rfl⟩
theorem zero70 : ∀ w, (zeroValue 70).run Try.prog w = .ok (.agg [.slice none 0 0, .slice none 0 0, .slice none 0 0, .int .i64 0, .int .i64 0, .int .i64 0].toArray) w := fun _ => by kernel_rfl
theorem st70 : StT Try.prog 70 6 [.slice none 0 0, .slice none 0 0, .slice none 0 0, .int .i64 0, .int .i64 0, .int .i64 0] := StT.of (by kernel_rfl) (fun _ => by kernel_rfl) zero70
theorem fld70_0 : Fld Try.prog 70 0 0 := fun _ _ _ => by kernel_rfl
theorem fld70_1 : Fld Try.prog 70 1 1 := fun _ _ _ => by kernel_rfl
theorem fld70_2 : Fld Try.prog 70 2 2 := fun _ _ _ => by kernel_rfl
theorem fld70_3 : Fld Try.prog 70 3 3 := fun _ _ _ => by kernel_rfl
theorem fld70_4 : Fld Try.prog 70 4 4 := fun _ _ _ => by kernel_rfl
theorem fld70_5 : Fld Try.prog 70 5 5 := fun _ _ _ => by kernel_rfl
theorem zero106 : ∀ w, (zeroValue 106).run Try.prog w = .ok (.agg [.int .i64 0, .int .i64 0, .slice none 0 0].toArray) w := fun _ => by kernel_rfl
theorem st106 : StT Try.prog 106 3 [.int .i64 0, .int .i64 0, .slice none 0 0] := StT.of (by kernel_rfl) (fun _ => by kernel_rfl) zero106
theorem fld106_0 : Fld Try.prog 106 0 0 := fun _ _ _ => by kernel_rfl
theorem fld106_1 : Fld Try.prog 106 1 1 := fun _ _ _ => by kernel_rfl
theorem fld106_2 : Fld Try.prog 106 2 2 := fun _ _ _ => by kernel_rfl
theorem conv3_5 : Cnv Try.prog 3 5 .u8 := Cnv.of (by kernel_rfl) (by kernel_rfl)
theorem conv3_96 : Cnv Try.prog 3 96 .u64 := Cnv.of (by kernel_rfl) (by kernel_rfl)
theorem mk60 : (∃ i, Try.prog.info? 64 = some i ∧ i.zero = some (.agg #[.int .i64 0, .int .i64 0, .int .i64 0, .int .i64 0, .int .i64 0, .int .i64 0]) ∧ i.size = 6 ∧ i.bytes ≤ 512) ∧ ((.agg #[.int .i64 0, .int .i64 0, .int .i64 0, .int .i64 0, .int .i64 0, .int .i64 0]) : Value).cells.toList = List.replicate 6 (.int .i64 0) := ⟨⟨_, rfl, by kernel_rfl, by kernel_rfl, by decide⟩, by kernel_rfl⟩
theorem slk60 : SlK Try.prog 60 64 6 := ⟨by kernel_rfl, fun _ => by kernel_rfl⟩
theorem ar64 : ArT Try.prog 64 3 6 := ⟨by kernel_rfl, fun _ => by kernel_rfl⟩
def OwnA (w : World) (B : Nat) (v : Value) (a : A) : Prop := ∃ nx ac, v = .agg #[.int .i64 a.al, nx, ac] ∧ OwnRows w B w.heap.size 52 3 nx a.next ∧ Own w B 4 ac (a.acc.map Value.bool)
end Go.Proofs.Ytdkdpmmfebdeaaa
set_option linter.unusedSimpArgs false
set_option linter.unusedVariables false
namespace Go.Proofs.Ytdkdpmmfebdeaaa
open Go.RowKit
set_option maxRecDepth 100000 in
theorem has_c (s n : Int) (h : 0 ≤ s ∧ s ≤ 9223372036854775807) (w0 : World) : Ret Try.prog 86 #[Value.int .i64 s, Value.int .i64 n] w0 (fun v w => v = .bool (hs s n) ∧ w0 = w) := by
  refine Ret.of (args := [Value.int .i64 s, Value.int .i64 n]) Try.func86 rfl rfl rfl ?_
  rintro _ rfl
  show Cq _ _ _ _ [(0, Value.int .i64 s), (1, Value.int .i64 n)] _
  refine Cq.seq ?_
  refine Cq.region ?_
  refine Sq.assign .plain rfl rfl ?_
  refine Sq.nil ?_
  refine Eq.next ?_
  refine Cq.seq ?_
  refine Cq.region ?_
  refine Sq.move .plain rfl rfl ?_
  refine Sq.geq .plain rfl rfl rfl ?_
  refine Sq.part (fun h0 => ?_) (fun h0 => ?_)
  · refine Sq.move .plain rfl rfl ?_
    refine Sq.move (.met rfl rfl rfl) rfl rfl ?_
    refine Sq.move (.met rfl rfl rfl) rfl rfl ?_
    refine Sq.shr (.met rfl rfl rfl) rfl rfl rfl (by omega) ?_
    refine Sq.and1 (.met rfl rfl rfl) rfl rfl (by first | omega | exact shr_ok (by omega)) ?_
    refine Sq.eql (.met rfl rfl rfl) rfl rfl rfl ?_
    refine Sq.pickT .plain rfl rfl rfl ?_
    refine Sq.assign .plain rfl rfl ?_
    refine Sq.nil ?_
    refine Eq.next ?_
    refine Cq.ret ?_
    refine Eq.ret1 rfl rfl ?_
    exact ⟨by rw [hs_shift s n h.1 h.2 h0], rfl⟩
  refine Sq.move .plain rfl rfl ?_
  refine Sq.off rfl rfl rfl rfl rfl rfl ?_
  refine Sq.off rfl rfl rfl rfl rfl rfl ?_
  refine Sq.off rfl rfl rfl rfl rfl rfl ?_
  refine Sq.off rfl rfl rfl rfl rfl rfl ?_
  refine Sq.off rfl rfl rfl rfl rfl rfl ?_
  refine Sq.pickF .plain rfl rfl rfl ?_
  refine Sq.assign .plain rfl rfl ?_
  refine Sq.nil ?_
  refine Eq.next ?_
  refine Cq.ret ?_
  refine Eq.ret1 rfl rfl ?_
  exact ⟨by simp [hs, h0], rfl⟩
set_option maxRecDepth 100000 in
theorem l1Has_c (s n : Int) (h : 0 ≤ s ∧ s ≤ 9223372036854775807) (hn : 0 ≤ n ∧ n ≤ 9223372036854775807) (w0 : World) : Ret Try.prog 84 #[Value.int .i64 s, Value.int .i64 n] w0 (fun v w => v = .bool (hs s n) ∧ w0 = w) := by
  refine Ret.of (args := [Value.int .i64 s, Value.int .i64 n]) Try.func84 rfl rfl rfl ?_
  rintro _ rfl
  show Cq _ _ _ _ [(0, Value.int .i64 s), (1, Value.int .i64 n)] _
  refine Cq.seq ?_
  refine Cq.region ?_
  refine Sq.assign .plain rfl rfl ?_
  refine Sq.nil ?_
  refine Eq.next ?_
  refine Cq.seq ?_
  refine Cq.region ?_
  refine Sq.move .plain rfl rfl ?_
  refine Sq.move .plain rfl rfl ?_
  refine Sq.convU conv3_96 .plain rfl rfl (by omega) ?_
  refine Sq.shr .plain rfl rfl rfl (by omega) ?_
  refine Sq.and1 .plain rfl rfl (by first | omega | exact shr_ok (by omega)) ?_
  refine Sq.eql .plain rfl rfl rfl ?_
  refine Sq.assign .plain rfl rfl ?_
  refine Sq.nil ?_
  refine Eq.next ?_
  refine Cq.ret ?_
  refine Eq.ret1 rfl rfl ?_
  exact ⟨by rw [hs_shift s n h.1 h.2 hn.1], rfl⟩
set_option maxRecDepth 100000 in
theorem isAlphabet_c (n : Int) (w0 : World) : Ret Try.prog 79 #[Value.int .i64 n] w0 (fun v w => v = .bool (decide (0 ≤ n ∧ n ≤ 63)) ∧ w0 = w) := by
  refine Ret.of (args := [Value.int .i64 n]) Try.func79 rfl rfl rfl ?_
  rintro _ rfl
  show Cq _ _ _ _ [(0, Value.int .i64 n)] _
  refine Cq.seq ?_
  refine Cq.region ?_
  refine Sq.assign .plain rfl rfl ?_
  refine Sq.nil ?_
  refine Eq.next ?_
  refine Cq.seq ?_
  refine Cq.region ?_
  refine Sq.move .plain rfl rfl ?_
  refine Sq.geq .plain rfl rfl rfl ?_
  refine Sq.part (fun c1 => ?_) (fun c1 => ?_)
  · refine Sq.move .plain rfl rfl ?_
    refine Sq.move (.met rfl rfl rfl) rfl rfl ?_
    refine Sq.leq (.met rfl rfl rfl) rfl rfl rfl ?_
    refine Sq.pickT .plain rfl rfl rfl ?_
    refine Sq.assign .plain rfl rfl ?_
    refine Sq.nil ?_
    refine Eq.next ?_
    refine Cq.ret ?_
    refine Eq.ret1 rfl rfl ?_
    exact ⟨by simp; omega, rfl⟩
  refine Sq.move .plain rfl rfl ?_
  refine Sq.off rfl rfl rfl rfl rfl rfl ?_
  refine Sq.off rfl rfl rfl rfl rfl rfl ?_
  refine Sq.pickF .plain rfl rfl rfl ?_
  refine Sq.assign .plain rfl rfl ?_
  refine Sq.nil ?_
  refine Eq.next ?_
  refine Cq.ret ?_
  refine Eq.ret1 rfl rfl ?_
  exact ⟨by simp; omega, rfl⟩
set_option maxRecDepth 100000 in
theorem l1Alphabet_c (n : Int) (w0 : World) : Ret Try.prog 74 #[Value.int .i64 n] w0 (fun v w => v = .bool (decide (0 ≤ n ∧ n ≤ 63)) ∧ w0 = w) := by
  refine Ret.of (args := [Value.int .i64 n]) Try.func74 rfl rfl rfl ?_
  rintro _ rfl
  show Cq _ _ _ _ [(0, Value.int .i64 n)] _
  refine Cq.seq ?_
  refine Cq.region ?_
  refine Sq.assign .plain rfl rfl ?_
  refine Sq.nil ?_
  refine Eq.next ?_
  refine Cq.seq ?_
  refine Cq.region ?_
  refine Sq.move .plain rfl rfl ?_
  refine Sq.geq .plain rfl rfl rfl ?_
  refine Sq.part (fun c1 => ?_) (fun c1 => ?_)
  · refine Sq.move .plain rfl rfl ?_
    refine Sq.move (.met rfl rfl rfl) rfl rfl ?_
    refine Sq.leq (.met rfl rfl rfl) rfl rfl rfl ?_
    refine Sq.pickT .plain rfl rfl rfl ?_
    refine Sq.assign .plain rfl rfl ?_
    refine Sq.nil ?_
    refine Eq.next ?_
    refine Cq.ret ?_
    refine Eq.ret1 rfl rfl ?_
    exact ⟨by simp; omega, rfl⟩
  refine Sq.move .plain rfl rfl ?_
  refine Sq.off rfl rfl rfl rfl rfl rfl ?_
  refine Sq.off rfl rfl rfl rfl rfl rfl ?_
  refine Sq.pickF .plain rfl rfl rfl ?_
  refine Sq.assign .plain rfl rfl ?_
  refine Sq.nil ?_
  refine Eq.next ?_
  refine Cq.ret ?_
  refine Eq.ret1 rfl rfl ?_
  exact ⟨by simp; omega, rfl⟩
set_option maxRecDepth 100000 in
theorem lettersOf_c (al : Int) (h : 0 ≤ al ∧ al ≤ 63) (w0 : World) : Ret Try.prog 58 #[Value.int .i64 al] w0 (fun v w => Own w w0.heap.size 3 v ((letters al).map (Value.int .i64)) ∧ Ext w0 w) := by
  have E := Ext.refl w0
  refine Ret.of (args := [Value.int .i64 al]) Try.func58 rfl rfl rfl ?_
  rintro _ rfl
  show Cq _ _ _ _ [(0, Value.int .i64 al)] _
  refine Cq.seq ?_
  refine Cq.region ?_
  refine Sq.assign .plain rfl rfl ?_
  refine Sq.nil ?_
  refine Eq.next ?_
  refine Cq.seq ?_
  refine Cq.region ?_
  refine Sq.assign .plain rfl rfl ?_
  refine Sq.nil ?_
  refine Eq.next ?_
  refine Cq.seq ?_
  refine Cq.seq ?_
  refine Cq.region ?_
  refine Sq.move .plain rfl rfl ?_
  refine Sq.nil ?_
  refine Eq.next ?_
  refine Cq.block ?_
  refine Cq.loop (fun nn w ls => ∃ (k : Int), ∃ (v : Value), ls = [(0, Value.int .i64 al), (3, v), (5, Value.int .i64 k)] ∧ (0 ≤ k ∧ k ≤ 6) ∧ Own w w0.heap.size 3 v ((lettersTo al k.toNat).map (Value.int .i64)) ∧ Ext w0 w ∧ nn = (6 - k).toNat) _ _ ⟨0, _, rfl, by omega, Own.nil _ _ _, E, rfl⟩ (.cons rfl (.cons rfl (.cons rfl (.nil)))) ?_
  rintro nn wl1 ls ⟨k, v, rfl, hk, ho, E, rfl⟩
  have hs1 := Below.size E
  have hl := lettersTo_length al k.toNat
  refine Cq.seq ?_
  refine Cq.region ?_
  refine Sq.lss .plain rfl rfl rfl ?_
  refine Sq.part (fun c2 => ?_) (fun c2 => ?_)
  · refine Sq.nil ?_
    refine Eq.next ?_
    refine Cq.seq ?_
    refine Cq.thn rfl ?_
    refine Cq.skip ?_
    refine Eq.next ?_
    refine Cq.seq ?_
    refine Cq.block ?_
    refine Cq.seq ?_
    refine Cq.region ?_
    refine Sq.move .plain rfl rfl ?_
    refine Sq.assign .plain rfl rfl ?_
    refine Sq.nil ?_
    refine Eq.next ?_
    refine Cq.seq ?_
    refine Cq.region ?_
    refine Sq.move .plain rfl rfl ?_
    refine Sq.move .plain rfl rfl ?_
    refine Sq.call fn86 .plain rfl rfl (has_c _ _ (by omega) _) ?_
    rintro _ _ ⟨rfl, rfl⟩
    refine Sq.partB (fun hb => ?_) (fun hb => ?_)
    · refine Sq.nil ?_
      refine Eq.next ?_
      refine Cq.thn rfl ?_
      refine Cq.region ?_
      refine Sq.move .plain rfl rfl ?_
      refine Sq.move .plain rfl rfl ?_
      refine Sq.app1 sl52 ho (by omega) (by simp; omega) .plain rfl rfl rfl rfl rfl rfl rfl (fun v3 w4 ho6 g5 _ => ?_)
      have hs7 := g5.size
      replace E := E.owned ho g5 (by omega)
      refine Sq.assign .plain rfl rfl ?_
      refine Sq.nil ?_
      refine Eq.end ?_
      refine Eq.next ?_
      refine Cq.region ?_
      refine Sq.add .plain rfl rfl rfl (by omega) ?_
      refine Sq.move .plain rfl rfl ?_
      refine Sq.nil ?_
      have e1 := toNat_succ hk.1
      refine Eq.round _ _ ⟨k + 1, _, rfl, by omega, (by rw [e1, lettersTo_T (by rw [Int.toNat_of_nonneg hk.1]; exact hb)]; simpa [Int.toNat_of_nonneg hk.1] using ho6), E, rfl⟩ (by omega) (.cons rfl (.cons rfl (.cons rfl (.nil))))
    refine Sq.nil ?_
    refine Eq.next ?_
    refine Cq.els rfl ?_
    refine Cq.skip ?_
    refine Eq.end ?_
    refine Eq.next ?_
    refine Cq.region ?_
    refine Sq.add .plain rfl rfl rfl (by omega) ?_
    refine Sq.move .plain rfl rfl ?_
    refine Sq.nil ?_
    have e1 := toNat_succ hk.1
    refine Eq.round _ _ ⟨k + 1, _, rfl, by omega, (by rw [e1, lettersTo_F (by rw [Int.toNat_of_nonneg hk.1]; exact hb)]; exact ho), E, rfl⟩ (by omega) (.cons rfl (.cons rfl (.cons rfl (.nil))))
  refine Sq.nil ?_
  refine Eq.next ?_
  refine Cq.seq ?_
  refine Cq.els rfl ?_
  refine Cq.exit ?_
  refine Eq.past ?_
  refine Eq.past ?_
  refine Eq.hit ?_
  refine Eq.next ?_
  refine Cq.seq ?_
  refine Cq.region ?_
  refine Sq.move .plain rfl rfl ?_
  refine Sq.assign .plain rfl rfl ?_
  refine Sq.nil ?_
  refine Eq.next ?_
  refine Cq.ret ?_
  refine Eq.ret1 rfl rfl ?_
  obtain rfl : k = 6 := by omega
  exact ⟨ho, E⟩
set_option maxRecDepth 100000 in
theorem l1Letters_c (al : Int) (h : 0 ≤ al ∧ al ≤ 63) (w0 : World) : Ret Try.prog 52 #[Value.int .i64 al] w0 (fun v w => Own w w0.heap.size 3 v ((letters al).map (Value.int .i64)) ∧ Ext w0 w) := by
  have E := Ext.refl w0
  refine Ret.of (args := [Value.int .i64 al]) Try.func52 rfl rfl rfl ?_
  rintro _ rfl
  show Cq _ _ _ _ [(0, Value.int .i64 al)] _
  refine Cq.seq ?_
  refine Cq.region ?_
  refine Sq.assign .plain rfl rfl ?_
  refine Sq.nil ?_
  refine Eq.next ?_
  refine Cq.seq ?_
  refine Cq.region ?_
  refine Sq.lit sl52 rfl rfl .plain rfl rfl one_nil (fun b1 w2 e3 hlo4 ho5 _ => ?_)
  replace ho5 := ho5 w0.heap.size (Nat.le_refl _)
  have hs7 := Below.size e3
  replace E := E.trans e3
  refine Sq.assign .plain rfl rfl ?_
  refine Sq.nil ?_
  refine Eq.next ?_
  refine Cq.seq ?_
  refine Cq.seq ?_
  refine Cq.region ?_
  refine Sq.assign .plain rfl rfl ?_
  refine Sq.nil ?_
  refine Eq.next ?_
  refine Cq.block ?_
  refine Cq.loop (fun nn w ls => ∃ (k : Int), ∃ (v : Value), ls = [(0, Value.int .i64 al), (3, v), (4, Value.int .i64 k)] ∧ (0 ≤ k ∧ k ≤ 6) ∧ Own w w0.heap.size 3 v ((lettersTo al k.toNat).map (Value.int .i64)) ∧ Ext w0 w ∧ nn = (6 - k).toNat) _ _ ⟨0, _, rfl, by omega, Own.mono ho5 (by omega), E, rfl⟩ (.cons rfl (.cons rfl (.cons rfl (.nil)))) ?_
  rintro nn wl1 ls ⟨k, v, rfl, hk, ho, E, rfl⟩
  have hs8 := Below.size E
  have hl := lettersTo_length al k.toNat
  refine Cq.seq ?_
  refine Cq.seq ?_
  refine Cq.region ?_
  refine Sq.move .plain rfl rfl ?_
  refine Sq.lss .plain rfl rfl rfl ?_
  refine Sq.part (fun c9 => ?_) (fun c9 => ?_)
  · refine Sq.nil ?_
    refine Eq.next ?_
    refine Cq.thn rfl ?_
    refine Cq.skip ?_
    refine Eq.next ?_
    refine Cq.seq ?_
    refine Cq.block ?_
    refine Cq.seq ?_
    refine Cq.region ?_
    refine Sq.move .plain rfl rfl ?_
    refine Sq.move .plain rfl rfl ?_
    refine Sq.call fn84 .plain rfl rfl (l1Has_c _ _ (by omega) (by omega) _) ?_
    rintro _ _ ⟨rfl, rfl⟩
    refine Sq.partB (fun hb => ?_) (fun hb => ?_)
    · refine Sq.nil ?_
      refine Eq.next ?_
      refine Cq.thn rfl ?_
      refine Cq.region ?_
      refine Sq.move .plain rfl rfl ?_
      refine Sq.move .plain rfl rfl ?_
      refine Sq.app1 sl52 ho (by omega) (by simp; omega) .plain rfl rfl rfl rfl rfl rfl rfl (fun v10 w11 ho13 g12 _ => ?_)
      have hs14 := g12.size
      replace E := E.owned ho g12 (by omega)
      refine Sq.assign .plain rfl rfl ?_
      refine Sq.nil ?_
      refine Eq.end ?_
      refine Eq.next ?_
      refine Cq.region ?_
      refine Sq.move .plain rfl rfl ?_
      refine Sq.add .plain rfl rfl rfl (by omega) ?_
      refine Sq.assign .plain rfl rfl ?_
      refine Sq.nil ?_
      have e1 := toNat_succ hk.1
      refine Eq.round _ _ ⟨k + 1, _, rfl, by omega, (by rw [e1, lettersTo_T (by rw [Int.toNat_of_nonneg hk.1]; exact hb)]; simpa [Int.toNat_of_nonneg hk.1] using ho13), E, rfl⟩ (by omega) (.cons rfl (.cons rfl (.cons rfl (.nil))))
    refine Sq.nil ?_
    refine Eq.next ?_
    refine Cq.els rfl ?_
    refine Cq.skip ?_
    refine Eq.end ?_
    refine Eq.next ?_
    refine Cq.region ?_
    refine Sq.move .plain rfl rfl ?_
    refine Sq.add .plain rfl rfl rfl (by omega) ?_
    refine Sq.assign .plain rfl rfl ?_
    refine Sq.nil ?_
    have e1 := toNat_succ hk.1
    refine Eq.round _ _ ⟨k + 1, _, rfl, by omega, (by rw [e1, lettersTo_F (by rw [Int.toNat_of_nonneg hk.1]; exact hb)]; exact ho), E, rfl⟩ (by omega) (.cons rfl (.cons rfl (.cons rfl (.nil))))
  refine Sq.nil ?_
  refine Eq.next ?_
  refine Cq.els rfl ?_
  refine Cq.exit ?_
  refine Eq.past ?_
  refine Eq.past ?_
  refine Eq.hit ?_
  refine Eq.next ?_
  refine Cq.seq ?_
  refine Cq.region ?_
  refine Sq.move .plain rfl rfl ?_
  refine Sq.assign .plain rfl rfl ?_
  refine Sq.nil ?_
  refine Eq.next ?_
  refine Cq.ret ?_
  refine Eq.ret1 rfl rfl ?_
  obtain rfl : k = 6 := by omega
  exact ⟨ho, E⟩
set_option maxRecDepth 100000 in
theorem l3Row_c (w0 : World) (xs : List Int) (r : Value) (hr : Ints w0 3 r xs) (m n : Int) (hm : m ≤ 1000000) : Ret Try.prog 75 #[r, Value.int .i64 m, Value.int .i64 n] w0 (fun v w => v = .bool (rowOk m n xs) ∧ w0 = w) := by
  refine Ret.of (args := [r, Value.int .i64 m, Value.int .i64 n]) Try.func75 rfl rfl rfl ?_
  rintro _ rfl
  show Cq _ _ _ _ [(0, r), (1, Value.int .i64 m), (2, Value.int .i64 n)] _
  refine Cq.seq ?_
  refine Cq.region ?_
  refine Sq.assign .plain rfl rfl ?_
  refine Sq.nil ?_
  refine Eq.next ?_
  refine Cq.seq ?_
  refine Cq.seq ?_
  refine Cq.region ?_
  refine Sq.move .plain rfl rfl ?_
  refine Sq.lenInts hr .plain rfl und52 rfl ?_
  refine Sq.move .plain rfl rfl ?_
  refine Sq.neq .plain rfl rfl rfl ?_
  refine Sq.part (fun c1 => ?_) (fun c1 => ?_)
  · refine Sq.nil ?_
    refine Eq.next ?_
    refine Cq.thn rfl ?_
    refine Cq.seq ?_
    refine Cq.region ?_
    refine Sq.assign .plain rfl rfl ?_
    refine Sq.nil ?_
    refine Eq.next ?_
    refine Cq.ret ?_
    refine Eq.pastRet ?_
    refine Eq.ret1 rfl rfl ?_
    exact ⟨by first | rw [rowOk_len (by omega)] | rw [rowOk_bad (by omega) (k := k.toNat) (by omega) (inB_F (by omega))] | rw [rowOk_good (by omega) hp (by omega)], rfl⟩
  refine Sq.nil ?_
  refine Eq.next ?_
  refine Cq.els rfl ?_
  refine Cq.skip ?_
  refine Eq.next ?_
  refine Cq.seq ?_
  refine Cq.seq ?_
  refine Cq.region ?_
  refine Sq.assign .plain rfl rfl ?_
  refine Sq.nil ?_
  refine Eq.next ?_
  refine Cq.block ?_
  refine Cq.loop (fun nn w ls => ∃ (k : Int), ls = [(0, r), (2, Value.int .i64 n), (7, Value.int .i64 k)] ∧ w0 = w ∧ (0 ≤ k ∧ k ≤ xs.length) ∧ (xs.take k.toNat).all (inB n) = true ∧ nn = ((xs.length : Int) - k).toNat) _ _ ⟨0, rfl, rfl, by omega, rfl, rfl⟩ (.cons rfl (.cons rfl (.cons rfl (.nil)))) ?_
  rintro n1 w ls ⟨k, rfl, rfl, hk, hp, rfl⟩
  refine Cq.seq ?_
  refine Cq.seq ?_
  refine Cq.region ?_
  refine Sq.move .plain rfl rfl ?_
  refine Sq.move .plain rfl rfl ?_
  refine Sq.lenInts hr .plain rfl und52 rfl ?_
  refine Sq.lss .plain rfl rfl rfl ?_
  refine Sq.part (fun c2 => ?_) (fun c2 => ?_)
  · refine Sq.nil ?_
    refine Eq.next ?_
    refine Cq.thn rfl ?_
    refine Cq.skip ?_
    refine Eq.next ?_
    refine Cq.seq ?_
    refine Cq.block ?_
    refine Cq.seq ?_
    refine Cq.region ?_
    refine Sq.move .plain rfl rfl ?_
    refine Sq.move .plain rfl rfl ?_
    refine Sq.idxInts sl52 one3 hr .plain rfl rfl rfl .plain rfl rfl (by omega) (by omega) ?_
    refine Sq.lss .plain rfl rfl rfl ?_
    refine Sq.part (fun c3 => ?_) (fun c3 => ?_)
    · refine Sq.move .plain rfl rfl ?_
      refine Sq.off rfl rfl rfl rfl rfl rfl ?_
      refine Sq.off rfl rfl rfl rfl rfl rfl ?_
      refine Sq.off rfl rfl rfl rfl rfl rfl ?_
      refine Sq.off rfl rfl rfl rfl rfl rfl ?_
      refine Sq.off rfl rfl rfl rfl rfl rfl ?_
      refine Sq.off rfl rfl rfl rfl rfl rfl ?_
      refine Sq.pickT .plain rfl rfl rfl ?_
      refine Sq.nil ?_
      refine Eq.next ?_
      refine Cq.thn rfl ?_
      refine Cq.seq ?_
      refine Cq.region ?_
      refine Sq.assign .plain rfl rfl ?_
      refine Sq.nil ?_
      refine Eq.next ?_
      refine Cq.ret ?_
      refine Eq.outRet ?_
      refine Eq.pastRet ?_
      refine Eq.pastRet ?_
      refine Eq.outRet ?_
      refine Eq.pastRet ?_
      refine Eq.ret1 rfl rfl ?_
      exact ⟨by first | rw [rowOk_len (by omega)] | rw [rowOk_bad (by omega) (k := k.toNat) (by omega) (inB_F (by omega))] | rw [rowOk_good (by omega) hp (by omega)], rfl⟩
    refine Sq.move .plain rfl rfl ?_
    refine Sq.move (.met rfl rfl rfl) rfl rfl ?_
    refine Sq.move (.met rfl rfl rfl) rfl rfl ?_
    refine Sq.idxInts sl52 one3 hr (.met rfl rfl rfl) rfl rfl rfl (.met rfl rfl rfl) rfl rfl (by omega) (by omega) ?_
    refine Sq.move (.met rfl rfl rfl) rfl rfl ?_
    refine Sq.geq (.met rfl rfl rfl) rfl rfl rfl ?_
    refine Sq.part (fun c4 => ?_) (fun c4 => ?_)
    · refine Sq.pickF .plain rfl rfl rfl ?_
      refine Sq.nil ?_
      refine Eq.next ?_
      refine Cq.thn rfl ?_
      refine Cq.seq ?_
      refine Cq.region ?_
      refine Sq.assign .plain rfl rfl ?_
      refine Sq.nil ?_
      refine Eq.next ?_
      refine Cq.ret ?_
      refine Eq.outRet ?_
      refine Eq.pastRet ?_
      refine Eq.pastRet ?_
      refine Eq.outRet ?_
      refine Eq.pastRet ?_
      refine Eq.ret1 rfl rfl ?_
      exact ⟨by first | rw [rowOk_len (by omega)] | rw [rowOk_bad (by omega) (k := k.toNat) (by omega) (inB_F (by omega))] | rw [rowOk_good (by omega) hp (by omega)], rfl⟩
    refine Sq.pickF .plain rfl rfl rfl ?_
    refine Sq.nil ?_
    refine Eq.next ?_
    refine Cq.els rfl ?_
    refine Cq.skip ?_
    refine Eq.end ?_
    refine Eq.next ?_
    refine Cq.region ?_
    refine Sq.move .plain rfl rfl ?_
    refine Sq.add .plain rfl rfl rfl (by omega) ?_
    refine Sq.assign .plain rfl rfl ?_
    refine Sq.nil ?_
    have e1 := toNat_succ hk.1
    refine Eq.round _ _ ⟨k + 1, rfl, rfl, by omega, by rw [e1]; exact all_snoc (d := 0) hp (by omega) (inB_T (by omega)), rfl⟩ (by omega) (.cons rfl (.cons rfl (.cons rfl (.nil))))
  refine Sq.nil ?_
  refine Eq.next ?_
  refine Cq.els rfl ?_
  refine Cq.exit ?_
  refine Eq.past ?_
  refine Eq.past ?_
  refine Eq.hit ?_
  refine Eq.next ?_
  refine Cq.seq ?_
  refine Cq.region ?_
  refine Sq.assign .plain rfl rfl ?_
  refine Sq.nil ?_
  refine Eq.next ?_
  refine Cq.ret ?_
  refine Eq.ret1 rfl rfl ?_
  exact ⟨by first | rw [rowOk_len (by omega)] | rw [rowOk_bad (by omega) (k := k.toNat) (by omega) (inB_F (by omega))] | rw [rowOk_good (by omega) hp (by omega)], rfl⟩
end Go.Proofs.Ytdkdpmmfebdeaaa
set_option linter.unusedSimpArgs false
set_option linter.unusedVariables false
namespace Go.Proofs.Ytdkdpmmfebdeaaa
open Go.RowKit
set_option maxRecDepth 100000 in
theorem sValid_c (w0 : World) (a : A) (nx ac : Value) (hnx : Rows w0 52 3 nx a.next) (hac : Bools w0 4 ac a.acc) : Ret Try.prog 40 #[Value.agg #[Value.int .i64 a.al, nx, ac]] w0 (fun v w => v = .bool (validA a) ∧ Ext w0 w) := by
  have E := Ext.refl w0
  refine Ret.of (args := [Value.agg #[Value.int .i64 a.al, nx, ac]]) Try.func40 rfl rfl rfl ?_
  rintro _ rfl
  show Cq _ _ _ _ [(0, Value.agg #[Value.int .i64 a.al, nx, ac])] _
  refine Cq.seq ?_
  refine Cq.region ?_
  refine Sq.box .plain rfl rfl (fun b1 w2 e3 hB4 hlo5 => ?_)
  have hd6 := Nat.le_trans (Below.size E) hlo5
  have hs7 := Below.size e3
  replace E := E.trans e3
  refine Sq.assign .plain rfl rfl ?_
  refine Sq.nil ?_
  refine Eq.next ?_
  refine Cq.seq ?_
  refine Cq.region ?_
  refine Sq.fieldAddr fld27_1 .plain rfl rfl ?_
  refine Sq.loadB one22 .plain rfl rfl hB4 rfl ?_
  refine Sq.lenRows (hnx.ext E) .plain rfl und22 rfl ?_
  refine Sq.assign .plain rfl rfl ?_
  refine Sq.nil ?_
  refine Eq.next ?_
  refine Cq.seq ?_
  refine Cq.seq ?_
  refine Cq.region ?_
  refine Sq.fieldAddr fld27_0 .plain rfl rfl ?_
  refine Sq.loadB one3 .plain rfl rfl hB4 rfl ?_
  refine Sq.call fn74 .plain rfl rfl (l1Alphabet_c _ _) ?_
  rintro _ _ ⟨rfl, rfl⟩
  refine Sq.part (fun c8 => ?_) (fun c8 => ?_)
  · refine Sq.notT .plain rfl rfl ?_
    refine Sq.move .plain rfl rfl ?_
    refine Sq.move (.met rfl rfl rfl) rfl rfl ?_
    refine Sq.lss (.met rfl rfl rfl) rfl rfl rfl ?_
    refine Sq.part (fun c9 => ?_) (fun c9 => ?_)
    · refine Sq.pickF .plain rfl rfl rfl ?_
      refine Sq.move .plain rfl rfl ?_
      refine Sq.off rfl rfl rfl rfl rfl rfl ?_
      refine Sq.off rfl rfl rfl rfl rfl rfl ?_
      refine Sq.pickT .plain rfl rfl rfl ?_
      refine Sq.move .plain rfl rfl ?_
      refine Sq.off rfl rfl rfl rfl rfl rfl ?_
      refine Sq.off rfl rfl rfl rfl rfl rfl ?_
      refine Sq.off rfl rfl rfl rfl rfl rfl ?_
      refine Sq.off rfl rfl rfl rfl rfl rfl ?_
      refine Sq.off rfl rfl rfl rfl rfl rfl ?_
      refine Sq.pickT .plain rfl rfl rfl ?_
      refine Sq.nil ?_
      refine Eq.next ?_
      refine Cq.thn rfl ?_
      refine Cq.seq ?_
      refine Cq.region ?_
      refine Sq.assign .plain rfl rfl ?_
      refine Sq.nil ?_
      refine Eq.next ?_
      refine Cq.ret ?_
      refine Eq.pastRet ?_
      refine Eq.ret1 rfl rfl ?_
      exact ⟨by first | rw [validA_al (by omega)] | rw [validA_n (by omega)] | rw [validA_acc (by omega)] | rw [validA_row (k := k.toNat) (by omega) hrow] | rw [validA_good (k := k.toNat) (by omega) (by omega) (by omega) hp (by omega)], E⟩
    refine Sq.pickF .plain rfl rfl rfl ?_
    refine Sq.move .plain rfl rfl ?_
    refine Sq.move (.met rfl rfl rfl) rfl rfl ?_
    refine Sq.gtr (.met rfl rfl rfl) rfl rfl rfl ?_
    refine Sq.part (fun c10 => ?_) (fun c10 => ?_)
    · refine Sq.pickF .plain rfl rfl rfl ?_
      refine Sq.move .plain rfl rfl ?_
      refine Sq.off rfl rfl rfl rfl rfl rfl ?_
      refine Sq.off rfl rfl rfl rfl rfl rfl ?_
      refine Sq.off rfl rfl rfl rfl rfl rfl ?_
      refine Sq.off rfl rfl rfl rfl rfl rfl ?_
      refine Sq.off rfl rfl rfl rfl rfl rfl ?_
      refine Sq.pickT .plain rfl rfl rfl ?_
      refine Sq.nil ?_
      refine Eq.next ?_
      refine Cq.thn rfl ?_
      refine Cq.seq ?_
      refine Cq.region ?_
      refine Sq.assign .plain rfl rfl ?_
      refine Sq.nil ?_
      refine Eq.next ?_
      refine Cq.ret ?_
      refine Eq.pastRet ?_
      refine Eq.ret1 rfl rfl ?_
      exact ⟨by first | rw [validA_al (by omega)] | rw [validA_n (by omega)] | rw [validA_acc (by omega)] | rw [validA_row (k := k.toNat) (by omega) hrow] | rw [validA_good (k := k.toNat) (by omega) (by omega) (by omega) hp (by omega)], E⟩
    refine Sq.pickF .plain rfl rfl rfl ?_
    refine Sq.move .plain rfl rfl ?_
    refine Sq.fieldAddr fld27_2 (.met rfl rfl rfl) rfl rfl ?_
    refine Sq.loadB one23 (.met rfl rfl rfl) rfl rfl hB4 rfl ?_
    refine Sq.lenBools (hac.ext E) (.met rfl rfl rfl) rfl und23 rfl ?_
    refine Sq.move (.met rfl rfl rfl) rfl rfl ?_
    refine Sq.neq (.met rfl rfl rfl) rfl rfl rfl ?_
    refine Sq.part (fun c11 => ?_) (fun c11 => ?_)
    · refine Sq.pickF .plain rfl rfl rfl ?_
      refine Sq.nil ?_
      refine Eq.next ?_
      refine Cq.thn rfl ?_
      refine Cq.seq ?_
      refine Cq.region ?_
      refine Sq.assign .plain rfl rfl ?_
      refine Sq.nil ?_
      refine Eq.next ?_
      refine Cq.ret ?_
      refine Eq.pastRet ?_
      refine Eq.ret1 rfl rfl ?_
      exact ⟨by first | rw [validA_al (by omega)] | rw [validA_n (by omega)] | rw [validA_acc (by omega)] | rw [validA_row (k := k.toNat) (by omega) hrow] | rw [validA_good (k := k.toNat) (by omega) (by omega) (by omega) hp (by omega)], E⟩
    refine Sq.pickF .plain rfl rfl rfl ?_
    refine Sq.nil ?_
    refine Eq.next ?_
    refine Cq.els rfl ?_
    refine Cq.skip ?_
    refine Eq.next ?_
    refine Cq.seq ?_
    refine Cq.seq ?_
    refine Cq.region ?_
    refine Sq.assign .plain rfl rfl ?_
    refine Sq.nil ?_
    refine Eq.next ?_
    refine Cq.block ?_
    refine Cq.loop (fun nn w ls => ∃ (k : Int), ls = [(1, Value.pointer (some ⟨b1, 0, none⟩)), (3, Value.int .i64 (List.length a.next : Int)), (4, Value.int .i64 k)] ∧ (0 ≤ k ∧ k ≤ a.next.length) ∧ (a.next.take k.toNat).all (rowOk (letters a.al).length a.next.length) = true ∧ Ext w0 w ∧ Blk w b1 27 [Value.int .i64 a.al, nx, ac] ∧ nn = ((a.next.length : Int) - k).toNat) _ _ ⟨0, rfl, by omega, rfl, E, hB4, rfl⟩ (.cons rfl (.cons rfl (.cons rfl (.nil)))) ?_
    rintro nn wl1 ls ⟨k, rfl, hk, hp, E, hB4, rfl⟩
    have hs12 := Below.size E
    refine Cq.seq ?_
    refine Cq.seq ?_
    refine Cq.region ?_
    refine Sq.move .plain rfl rfl ?_
    refine Sq.move .plain rfl rfl ?_
    refine Sq.lss .plain rfl rfl rfl ?_
    refine Sq.part (fun c13 => ?_) (fun c13 => ?_)
    · refine Sq.nil ?_
      refine Eq.next ?_
      refine Cq.thn rfl ?_
      refine Cq.skip ?_
      refine Eq.next ?_
      refine Cq.seq ?_
      refine Cq.block ?_
      refine Cq.seq ?_
      refine Cq.draw 12 none mixed (fun w14 e15 => ?_)
      have hs16 := Below.size e15
      replace E := E.trans e15
      replace hB4 := hB4.ext e15
      have E_w14 := E
      have hB4_w14 := hB4
      refine Gq.st 0 rfl (by kernel_rfl) rfl .plain rfl (fun _ _ _ h => h) (World.grownBy.refl w14 _) (fun w' x => Still.fieldAddr fld27_1 rfl) ?_
      refine Gq.st 1 rfl (by kernel_rfl) rfl .plain rfl (fun _ _ _ h => h) (World.grownBy.refl w14 _) (fun w' x => Still.loadB one22 rfl (hB4_w14.ext (Ext.of_grown x)) rfl) ?_
      refine Gq.st 2 rfl (by kernel_rfl) rfl .plain rfl (fun _ _ _ h => h) (World.grownBy.refl w14 _) (fun w' x => Still.move rfl) ?_
      obtain ⟨p17, r19, hp18_w14, hr20⟩ := Rows.at hnx (i := k) (by omega) (by omega)
      refine Gq.st 3 rfl (by kernel_rfl) rfl .plain rfl (fun _ _ _ h => h) (World.grownBy.refl w14 _) (fun w' x => Still.at' sl22 hp18_w14 rfl rfl) ?_
      refine Gq.st 4 rfl (by kernel_rfl) rfl .plain rfl (fun _ _ _ h => h) (World.grownBy.refl w14 _) (fun w' x => Still.loadA one52 rfl (hp18_w14.ext (E_w14.trans (Ext.of_grown x))).1) ?_
      refine Gq.st 5 rfl (by kernel_rfl) rfl .plain rfl (fun _ _ _ h => h) (World.grownBy.refl w14 _) (fun w' x => Still.fieldAddr fld27_0 rfl) ?_
      refine Gq.st 6 rfl (by kernel_rfl) rfl .plain rfl (fun _ _ _ h => h) (World.grownBy.refl w14 _) (fun w' x => Still.loadB one3 rfl (hB4_w14.ext (Ext.of_grown x)) rfl) ?_
      refine Gq.st 9 rfl (by kernel_rfl) rfl .plain rfl (fun _ _ _ h => h) (World.grownBy.refl w14 _) (fun w' x => Still.move rfl) ?_
      refine Gq.one 7 rfl (by kernel_rfl) ?_
      have hd25 := hB4.lt
      refine Sq.call fn52 .plain rfl rfl (l1Letters_c a.al (by omega) _) ?_
      rintro v21 w22 ⟨hl24, e23⟩
      have hs26 := Below.size E
      have hs27 := Below.size e23
      replace E := E.trans e23
      replace hB4 := hB4.ext e23
      refine Sq.nil ?_
      refine Eq.goes (fun _ => (grown_trans (World.grownBy.refl w14 _) (Ext.to_grown e23 _))) ?_
      refine Gq.one 8 rfl (by kernel_rfl) ?_
      refine Sq.lenInts (Own.row hl24) .plain rfl und52 rfl ?_
      refine Sq.nil ?_
      refine Eq.goes (fun _ => (grown_trans (World.grownBy.refl w14 _) (Ext.to_grown e23 _))) ?_
      refine Gq.one 10 rfl (by kernel_rfl) ?_
      refine Sq.call fn75 .plain rfl rfl (l3Row_c _ _ _ (hr20.ext E) _ _ (by have := letters_len6 a.al; omega)) ?_
      rintro _ _ ⟨rfl, rfl⟩
      refine Sq.partB (fun hrow => ?_) (fun hrow => ?_)
      · refine Sq.nil ?_
        refine Eq.goes (fun _ => (grown_trans (World.grownBy.refl w14 _) (Ext.to_grown e23 _))) ?_
        refine Gq.st 11 rfl (by kernel_rfl) rfl .plain rfl (fun _ _ _ h => h) (grown_trans (World.grownBy.refl w14 _) (Ext.to_grown e23 _)) (fun w' x => Still.notT rfl) ?_
        refine Gq.done (by kernel_rfl) ?_
        refine Eq.next ?_
        refine Cq.els rfl ?_
        refine Cq.skip ?_
        refine Eq.end ?_
        refine Eq.next ?_
        refine Cq.region ?_
        refine Sq.move .plain rfl rfl ?_
        refine Sq.add .plain rfl rfl rfl (by omega) ?_
        refine Sq.assign .plain rfl rfl ?_
        refine Sq.nil ?_
        have e1 := toNat_succ hk.1
        refine Eq.round _ _ ⟨k + 1, rfl, by omega, by rw [e1]; exact all_snoc (d := []) hp (by omega) hrow, E, hB4, rfl⟩ (by omega) (.cons rfl (.cons rfl (.cons rfl (.nil))))
      refine Sq.nil ?_
      refine Eq.goes (fun _ => (grown_trans (World.grownBy.refl w14 _) (Ext.to_grown e23 _))) ?_
      refine Gq.st 11 rfl (by kernel_rfl) rfl .plain rfl (fun _ _ _ h => h) (grown_trans (World.grownBy.refl w14 _) (Ext.to_grown e23 _)) (fun w' x => Still.notF rfl) ?_
      refine Gq.done (by kernel_rfl) ?_
      refine Eq.next ?_
      refine Cq.thn rfl ?_
      refine Cq.seq ?_
      refine Cq.region ?_
      refine Sq.assign .plain rfl rfl ?_
      refine Sq.nil ?_
      refine Eq.next ?_
      refine Cq.ret ?_
      refine Eq.outRet ?_
      refine Eq.pastRet ?_
      refine Eq.pastRet ?_
      refine Eq.outRet ?_
      refine Eq.pastRet ?_
      refine Eq.ret1 rfl rfl ?_
      exact ⟨by first | rw [validA_al (by omega)] | rw [validA_n (by omega)] | rw [validA_acc (by omega)] | rw [validA_row (k := k.toNat) (by omega) hrow] | rw [validA_good (k := k.toNat) (by omega) (by omega) (by omega) hp (by omega)], E⟩
    refine Sq.nil ?_
    refine Eq.next ?_
    refine Cq.els rfl ?_
    refine Cq.exit ?_
    refine Eq.past ?_
    refine Eq.past ?_
    refine Eq.hit ?_
    refine Eq.next ?_
    refine Cq.seq ?_
    refine Cq.region ?_
    refine Sq.assign .plain rfl rfl ?_
    refine Sq.nil ?_
    refine Eq.next ?_
    refine Cq.ret ?_
    refine Eq.ret1 rfl rfl ?_
    exact ⟨by first | rw [validA_al (by omega)] | rw [validA_n (by omega)] | rw [validA_acc (by omega)] | rw [validA_row (k := k.toNat) (by omega) hrow] | rw [validA_good (k := k.toNat) (by omega) (by omega) (by omega) hp (by omega)], E⟩
  refine Sq.notF .plain rfl rfl ?_
  refine Sq.move .plain rfl rfl ?_
  refine Sq.off rfl rfl rfl rfl rfl rfl ?_
  refine Sq.off rfl rfl rfl rfl rfl rfl ?_
  refine Sq.pickT .plain rfl rfl rfl ?_
  refine Sq.move .plain rfl rfl ?_
  refine Sq.off rfl rfl rfl rfl rfl rfl ?_
  refine Sq.off rfl rfl rfl rfl rfl rfl ?_
  refine Sq.pickT .plain rfl rfl rfl ?_
  refine Sq.move .plain rfl rfl ?_
  refine Sq.off rfl rfl rfl rfl rfl rfl ?_
  refine Sq.off rfl rfl rfl rfl rfl rfl ?_
  refine Sq.off rfl rfl rfl rfl rfl rfl ?_
  refine Sq.off rfl rfl rfl rfl rfl rfl ?_
  refine Sq.off rfl rfl rfl rfl rfl rfl ?_
  refine Sq.pickT .plain rfl rfl rfl ?_
  refine Sq.nil ?_
  refine Eq.next ?_
  refine Cq.thn rfl ?_
  refine Cq.seq ?_
  refine Cq.region ?_
  refine Sq.assign .plain rfl rfl ?_
  refine Sq.nil ?_
  refine Eq.next ?_
  refine Cq.ret ?_
  refine Eq.pastRet ?_
  refine Eq.ret1 rfl rfl ?_
  exact ⟨by first | rw [validA_al (by omega)] | rw [validA_n (by omega)] | rw [validA_acc (by omega)] | rw [validA_row (k := k.toNat) (by omega) hrow] | rw [validA_good (k := k.toNat) (by omega) (by omega) (by omega) hp (by omega)], E⟩
set_option maxRecDepth 100000 in
theorem valid_c (w0 : World) (a : A) (nx ac : Value) (hnx : Rows w0 52 3 nx a.next) (hac : Bools w0 4 ac a.acc) : Ret Try.prog 44 #[Value.agg #[Value.int .i64 a.al, nx, ac]] w0 (fun v w => v = .bool (validA a) ∧ Ext w0 w) := by
  have E := Ext.refl w0
  refine Ret.of (args := [Value.agg #[Value.int .i64 a.al, nx, ac]]) Try.func44 rfl rfl rfl ?_
  rintro _ rfl
  show Cq _ _ _ _ [(0, Value.agg #[Value.int .i64 a.al, nx, ac])] _
  refine Cq.seq ?_
  refine Cq.region ?_
  refine Sq.box .plain rfl rfl (fun b1 w2 e3 hB4 hlo5 => ?_)
  have hd6 := Nat.le_trans (Below.size E) hlo5
  have hs7 := Below.size e3
  replace E := E.trans e3
  refine Sq.assign .plain rfl rfl ?_
  refine Sq.nil ?_
  refine Eq.next ?_
  refine Cq.seq ?_
  refine Cq.seq ?_
  refine Cq.region ?_
  refine Sq.fieldAddr fld27_0 .plain rfl rfl ?_
  refine Sq.loadB one3 .plain rfl rfl hB4 rfl ?_
  refine Sq.call fn79 .plain rfl rfl (isAlphabet_c _ _) ?_
  rintro _ _ ⟨rfl, rfl⟩
  refine Sq.part (fun c8 => ?_) (fun c8 => ?_)
  · refine Sq.notT .plain rfl rfl ?_
    refine Sq.move .plain rfl rfl ?_
    refine Sq.fieldAddr fld27_1 (.met rfl rfl rfl) rfl rfl ?_
    refine Sq.loadB one22 (.met rfl rfl rfl) rfl rfl hB4 rfl ?_
    refine Sq.lenRows (hnx.ext E) (.met rfl rfl rfl) rfl und22 rfl ?_
    refine Sq.lss (.met rfl rfl rfl) rfl rfl rfl ?_
    refine Sq.part (fun c9 => ?_) (fun c9 => ?_)
    · refine Sq.pickF .plain rfl rfl rfl ?_
      refine Sq.move .plain rfl rfl ?_
      refine Sq.off rfl rfl rfl rfl rfl rfl ?_
      refine Sq.off rfl rfl rfl rfl rfl rfl ?_
      refine Sq.off rfl rfl rfl rfl rfl rfl ?_
      refine Sq.off rfl rfl rfl rfl rfl rfl ?_
      refine Sq.pickT .plain rfl rfl rfl ?_
      refine Sq.move .plain rfl rfl ?_
      refine Sq.off rfl rfl rfl rfl rfl rfl ?_
      refine Sq.off rfl rfl rfl rfl rfl rfl ?_
      refine Sq.off rfl rfl rfl rfl rfl rfl ?_
      refine Sq.off rfl rfl rfl rfl rfl rfl ?_
      refine Sq.off rfl rfl rfl rfl rfl rfl ?_
      refine Sq.off rfl rfl rfl rfl rfl rfl ?_
      refine Sq.off rfl rfl rfl rfl rfl rfl ?_
      refine Sq.pickT .plain rfl rfl rfl ?_
      refine Sq.nil ?_
      refine Eq.next ?_
      refine Cq.thn rfl ?_
      refine Cq.seq ?_
      refine Cq.region ?_
      refine Sq.assign .plain rfl rfl ?_
      refine Sq.nil ?_
      refine Eq.next ?_
      refine Cq.ret ?_
      refine Eq.pastRet ?_
      refine Eq.ret1 rfl rfl ?_
      exact ⟨by first | rw [validA_al (by omega)] | rw [validA_n (by omega)] | rw [validA_acc (by omega)] | rw [validA_row (k := k.toNat) (by omega) (rowOk_len (by omega))] | rw [validA_row (k := k.toNat) (by omega) (rowOk_bad (by omega) (k := j.toNat) (by omega) (inB_F (by omega)))] | rw [validA_good (k := k.toNat) (by omega) (by omega) (by omega) hp (by omega)], E⟩
    refine Sq.pickF .plain rfl rfl rfl ?_
    refine Sq.move .plain rfl rfl ?_
    refine Sq.fieldAddr fld27_1 (.met rfl rfl rfl) rfl rfl ?_
    refine Sq.loadB one22 (.met rfl rfl rfl) rfl rfl hB4 rfl ?_
    refine Sq.lenRows (hnx.ext E) (.met rfl rfl rfl) rfl und22 rfl ?_
    refine Sq.gtr (.met rfl rfl rfl) rfl rfl rfl ?_
    refine Sq.part (fun c10 => ?_) (fun c10 => ?_)
    · refine Sq.pickF .plain rfl rfl rfl ?_
      refine Sq.move .plain rfl rfl ?_
      refine Sq.off rfl rfl rfl rfl rfl rfl ?_
      refine Sq.off rfl rfl rfl rfl rfl rfl ?_
      refine Sq.off rfl rfl rfl rfl rfl rfl ?_
      refine Sq.off rfl rfl rfl rfl rfl rfl ?_
      refine Sq.off rfl rfl rfl rfl rfl rfl ?_
      refine Sq.off rfl rfl rfl rfl rfl rfl ?_
      refine Sq.off rfl rfl rfl rfl rfl rfl ?_
      refine Sq.pickT .plain rfl rfl rfl ?_
      refine Sq.nil ?_
      refine Eq.next ?_
      refine Cq.thn rfl ?_
      refine Cq.seq ?_
      refine Cq.region ?_
      refine Sq.assign .plain rfl rfl ?_
      refine Sq.nil ?_
      refine Eq.next ?_
      refine Cq.ret ?_
      refine Eq.pastRet ?_
      refine Eq.ret1 rfl rfl ?_
      exact ⟨by first | rw [validA_al (by omega)] | rw [validA_n (by omega)] | rw [validA_acc (by omega)] | rw [validA_row (k := k.toNat) (by omega) (rowOk_len (by omega))] | rw [validA_row (k := k.toNat) (by omega) (rowOk_bad (by omega) (k := j.toNat) (by omega) (inB_F (by omega)))] | rw [validA_good (k := k.toNat) (by omega) (by omega) (by omega) hp (by omega)], E⟩
    refine Sq.pickF .plain rfl rfl rfl ?_
    refine Sq.move .plain rfl rfl ?_
    refine Sq.fieldAddr fld27_2 (.met rfl rfl rfl) rfl rfl ?_
    refine Sq.loadB one23 (.met rfl rfl rfl) rfl rfl hB4 rfl ?_
    refine Sq.lenBools (hac.ext E) (.met rfl rfl rfl) rfl und23 rfl ?_
    refine Sq.fieldAddr fld27_1 (.met rfl rfl rfl) rfl rfl ?_
    refine Sq.loadB one22 (.met rfl rfl rfl) rfl rfl hB4 rfl ?_
    refine Sq.lenRows (hnx.ext E) (.met rfl rfl rfl) rfl und22 rfl ?_
    refine Sq.neq (.met rfl rfl rfl) rfl rfl rfl ?_
    refine Sq.part (fun c11 => ?_) (fun c11 => ?_)
    · refine Sq.pickF .plain rfl rfl rfl ?_
      refine Sq.nil ?_
      refine Eq.next ?_
      refine Cq.thn rfl ?_
      refine Cq.seq ?_
      refine Cq.region ?_
      refine Sq.assign .plain rfl rfl ?_
      refine Sq.nil ?_
      refine Eq.next ?_
      refine Cq.ret ?_
      refine Eq.pastRet ?_
      refine Eq.ret1 rfl rfl ?_
      exact ⟨by first | rw [validA_al (by omega)] | rw [validA_n (by omega)] | rw [validA_acc (by omega)] | rw [validA_row (k := k.toNat) (by omega) (rowOk_len (by omega))] | rw [validA_row (k := k.toNat) (by omega) (rowOk_bad (by omega) (k := j.toNat) (by omega) (inB_F (by omega)))] | rw [validA_good (k := k.toNat) (by omega) (by omega) (by omega) hp (by omega)], E⟩
    refine Sq.pickF .plain rfl rfl rfl ?_
    refine Sq.nil ?_
    refine Eq.next ?_
    refine Cq.els rfl ?_
    refine Cq.skip ?_
    refine Eq.next ?_
    refine Cq.seq ?_
    refine Cq.region ?_
    refine Sq.fieldAddr fld27_0 .plain rfl rfl ?_
    refine Sq.loadB one3 .plain rfl rfl hB4 rfl ?_
    have hd16 := hB4.lt
    refine Sq.call fn58 .plain rfl rfl (lettersOf_c a.al (by omega) _) ?_
    rintro v12 w13 ⟨hl15, e14⟩
    have hs17 := Below.size E
    have hs18 := Below.size e14
    replace E := E.trans e14
    replace hB4 := hB4.ext e14
    refine Sq.lenInts (Own.row hl15) .plain rfl und52 rfl ?_
    refine Sq.assign .plain rfl rfl ?_
    refine Sq.nil ?_
    refine Eq.next ?_
    refine Cq.seq ?_
    refine Cq.seq ?_
    refine Cq.region ?_
    refine Sq.fieldAddr fld27_1 .plain rfl rfl ?_
    refine Sq.loadB one22 .plain rfl rfl hB4 rfl ?_
    refine Sq.lenRows (hnx.ext E) .plain rfl und22 rfl ?_
    refine Sq.move .plain rfl rfl ?_
    refine Sq.nil ?_
    refine Eq.next ?_
    refine Cq.block ?_
    refine Cq.loop (fun nn w ls => ∃ (k : Int), ls = [(1, Value.pointer (some ⟨b1, 0, none⟩)), (3, Value.int .i64 ((List.length (letters a.al) : Int))), (38, nx), (39, Value.int .i64 (List.length a.next : Int)), (40, Value.int .i64 k)] ∧ (0 ≤ k ∧ k ≤ a.next.length) ∧ (a.next.take k.toNat).all (rowOk (letters a.al).length a.next.length) = true ∧ Ext w0 w ∧ Blk w b1 27 [Value.int .i64 a.al, nx, ac] ∧ nn = ((a.next.length : Int) - k).toNat) _ _ ⟨0, rfl, by omega, rfl, E, hB4, rfl⟩ (.cons rfl (.cons rfl (.cons rfl (.cons rfl (.cons rfl (.nil)))))) ?_
    rintro nn wl1 ls ⟨k, rfl, hk, hp, E, hB4, rfl⟩
    have hs19 := Below.size E
    refine Cq.seq ?_
    refine Cq.region ?_
    refine Sq.lss .plain rfl rfl rfl ?_
    refine Sq.part (fun c20 => ?_) (fun c20 => ?_)
    · refine Sq.nil ?_
      refine Eq.next ?_
      refine Cq.seq ?_
      refine Cq.thn rfl ?_
      refine Cq.skip ?_
      refine Eq.next ?_
      refine Cq.seq ?_
      refine Cq.block ?_
      refine Cq.seq ?_
      refine Cq.region ?_
      refine Sq.idxRows sl22 one52 (hnx.ext E) .plain rfl rfl rfl .plain rfl rfl (by omega) (by omega) (fun r21 hr22 => ?_)
      refine Sq.assign .plain rfl rfl ?_
      refine Sq.nil ?_
      refine Eq.next ?_
      refine Cq.seq ?_
      refine Cq.seq ?_
      refine Cq.region ?_
      refine Sq.move .plain rfl rfl ?_
      refine Sq.lenInts hr22 .plain rfl und52 rfl ?_
      refine Sq.move .plain rfl rfl ?_
      refine Sq.neq .plain rfl rfl rfl ?_
      refine Sq.part (fun c23 => ?_) (fun c23 => ?_)
      · refine Sq.nil ?_
        refine Eq.next ?_
        refine Cq.thn rfl ?_
        refine Cq.seq ?_
        refine Cq.region ?_
        refine Sq.assign .plain rfl rfl ?_
        refine Sq.nil ?_
        refine Eq.next ?_
        refine Cq.ret ?_
        refine Eq.pastRet ?_
        refine Eq.outRet ?_
        refine Eq.pastRet ?_
        refine Eq.pastRet ?_
        refine Eq.outRet ?_
        refine Eq.pastRet ?_
        refine Eq.ret1 rfl rfl ?_
        exact ⟨by first | rw [validA_al (by omega)] | rw [validA_n (by omega)] | rw [validA_acc (by omega)] | rw [validA_row (k := k.toNat) (by omega) (rowOk_len (by omega))] | rw [validA_row (k := k.toNat) (by omega) (rowOk_bad (by omega) (k := j.toNat) (by omega) (inB_F (by omega)))] | rw [validA_good (k := k.toNat) (by omega) (by omega) (by omega) hp (by omega)], E⟩
      refine Sq.nil ?_
      refine Eq.next ?_
      refine Cq.els rfl ?_
      refine Cq.skip ?_
      refine Eq.next ?_
      refine Cq.seq ?_
      refine Cq.region ?_
      refine Sq.move .plain rfl rfl ?_
      refine Sq.lenInts hr22 .plain rfl und52 rfl ?_
      refine Sq.move .plain rfl rfl ?_
      refine Sq.nil ?_
      refine Eq.next ?_
      refine Cq.block ?_
      refine Cq.loop (fun nn w ls => ∃ (j : Int), ls = [(1, Value.pointer (some ⟨b1, 0, none⟩)), (3, Value.int .i64 ((List.length (letters a.al) : Int))), (38, nx), (39, Value.int .i64 (List.length a.next : Int)), (40, Value.int .i64 k), (48, r21), (49, Value.int .i64 ((List.length (a.next.getD k.toNat []) : Int))), (50, Value.int .i64 j)] ∧ (0 ≤ j ∧ j ≤ (a.next.getD k.toNat []).length) ∧ ((a.next.getD k.toNat []).take j.toNat).all (inB a.next.length) = true ∧ Ext w0 w ∧ Blk w b1 27 [Value.int .i64 a.al, nx, ac] ∧ Ints w 3 r21 (a.next.getD k.toNat []) ∧ nn = (((a.next.getD k.toNat []).length : Int) - j).toNat) _ _ ⟨0, rfl, by omega, rfl, E, hB4, hr22, rfl⟩ (.cons rfl (.cons rfl (.cons rfl (.cons rfl (.cons rfl (.cons rfl (.cons rfl (.cons rfl (.nil))))))))) ?_
      rintro nn wl2 ls ⟨j, rfl, hj, hq, E, hB4, hr22, rfl⟩
      have hs24 := Below.size E
      have hl6 := letters_len6 a.al
      refine Cq.seq ?_
      refine Cq.region ?_
      refine Sq.lss .plain rfl rfl rfl ?_
      refine Sq.part (fun c25 => ?_) (fun c25 => ?_)
      · refine Sq.nil ?_
        refine Eq.next ?_
        refine Cq.seq ?_
        refine Cq.thn rfl ?_
        refine Cq.skip ?_
        refine Eq.next ?_
        refine Cq.seq ?_
        refine Cq.block ?_
        refine Cq.seq ?_
        refine Cq.region ?_
        refine Sq.idxInts sl52 one3 hr22 .plain rfl rfl rfl .plain rfl rfl (by omega) (by omega) ?_
        refine Sq.assign .plain rfl rfl ?_
        refine Sq.nil ?_
        refine Eq.next ?_
        refine Cq.seq ?_
        refine Cq.region ?_
        refine Sq.move .plain rfl rfl ?_
        refine Sq.lss .plain rfl rfl rfl ?_
        refine Sq.part (fun c26 => ?_) (fun c26 => ?_)
        · refine Sq.move .plain rfl rfl ?_
          refine Sq.off rfl rfl rfl rfl rfl rfl ?_
          refine Sq.off rfl rfl rfl rfl rfl rfl ?_
          refine Sq.off rfl rfl rfl rfl rfl rfl ?_
          refine Sq.off rfl rfl rfl rfl rfl rfl ?_
          refine Sq.off rfl rfl rfl rfl rfl rfl ?_
          refine Sq.pickT .plain rfl rfl rfl ?_
          refine Sq.nil ?_
          refine Eq.next ?_
          refine Cq.thn rfl ?_
          refine Cq.seq ?_
          refine Cq.region ?_
          refine Sq.assign .plain rfl rfl ?_
          refine Sq.nil ?_
          refine Eq.next ?_
          refine Cq.ret ?_
          refine Eq.outRet ?_
          refine Eq.pastRet ?_
          refine Eq.pastRet ?_
          refine Eq.outRet ?_
          refine Eq.outRet ?_
          refine Eq.pastRet ?_
          refine Eq.pastRet ?_
          refine Eq.outRet ?_
          refine Eq.pastRet ?_
          refine Eq.ret1 rfl rfl ?_
          exact ⟨by first | rw [validA_al (by omega)] | rw [validA_n (by omega)] | rw [validA_acc (by omega)] | rw [validA_row (k := k.toNat) (by omega) (rowOk_len (by omega))] | rw [validA_row (k := k.toNat) (by omega) (rowOk_bad (by omega) (k := j.toNat) (by omega) (inB_F (by omega)))] | rw [validA_good (k := k.toNat) (by omega) (by omega) (by omega) hp (by omega)], E⟩
        refine Sq.move .plain rfl rfl ?_
        refine Sq.move (.met rfl rfl rfl) rfl rfl ?_
        refine Sq.fieldAddr fld27_1 (.met rfl rfl rfl) rfl rfl ?_
        refine Sq.loadB one22 (.met rfl rfl rfl) rfl rfl hB4 rfl ?_
        refine Sq.lenRows (hnx.ext E) (.met rfl rfl rfl) rfl und22 rfl ?_
        refine Sq.geq (.met rfl rfl rfl) rfl rfl rfl ?_
        refine Sq.part (fun c27 => ?_) (fun c27 => ?_)
        · refine Sq.pickF .plain rfl rfl rfl ?_
          refine Sq.nil ?_
          refine Eq.next ?_
          refine Cq.thn rfl ?_
          refine Cq.seq ?_
          refine Cq.region ?_
          refine Sq.assign .plain rfl rfl ?_
          refine Sq.nil ?_
          refine Eq.next ?_
          refine Cq.ret ?_
          refine Eq.outRet ?_
          refine Eq.pastRet ?_
          refine Eq.pastRet ?_
          refine Eq.outRet ?_
          refine Eq.outRet ?_
          refine Eq.pastRet ?_
          refine Eq.pastRet ?_
          refine Eq.outRet ?_
          refine Eq.pastRet ?_
          refine Eq.ret1 rfl rfl ?_
          exact ⟨by first | rw [validA_al (by omega)] | rw [validA_n (by omega)] | rw [validA_acc (by omega)] | rw [validA_row (k := k.toNat) (by omega) (rowOk_len (by omega))] | rw [validA_row (k := k.toNat) (by omega) (rowOk_bad (by omega) (k := j.toNat) (by omega) (inB_F (by omega)))] | rw [validA_good (k := k.toNat) (by omega) (by omega) (by omega) hp (by omega)], E⟩
        refine Sq.pickF .plain rfl rfl rfl ?_
        refine Sq.nil ?_
        refine Eq.next ?_
        refine Cq.els rfl ?_
        refine Cq.skip ?_
        refine Eq.end ?_
        refine Eq.next ?_
        refine Cq.region ?_
        refine Sq.add .plain rfl rfl rfl (by omega) ?_
        refine Sq.move .plain rfl rfl ?_
        refine Sq.nil ?_
        have e2 := toNat_succ hj.1
        refine Eq.round _ _ ⟨j + 1, rfl, by omega, by rw [e2]; exact all_snoc (d := 0) hq (by omega) (inB_T (by omega)), E, hB4, hr22, rfl⟩ (by omega) (.cons rfl (.cons rfl (.cons rfl (.cons rfl (.cons rfl (.cons rfl (.cons rfl (.cons rfl (.nil)))))))))
      refine Sq.nil ?_
      refine Eq.next ?_
      refine Cq.seq ?_
      refine Cq.els rfl ?_
      refine Cq.exit ?_
      refine Eq.past ?_
      refine Eq.past ?_
      refine Eq.hit ?_
      refine Eq.end ?_
      refine Eq.next ?_
      refine Cq.region ?_
      refine Sq.add .plain rfl rfl rfl (by omega) ?_
      refine Sq.move .plain rfl rfl ?_
      refine Sq.nil ?_
      have e1 := toNat_succ hk.1
      refine Eq.round _ _ ⟨k + 1, rfl, by omega, by rw [e1]; exact all_snoc (d := []) hp (by omega) (rowOk_good (by omega) hq (by omega)), E, hB4, rfl⟩ (by omega) (.cons rfl (.cons rfl (.cons rfl (.cons rfl (.cons rfl (.nil))))))
    refine Sq.nil ?_
    refine Eq.next ?_
    refine Cq.seq ?_
    refine Cq.els rfl ?_
    refine Cq.exit ?_
    refine Eq.past ?_
    refine Eq.past ?_
    refine Eq.hit ?_
    refine Eq.next ?_
    refine Cq.seq ?_
    refine Cq.region ?_
    refine Sq.assign .plain rfl rfl ?_
    refine Sq.nil ?_
    refine Eq.next ?_
    refine Cq.ret ?_
    refine Eq.ret1 rfl rfl ?_
    exact ⟨by first | rw [validA_al (by omega)] | rw [validA_n (by omega)] | rw [validA_acc (by omega)] | rw [validA_row (k := k.toNat) (by omega) (rowOk_len (by omega))] | rw [validA_row (k := k.toNat) (by omega) (rowOk_bad (by omega) (k := j.toNat) (by omega) (inB_F (by omega)))] | rw [validA_good (k := k.toNat) (by omega) (by omega) (by omega) hp (by omega)], E⟩
  refine Sq.notF .plain rfl rfl ?_
  refine Sq.move .plain rfl rfl ?_
  refine Sq.off rfl rfl rfl rfl rfl rfl ?_
  refine Sq.off rfl rfl rfl rfl rfl rfl ?_
  refine Sq.off rfl rfl rfl rfl rfl rfl ?_
  refine Sq.off rfl rfl rfl rfl rfl rfl ?_
  refine Sq.pickT .plain rfl rfl rfl ?_
  refine Sq.move .plain rfl rfl ?_
  refine Sq.off rfl rfl rfl rfl rfl rfl ?_
  refine Sq.off rfl rfl rfl rfl rfl rfl ?_
  refine Sq.off rfl rfl rfl rfl rfl rfl ?_
  refine Sq.off rfl rfl rfl rfl rfl rfl ?_
  refine Sq.pickT .plain rfl rfl rfl ?_
  refine Sq.move .plain rfl rfl ?_
  refine Sq.off rfl rfl rfl rfl rfl rfl ?_
  refine Sq.off rfl rfl rfl rfl rfl rfl ?_
  refine Sq.off rfl rfl rfl rfl rfl rfl ?_
  refine Sq.off rfl rfl rfl rfl rfl rfl ?_
  refine Sq.off rfl rfl rfl rfl rfl rfl ?_
  refine Sq.off rfl rfl rfl rfl rfl rfl ?_
  refine Sq.off rfl rfl rfl rfl rfl rfl ?_
  refine Sq.pickT .plain rfl rfl rfl ?_
  refine Sq.nil ?_
  refine Eq.next ?_
  refine Cq.thn rfl ?_
  refine Cq.seq ?_
  refine Cq.region ?_
  refine Sq.assign .plain rfl rfl ?_
  refine Sq.nil ?_
  refine Eq.next ?_
  refine Cq.ret ?_
  refine Eq.pastRet ?_
  refine Eq.ret1 rfl rfl ?_
  exact ⟨by first | rw [validA_al (by omega)] | rw [validA_n (by omega)] | rw [validA_acc (by omega)] | rw [validA_row (k := k.toNat) (by omega) (rowOk_len (by omega))] | rw [validA_row (k := k.toNat) (by omega) (rowOk_bad (by omega) (k := j.toNat) (by omega) (inB_F (by omega)))] | rw [validA_good (k := k.toNat) (by omega) (by omega) (by omega) hp (by omega)], E⟩
end Go.Proofs.Ytdkdpmmfebdeaaa
set_option linter.unusedSimpArgs false
set_option linter.unusedVariables false
namespace Go.Proofs.Ytdkdpmmfebdeaaa
set_option maxRecDepth 100000
theorem slw56 : SlW Try.prog 56 55 (.agg #[.int .i64 0, .int .i64 0]) 2 := ⟨by kernel_rfl, ⟨_, rfl, by kernel_rfl, by kernel_rfl, by decide⟩, by kernel_rfl, by decide⟩
theorem slw67 : SlW Try.prog 67 27 (.agg #[.int .i64 0, .slice none 0 0, .slice none 0 0]) 3 := ⟨by kernel_rfl, ⟨_, rfl, by kernel_rfl, by kernel_rfl, by decide⟩, by kernel_rfl, by decide⟩
theorem key82 : KeyT Try.prog 82 encI := keyI (kt := 3) (et := 3) (by kernel_rfl) (by kernel_rfl) zero3
theorem slw104 : SlW Try.prog 104 106 (.agg #[.int .i64 0, .int .i64 0, .slice none 0 0]) 3 := ⟨by kernel_rfl, ⟨_, rfl, by kernel_rfl, by kernel_rfl, by decide⟩, by kernel_rfl, by decide⟩
end Go.Proofs.Ytdkdpmmfebdeaaa
set_option linter.unusedSimpArgs false
set_option linter.unusedVariables false
namespace Go.Proofs.Ytdkdpmmfebdeaaa
open Go.RowKit
set_option maxRecDepth 100000 in
theorem markI_c (w0 : World) (B : Nat) (r : Value) (xs : List Int) (k : Int) (ho : Own w0 B 3 r (xs.map (Value.int .i64))) (hl : xs.length ≤ 1048576) (hk : 0 ≤ k ∧ k ≤ 4611686018427387904) : Ret Try.prog 82 #[r, Value.int .i64 k] w0 (fun v w => v = .int .i64 (k + xs.length) ∧ Own w B 3 r ((upI k xs.length).map (Value.int .i64)) ∧ w0.grownBy w r.ownBlock) := by
  have hgo := World.grownBy.refl w0 r.ownBlock
  refine Ret.of (args := [r, Value.int .i64 k]) Try.func82 rfl rfl rfl ?_
  rintro _ rfl
  show Cq _ _ _ _ [(0, r), (1, Value.int .i64 k)] _
  refine Cq.seq ?_
  refine Cq.region ?_
  refine Sq.assign .plain rfl rfl ?_
  refine Sq.nil ?_
  refine Eq.next ?_
  refine Cq.seq ?_
  refine Cq.seq ?_
  refine Cq.region ?_
  refine Sq.assign .plain rfl rfl ?_
  refine Sq.nil ?_
  refine Eq.next ?_
  refine Cq.block ?_
  refine Cq.loop (fun nn w ls => ∃ (i : Int), ∃ (p : Int), ls = [(0, r), (1, Value.int .i64 p), (5, Value.int .i64 i)] ∧ (0 ≤ i ∧ i ≤ xs.length) ∧ p = k + i ∧ Own w B 3 r ((upTo k xs i.toNat).map (Value.int .i64)) ∧ World.grownBy w0 w r.ownBlock ∧ nn = ((xs.length : Int) - i).toNat) _ _ ⟨0, _, rfl, by omega, by omega, by rw [show (0 : Int).toNat = 0 from rfl, upTo_zero]; exact ho, hgo, rfl⟩ (.cons rfl (.cons rfl (.cons rfl (.nil)))) ?_
  rintro nn wl1 ls ⟨i, p, rfl, hi, hp, ho, hgo, rfl⟩
  have hul := upTo_length k xs i.toNat
  refine Cq.seq ?_
  refine Cq.seq ?_
  refine Cq.region ?_
  refine Sq.move .plain rfl rfl ?_
  refine Sq.move .plain rfl rfl ?_
  refine Sq.lenInts (Own.row ho) .plain rfl und52 rfl ?_
  refine Sq.lss .plain rfl rfl rfl ?_
  refine Sq.part (fun c1 => ?_) (fun c1 => ?_)
  · refine Sq.nil ?_
    refine Eq.next ?_
    refine Cq.thn rfl ?_
    refine Cq.skip ?_
    refine Eq.next ?_
    refine Cq.seq ?_
    refine Cq.block ?_
    refine Cq.seq ?_
    refine Cq.region ?_
    refine Sq.move .plain rfl rfl ?_
    refine Sq.move .plain rfl rfl ?_
    refine Sq.move .plain rfl rfl ?_
    obtain ⟨p2, hp3o⟩ := Own.at ho (i := i) (by omega) (by first | (simp only [List.length_map]; omega) | (simp; omega))
    refine Sq.atO sl52 hp3o .plain rfl rfl rfl ?_
    refine Sq.storeO one3 ho hp3o .plain rfl rfl rfl (fun w4 g5 ho6 => ?_)
    have hs7 := World.grownBy.size g5
    replace hgo := grown_trans hgo g5
    replace ho := ho6
    refine Sq.nil ?_
    refine Eq.next ?_
    refine Cq.region ?_
    refine Sq.move .plain rfl rfl ?_
    refine Sq.add .plain rfl rfl rfl (by omega) ?_
    refine Sq.assign .plain rfl rfl ?_
    refine Sq.nil ?_
    refine Eq.end ?_
    refine Eq.next ?_
    refine Cq.region ?_
    refine Sq.move .plain rfl rfl ?_
    refine Sq.add .plain rfl rfl rfl (by omega) ?_
    refine Sq.assign .plain rfl rfl ?_
    refine Sq.nil ?_
    have e1 := toNat_succ hi.1
    have e3 : ((i.toNat : Nat) : Int) = i := Int.toNat_of_nonneg hi.1
    refine Eq.round _ _ ⟨i + 1, _, rfl, by omega, by omega, by rw [e1, ← upTo_step (by omega), List.map_set, e3, ← hp]; exact ho, hgo, rfl⟩ (by omega) (.cons rfl (.cons rfl (.cons rfl (.nil))))
  refine Sq.nil ?_
  refine Eq.next ?_
  refine Cq.els rfl ?_
  refine Cq.exit ?_
  refine Eq.past ?_
  refine Eq.past ?_
  refine Eq.hit ?_
  refine Eq.next ?_
  refine Cq.seq ?_
  refine Cq.region ?_
  refine Sq.move .plain rfl rfl ?_
  refine Sq.assign .plain rfl rfl ?_
  refine Sq.nil ?_
  refine Eq.next ?_
  refine Cq.ret ?_
  refine Eq.ret1 rfl rfl ?_
  rw [upTo_all (by omega)] at ho
  exact ⟨by rw [hp, show i = xs.length by omega], ho, hgo⟩
set_option maxRecDepth 100000 in
theorem markB_c (w0 : World) (B : Nat) (r : Value) (xs : List Bool) (k : Int) (ho : Own w0 B 4 r (xs.map (Value.bool))) (hl : xs.length ≤ 1048576) (hk : 0 ≤ k ∧ k ≤ 4611686018427387904) : Ret Try.prog 49 #[r, Value.int .i64 k] w0 (fun v w => v = .int .i64 (k + xs.length) ∧ Own w B 4 r ((upB k xs.length).map (Value.bool)) ∧ w0.grownBy w r.ownBlock) := by
  have hgo := World.grownBy.refl w0 r.ownBlock
  refine Ret.of (args := [r, Value.int .i64 k]) Try.func49 rfl rfl rfl ?_
  rintro _ rfl
  show Cq _ _ _ _ [(0, r), (1, Value.int .i64 k)] _
  refine Cq.seq ?_
  refine Cq.region ?_
  refine Sq.assign .plain rfl rfl ?_
  refine Sq.nil ?_
  refine Eq.next ?_
  refine Cq.seq ?_
  refine Cq.seq ?_
  refine Cq.region ?_
  refine Sq.assign .plain rfl rfl ?_
  refine Sq.nil ?_
  refine Eq.next ?_
  refine Cq.block ?_
  refine Cq.loop (fun nn w ls => ∃ (i : Int), ∃ (p : Int), ls = [(0, r), (1, Value.int .i64 p), (5, Value.int .i64 i)] ∧ (0 ≤ i ∧ i ≤ xs.length) ∧ p = k + i ∧ Own w B 4 r ((upBTo k xs i.toNat).map (Value.bool)) ∧ World.grownBy w0 w r.ownBlock ∧ nn = ((xs.length : Int) - i).toNat) _ _ ⟨0, _, rfl, by omega, by omega, by rw [show (0 : Int).toNat = 0 from rfl, upBTo_zero]; exact ho, hgo, rfl⟩ (.cons rfl (.cons rfl (.cons rfl (.nil)))) ?_
  rintro nn wl1 ls ⟨i, p, rfl, hi, hp, ho, hgo, rfl⟩
  have hul := upBTo_length k xs i.toNat
  refine Cq.seq ?_
  refine Cq.seq ?_
  refine Cq.region ?_
  refine Sq.move .plain rfl rfl ?_
  refine Sq.move .plain rfl rfl ?_
  refine Sq.lenBools (Own.row ho) .plain rfl und23 rfl ?_
  refine Sq.lss .plain rfl rfl rfl ?_
  refine Sq.part (fun c1 => ?_) (fun c1 => ?_)
  · refine Sq.nil ?_
    refine Eq.next ?_
    refine Cq.thn rfl ?_
    refine Cq.skip ?_
    refine Eq.next ?_
    refine Cq.seq ?_
    refine Cq.block ?_
    refine Cq.seq ?_
    refine Cq.region ?_
    refine Sq.move .plain rfl rfl ?_
    refine Sq.move .plain rfl rfl ?_
    refine Sq.move .plain rfl rfl ?_
    refine Sq.rem .plain rfl rfl rfl (by omega) ?_
    refine Sq.eql .plain rfl rfl rfl ?_
    obtain ⟨p2, hp3o⟩ := Own.at ho (i := i) (by omega) (by first | (simp only [List.length_map]; omega) | (simp; omega))
    refine Sq.atO sl23 hp3o .plain rfl rfl rfl ?_
    refine Sq.storeO one4 ho hp3o .plain rfl rfl rfl (fun w4 g5 ho6 => ?_)
    have hs7 := World.grownBy.size g5
    replace hgo := grown_trans hgo g5
    replace ho := ho6
    refine Sq.nil ?_
    refine Eq.next ?_
    refine Cq.region ?_
    refine Sq.move .plain rfl rfl ?_
    refine Sq.add .plain rfl rfl rfl (by omega) ?_
    refine Sq.assign .plain rfl rfl ?_
    refine Sq.nil ?_
    refine Eq.end ?_
    refine Eq.next ?_
    refine Cq.region ?_
    refine Sq.move .plain rfl rfl ?_
    refine Sq.add .plain rfl rfl rfl (by omega) ?_
    refine Sq.assign .plain rfl rfl ?_
    refine Sq.nil ?_
    have e1 := toNat_succ hi.1
    have e3 : ((i.toNat : Nat) : Int) = i := Int.toNat_of_nonneg hi.1
    refine Eq.round _ _ ⟨i + 1, _, rfl, by omega, by omega, by rw [e1, ← upBTo_step (by omega), List.map_set, e3, ← hp]; exact ho, hgo, rfl⟩ (by omega) (.cons rfl (.cons rfl (.cons rfl (.nil))))
  refine Sq.nil ?_
  refine Eq.next ?_
  refine Cq.els rfl ?_
  refine Cq.exit ?_
  refine Eq.past ?_
  refine Eq.past ?_
  refine Eq.hit ?_
  refine Eq.next ?_
  refine Cq.seq ?_
  refine Cq.region ?_
  refine Sq.move .plain rfl rfl ?_
  refine Sq.assign .plain rfl rfl ?_
  refine Sq.nil ?_
  refine Eq.next ?_
  refine Cq.ret ?_
  refine Eq.ret1 rfl rfl ?_
  rw [upBTo_all (by omega)] at ho
  exact ⟨by rw [hp, show i = xs.length by omega], ho, hgo⟩
set_option maxRecDepth 100000 in
theorem heldI_c (w0 : World) (r : Value) (k : Int) (n : Nat) (hr : Ints w0 3 r (upI k n)) (hl : n ≤ 1048576) (hk : 0 ≤ k ∧ k ≤ 4611686018427387904) : Ret Try.prog 83 #[r, Value.int .i64 k] w0 (fun v w => v = .int .i64 (k + n) ∧ Ext w0 w) := by
  have E := Ext.refl w0
  refine Ret.of (args := [r, Value.int .i64 k]) Try.func83 rfl rfl rfl ?_
  rintro _ rfl
  show Cq _ _ _ _ [(0, r), (1, Value.int .i64 k)] _
  refine Cq.seq ?_
  refine Cq.region ?_
  refine Sq.assign .plain rfl rfl ?_
  refine Sq.nil ?_
  refine Eq.next ?_
  refine Cq.seq ?_
  refine Cq.seq ?_
  refine Cq.region ?_
  refine Sq.assign .plain rfl rfl ?_
  refine Sq.nil ?_
  refine Eq.next ?_
  refine Cq.block ?_
  refine Cq.loop (fun nn w ls => ∃ (i : Int), ∃ (p : Int), ls = [(0, r), (1, Value.int .i64 p), (5, Value.int .i64 i)] ∧ (0 ≤ i ∧ i ≤ n) ∧ p = k + i ∧ Ext w0 w ∧ nn = ((n : Int) - i).toNat) _ _ ⟨0, _, rfl, by omega, by omega, E, rfl⟩ (.cons rfl (.cons rfl (.cons rfl (.nil)))) ?_
  rintro nn wl1 ls ⟨i, p, rfl, hi, hp, E, rfl⟩
  have hs1 := Below.size E
  have hul := upI_length k n
  have hat := upI_at (k := k) (n := n) (i := i.toNat)
  have e3 : ((i.toNat : Nat) : Int) = i := Int.toNat_of_nonneg hi.1
  refine Cq.seq ?_
  refine Cq.seq ?_
  refine Cq.region ?_
  refine Sq.move .plain rfl rfl ?_
  refine Sq.move .plain rfl rfl ?_
  refine Sq.lenInts (hr.ext E) .plain rfl und52 rfl ?_
  refine Sq.lss .plain rfl rfl rfl ?_
  refine Sq.part (fun c2 => ?_) (fun c2 => ?_)
  · refine Sq.nil ?_
    refine Eq.next ?_
    refine Cq.thn rfl ?_
    refine Cq.skip ?_
    refine Eq.next ?_
    refine Cq.seq ?_
    refine Cq.block ?_
    refine Cq.seq ?_
    refine Cq.seq ?_
    refine Cq.region ?_
    refine Sq.move .plain rfl rfl ?_
    refine Sq.move .plain rfl rfl ?_
    refine Sq.idxInts sl52 one3 (hr.ext E) .plain rfl rfl rfl .plain rfl rfl (by omega) (by omega) ?_
    refine Sq.move .plain rfl rfl ?_
    refine Sq.neq .plain rfl rfl rfl ?_
    refine Sq.isF (by rw [hat (by omega), e3, hp]; exact fun h => h rfl) ?_
    refine Sq.nil ?_
    refine Eq.next ?_
    refine Cq.els rfl ?_
    refine Cq.skip ?_
    refine Eq.next ?_
    refine Cq.region ?_
    refine Sq.move .plain rfl rfl ?_
    refine Sq.add .plain rfl rfl rfl (by omega) ?_
    refine Sq.assign .plain rfl rfl ?_
    refine Sq.nil ?_
    refine Eq.end ?_
    refine Eq.next ?_
    refine Cq.region ?_
    refine Sq.move .plain rfl rfl ?_
    refine Sq.add .plain rfl rfl rfl (by omega) ?_
    refine Sq.assign .plain rfl rfl ?_
    refine Sq.nil ?_
    refine Eq.round _ _ ⟨i + 1, _, rfl, by omega, by omega, E, rfl⟩ (by omega) (.cons rfl (.cons rfl (.cons rfl (.nil))))
  refine Sq.nil ?_
  refine Eq.next ?_
  refine Cq.els rfl ?_
  refine Cq.exit ?_
  refine Eq.past ?_
  refine Eq.past ?_
  refine Eq.hit ?_
  refine Eq.next ?_
  refine Cq.seq ?_
  refine Cq.region ?_
  refine Sq.move .plain rfl rfl ?_
  refine Sq.assign .plain rfl rfl ?_
  refine Sq.nil ?_
  refine Eq.next ?_
  refine Cq.ret ?_
  refine Eq.ret1 rfl rfl ?_
  exact ⟨by rw [hp, show i = n by omega], E⟩
set_option maxRecDepth 100000 in
theorem heldB_c (w0 : World) (r : Value) (k : Int) (n : Nat) (hr : Bools w0 4 r (upB k n)) (hl : n ≤ 1048576) (hk : 0 ≤ k ∧ k ≤ 4611686018427387904) : Ret Try.prog 51 #[r, Value.int .i64 k] w0 (fun v w => v = .int .i64 (k + n) ∧ Ext w0 w) := by
  have E := Ext.refl w0
  refine Ret.of (args := [r, Value.int .i64 k]) Try.func51 rfl rfl rfl ?_
  rintro _ rfl
  show Cq _ _ _ _ [(0, r), (1, Value.int .i64 k)] _
  refine Cq.seq ?_
  refine Cq.region ?_
  refine Sq.assign .plain rfl rfl ?_
  refine Sq.nil ?_
  refine Eq.next ?_
  refine Cq.seq ?_
  refine Cq.seq ?_
  refine Cq.region ?_
  refine Sq.assign .plain rfl rfl ?_
  refine Sq.nil ?_
  refine Eq.next ?_
  refine Cq.block ?_
  refine Cq.loop (fun nn w ls => ∃ (i : Int), ∃ (p : Int), ls = [(0, r), (1, Value.int .i64 p), (5, Value.int .i64 i)] ∧ (0 ≤ i ∧ i ≤ n) ∧ p = k + i ∧ Ext w0 w ∧ nn = ((n : Int) - i).toNat) _ _ ⟨0, _, rfl, by omega, by omega, E, rfl⟩ (.cons rfl (.cons rfl (.cons rfl (.nil)))) ?_
  rintro nn wl1 ls ⟨i, p, rfl, hi, hp, E, rfl⟩
  have hs1 := Below.size E
  have hul := upB_length k n
  have hat := upB_at (k := k) (n := n) (i := i.toNat)
  have e3 : ((i.toNat : Nat) : Int) = i := Int.toNat_of_nonneg hi.1
  refine Cq.seq ?_
  refine Cq.seq ?_
  refine Cq.region ?_
  refine Sq.move .plain rfl rfl ?_
  refine Sq.move .plain rfl rfl ?_
  refine Sq.lenBools (hr.ext E) .plain rfl und23 rfl ?_
  refine Sq.lss .plain rfl rfl rfl ?_
  refine Sq.part (fun c2 => ?_) (fun c2 => ?_)
  · refine Sq.nil ?_
    refine Eq.next ?_
    refine Cq.thn rfl ?_
    refine Cq.skip ?_
    refine Eq.next ?_
    refine Cq.seq ?_
    refine Cq.block ?_
    refine Cq.seq ?_
    refine Cq.seq ?_
    refine Cq.region ?_
    refine Sq.move .plain rfl rfl ?_
    refine Sq.move .plain rfl rfl ?_
    refine Sq.idxBools sl23 one4 (hr.ext E) .plain rfl rfl rfl .plain rfl rfl (by omega) (by omega) ?_
    refine Sq.move .plain rfl rfl ?_
    refine Sq.rem .plain rfl rfl rfl (by omega) ?_
    refine Sq.eql .plain rfl rfl rfl ?_
    refine Sq.neqB und4 .plain rfl rfl rfl ?_
    refine Sq.beF (by rw [hat (by omega), e3, hp]; simp) ?_
    refine Sq.nil ?_
    refine Eq.next ?_
    refine Cq.els rfl ?_
    refine Cq.skip ?_
    refine Eq.next ?_
    refine Cq.region ?_
    refine Sq.move .plain rfl rfl ?_
    refine Sq.add .plain rfl rfl rfl (by omega) ?_
    refine Sq.assign .plain rfl rfl ?_
    refine Sq.nil ?_
    refine Eq.end ?_
    refine Eq.next ?_
    refine Cq.region ?_
    refine Sq.move .plain rfl rfl ?_
    refine Sq.add .plain rfl rfl rfl (by omega) ?_
    refine Sq.assign .plain rfl rfl ?_
    refine Sq.nil ?_
    refine Eq.round _ _ ⟨i + 1, _, rfl, by omega, by omega, E, rfl⟩ (by omega) (.cons rfl (.cons rfl (.cons rfl (.nil))))
  refine Sq.nil ?_
  refine Eq.next ?_
  refine Cq.els rfl ?_
  refine Cq.exit ?_
  refine Eq.past ?_
  refine Eq.past ?_
  refine Eq.hit ?_
  refine Eq.next ?_
  refine Cq.seq ?_
  refine Cq.region ?_
  refine Sq.move .plain rfl rfl ?_
  refine Sq.assign .plain rfl rfl ?_
  refine Sq.nil ?_
  refine Eq.next ?_
  refine Cq.ret ?_
  refine Eq.ret1 rfl rfl ?_
  exact ⟨by rw [hp, show i = n by omega], E⟩
set_option maxRecDepth 100000 in
theorem markSS_c (w0 : World) (B U : Nat) (r : Value) (xss : List (List Int)) (k : Int) (hor : OwnRows w0 B U 52 3 r xss) (hx : xss.length ≤ 1048576) (hxx : ∀ r ∈ xss, r.length ≤ 1048576) (hk : 0 ≤ k ∧ k ≤ 2305843009213693952) : Ret Try.prog 48 #[r, Value.int .i64 k] w0 (fun v w => v = .int .i64 (k + sumR xss) ∧ OwnRows w B U 52 3 r (markR xss k) ∧ Wrote w0 w B U ∧ KeepT w0 w 3) := by
  have hwr := Wrote.refl w0 B U
  have hkp := KeepT.refl w0 3
  refine Ret.of (args := [r, Value.int .i64 k]) Try.func48 rfl rfl rfl ?_
  rintro _ rfl
  show Cq _ _ _ _ [(0, r), (1, Value.int .i64 k)] _
  refine Cq.seq ?_
  refine Cq.region ?_
  refine Sq.assign .plain rfl rfl ?_
  refine Sq.nil ?_
  refine Eq.next ?_
  refine Cq.seq ?_
  refine Cq.seq ?_
  refine Cq.region ?_
  refine Sq.assign .plain rfl rfl ?_
  refine Sq.nil ?_
  refine Eq.next ?_
  refine Cq.block ?_
  refine Cq.loop (fun nn w ls => ∃ (i : Int), ∃ (p : Int), ls = [(0, r), (1, Value.int .i64 p), (5, Value.int .i64 i)] ∧ (0 ≤ i ∧ i ≤ xss.length) ∧ p = k + offR xss i.toNat ∧ OwnRows w B U 52 3 r (rowsTo xss k i.toNat) ∧ Wrote w0 w B U ∧ KeepT w0 w 3 ∧ nn = ((xss.length : Int) - i).toNat) _ _ ⟨0, _, rfl, by omega, by simp [offR], by rw [show (0 : Int).toNat = 0 from rfl, rowsTo_zero]; exact hor, hwr, hkp, rfl⟩ (.cons rfl (.cons rfl (.cons rfl (.nil)))) ?_
  rintro nn wl1 ls ⟨i, p, rfl, hi, hp, hor, hwr, hkp, rfl⟩
  have hul := rowsTo_length xss k i.toNat
  refine Cq.seq ?_
  refine Cq.seq ?_
  refine Cq.region ?_
  refine Sq.move .plain rfl rfl ?_
  refine Sq.move .plain rfl rfl ?_
  refine Sq.lenRows (OwnRows.rows hor) .plain rfl und22 rfl ?_
  refine Sq.lss .plain rfl rfl rfl ?_
  refine Sq.part (fun c1 => ?_) (fun c1 => ?_)
  · refine Sq.nil ?_
    refine Eq.next ?_
    refine Cq.thn rfl ?_
    refine Cq.skip ?_
    refine Eq.next ?_
    refine Cq.seq ?_
    refine Cq.block ?_
    refine Cq.region ?_
    refine Sq.move .plain rfl rfl ?_
    refine Sq.move .plain rfl rfl ?_
    obtain ⟨pA, rA, hpA, _⟩ := Rows.at (OwnRows.rows hor) (i := i) (by omega) (by rw [rowsTo_length]; omega)
    refine Sq.val .plain rfl rfl (Still.at' sl22 hpA rfl rfl) ?_
    refine Sq.val .plain rfl rfl (Still.loadA one52 rfl hpA.1) ?_
    refine Sq.move .plain rfl rfl ?_
    have hrA := (OwnRows.rowAt hor hpA).1
    have hltA := OwnRows.rowLt hor hpA
    rw [rowsTo_at (by omega)] at hrA
    have hof := offR_le hxx i.toNat
    have hof0 := offR_nonneg xss i.toNat
    refine Sq.call fn82 .plain rfl rfl (markI_c _ B rA (xss.getD i.toNat []) p hrA (hxx _ (getD_mem (by omega))) (by omega)) ?_
    rintro _ w2 ⟨rfl, hr3, g4⟩
    have hkp := KeepT.next hkp hrA g4
    replace hor := (OwnRows.set hor (by decide) hpA hr3 g4).1
    replace hwr := hwr.trans (Wrote.of g4 hltA)
    refine Sq.assign .plain rfl rfl ?_
    refine Sq.nil ?_
    refine Eq.end ?_
    refine Eq.next ?_
    refine Cq.region ?_
    refine Sq.move .plain rfl rfl ?_
    refine Sq.add .plain rfl rfl rfl (by omega) ?_
    refine Sq.assign .plain rfl rfl ?_
    refine Sq.nil ?_
    have e1 := toNat_succ hi.1
    refine Eq.round _ _ ⟨i + 1, _, rfl, by omega, by rw [e1, offR, hp]; omega, by rw [e1, ← rowsTo_step (by omega), ← hp]; exact hor, hwr, hkp, rfl⟩ (by omega) (.cons rfl (.cons rfl (.cons rfl (.nil))))
  refine Sq.nil ?_
  refine Eq.next ?_
  refine Cq.els rfl ?_
  refine Cq.exit ?_
  refine Eq.past ?_
  refine Eq.past ?_
  refine Eq.hit ?_
  refine Eq.next ?_
  refine Cq.seq ?_
  refine Cq.region ?_
  refine Sq.move .plain rfl rfl ?_
  refine Sq.assign .plain rfl rfl ?_
  refine Sq.nil ?_
  refine Eq.next ?_
  refine Cq.ret ?_
  refine Eq.ret1 rfl rfl ?_
  rw [rowsTo_all (by omega)] at hor
  exact ⟨by rw [hp, show i.toNat = xss.length by omega]; rfl, hor, hwr, hkp⟩
set_option maxRecDepth 100000 in
theorem heldSS_c (w0 : World) (r : Value) (xss : List (List Int)) (k : Int) (hr : Rows w0 52 3 r (markR xss k)) (hx : xss.length ≤ 1048576) (hxx : ∀ r ∈ xss, r.length ≤ 1048576) (hk : 0 ≤ k ∧ k ≤ 2305843009213693952) : Ret Try.prog 50 #[r, Value.int .i64 k] w0 (fun v w => v = .int .i64 (k + sumR xss) ∧ Ext w0 w) := by
  have E := Ext.refl w0
  refine Ret.of (args := [r, Value.int .i64 k]) Try.func50 rfl rfl rfl ?_
  rintro _ rfl
  show Cq _ _ _ _ [(0, r), (1, Value.int .i64 k)] _
  refine Cq.seq ?_
  refine Cq.region ?_
  refine Sq.assign .plain rfl rfl ?_
  refine Sq.nil ?_
  refine Eq.next ?_
  refine Cq.seq ?_
  refine Cq.seq ?_
  refine Cq.region ?_
  refine Sq.assign .plain rfl rfl ?_
  refine Sq.nil ?_
  refine Eq.next ?_
  refine Cq.block ?_
  refine Cq.loop (fun nn w ls => ∃ (i : Int), ∃ (p : Int), ls = [(0, r), (1, Value.int .i64 p), (5, Value.int .i64 i)] ∧ (0 ≤ i ∧ i ≤ xss.length) ∧ p = k + offR xss i.toNat ∧ Ext w0 w ∧ nn = ((xss.length : Int) - i).toNat) _ _ ⟨0, _, rfl, by omega, by simp [offR], E, rfl⟩ (.cons rfl (.cons rfl (.cons rfl (.nil)))) ?_
  rintro nn wl1 ls ⟨i, p, rfl, hi, hp, E, rfl⟩
  have hs1 := Below.size E
  have hul := markR_length xss k
  have hof := offR_le hxx i.toNat
  have hof0 := offR_nonneg xss i.toNat
  refine Cq.seq ?_
  refine Cq.seq ?_
  refine Cq.region ?_
  refine Sq.move .plain rfl rfl ?_
  refine Sq.move .plain rfl rfl ?_
  refine Sq.lenRows (hr.ext E) .plain rfl und22 rfl ?_
  refine Sq.lss .plain rfl rfl rfl ?_
  refine Sq.part (fun c2 => ?_) (fun c2 => ?_)
  · refine Sq.nil ?_
    refine Eq.next ?_
    refine Cq.thn rfl ?_
    refine Cq.skip ?_
    refine Eq.next ?_
    refine Cq.seq ?_
    refine Cq.block ?_
    refine Cq.seq ?_
    refine Cq.region ?_
    refine Sq.move .plain rfl rfl ?_
    refine Sq.move .plain rfl rfl ?_
    refine Sq.idxRows sl22 one52 (hr.ext E) .plain rfl rfl rfl .plain rfl rfl (by omega) (by omega) (fun r3 hr4 => ?_)
    refine Sq.move .plain rfl rfl ?_
    refine Sq.call fn83 .plain rfl rfl (heldI_c _ _ p _ (by rw [hp, ← markR_at (by omega)]; exact hr4) (hxx _ (getD_mem (by omega))) (by omega)) ?_
    rintro _ w6 ⟨rfl, e7⟩
    have hs8 := Below.size E
    have hs9 := Below.size e7
    replace E := E.trans e7
    refine Sq.assign .plain rfl rfl ?_
    refine Sq.nil ?_
    refine Eq.next ?_
    refine Cq.seq ?_
    refine Cq.region ?_
    refine Sq.move .plain rfl rfl ?_
    refine Sq.lss .plain rfl rfl rfl ?_
    refine Sq.isF (by omega) ?_
    refine Sq.nil ?_
    refine Eq.next ?_
    refine Cq.els rfl ?_
    refine Cq.skip ?_
    refine Eq.end ?_
    refine Eq.next ?_
    refine Cq.region ?_
    refine Sq.move .plain rfl rfl ?_
    refine Sq.add .plain rfl rfl rfl (by omega) ?_
    refine Sq.assign .plain rfl rfl ?_
    refine Sq.nil ?_
    have e1 := toNat_succ hi.1
    refine Eq.round _ _ ⟨i + 1, _, rfl, by omega, by rw [e1, offR, hp]; omega, E, rfl⟩ (by omega) (.cons rfl (.cons rfl (.cons rfl (.nil))))
  refine Sq.nil ?_
  refine Eq.next ?_
  refine Cq.els rfl ?_
  refine Cq.exit ?_
  refine Eq.past ?_
  refine Eq.past ?_
  refine Eq.hit ?_
  refine Eq.next ?_
  refine Cq.seq ?_
  refine Cq.region ?_
  refine Sq.move .plain rfl rfl ?_
  refine Sq.assign .plain rfl rfl ?_
  refine Sq.nil ?_
  refine Eq.next ?_
  refine Cq.ret ?_
  refine Eq.ret1 rfl rfl ?_
  exact ⟨by rw [hp, show i.toNat = xss.length by omega]; rfl, E⟩
set_option maxRecDepth 100000 in
theorem markA_c (w0 : World) (B U : Nat) (a : A) (nx ac : Value) (k : Int) (hor : OwnRows w0 B U 52 3 nx a.next) (hoc : Own w0 B 4 ac (a.acc.map Value.bool)) (hlw : ∀ k, ac.ownBlock = some k → k < U) (hsm : SmX a) (hk : 0 ≤ k ∧ k ≤ 1152921504606846976) : Ret Try.prog 18 #[Value.agg #[Value.int .i64 a.al, nx, ac], Value.int .i64 k] w0 (fun v w => v = .int .i64 (k + cntA a) ∧ OwnRows w B U 52 3 nx (markR a.next k) ∧ Own w B 4 ac ((upB (k + sumR a.next) a.acc.length).map Value.bool) ∧ Wrote w0 w B U) := by
  have hwr := Wrote.refl w0 B U
  refine Ret.of (args := [Value.agg #[Value.int .i64 a.al, nx, ac], Value.int .i64 k]) Try.func18 rfl rfl rfl ?_
  rintro _ rfl
  show Cq _ _ _ _ [(0, Value.agg #[Value.int .i64 a.al, nx, ac]), (1, Value.int .i64 k)] _
  refine Cq.seq ?_
  refine Cq.region ?_
  refine Sq.box .plain rfl rfl (fun b1 w2 e3 hB0 hlo4 => ?_)
  have hs0 := Below.size e3
  replace hor := hor.ext e3
  replace hoc := hoc.ext e3
  replace hwr := hwr.trans (Wrote.ofExt e3 _ _)
  refine Sq.assign .plain rfl rfl ?_
  refine Sq.nil ?_
  refine Eq.next ?_
  refine Cq.seq ?_
  refine Cq.region ?_
  refine Sq.fieldAddr fld27_1 .plain rfl rfl ?_
  refine Sq.loadB one22 .plain rfl rfl hB0 rfl ?_
  refine Sq.move .plain rfl rfl ?_
  refine Sq.call fn48 .plain rfl rfl (markSS_c _ B U nx a.next k hor hsm.1 hsm.2.1 (by omega)) ?_
  rintro _ w5 ⟨rfl, hor', hw1, hk1⟩
  replace hor := hor'
  clear hor'
  replace hoc := hoc.kept hk1 (by decide)
  replace hB0 := hk1 _ _ _ hB0 (by decide)
  replace hwr := hwr.trans hw1
  refine Sq.assign .plain rfl rfl ?_
  refine Sq.nil ?_
  refine Eq.next ?_
  refine Cq.seq ?_
  refine Cq.region ?_
  refine Sq.fieldAddr fld27_2 .plain rfl rfl ?_
  refine Sq.loadB one23 .plain rfl rfl hB0 rfl ?_
  refine Sq.move .plain rfl rfl ?_
  have hcl := cntA_le hsm
  refine Sq.call fn49 .plain rfl rfl (markB_c _ B ac a.acc (k + sumR a.next) hoc hsm.2.2 (by omega)) ?_
  rintro _ w6 ⟨rfl, hoc', hg⟩
  replace hor := hor.owned hoc hg (by decide) (by decide)
  replace hwr := hwr.trans (Wrote.of hg fun k hk => ⟨(hoc.lt k hk).1, hlw k hk⟩)
  replace hoc := hoc'
  refine Sq.assign .plain rfl rfl ?_
  refine Sq.nil ?_
  refine Eq.next ?_
  refine Cq.seq ?_
  refine Cq.region ?_
  refine Sq.move .plain rfl rfl ?_
  refine Sq.assign .plain rfl rfl ?_
  refine Sq.nil ?_
  refine Eq.next ?_
  refine Cq.ret ?_
  refine Eq.ret1 rfl rfl ?_
  exact ⟨by rw [Int.add_assoc]; rfl, hor, hoc, hwr⟩
set_option maxRecDepth 100000 in
theorem heldA_c (w0 : World) (a : A) (nx ac : Value) (k : Int) (hnx : Rows w0 52 3 nx (markR a.next k)) (hac : Bools w0 4 ac (upB (k + sumR a.next) a.acc.length)) (hsm : SmX a) (hk : 0 ≤ k ∧ k ≤ 1152921504606846976) : Ret Try.prog 19 #[Value.agg #[Value.int .i64 a.al, nx, ac], Value.int .i64 k] w0 (fun v w => v = .int .i64 (k + cntA a) ∧ Ext w0 w) := by
  have E := Ext.refl w0
  have hcl := cntA_le hsm
  refine Ret.of (args := [Value.agg #[Value.int .i64 a.al, nx, ac], Value.int .i64 k]) Try.func19 rfl rfl rfl ?_
  rintro _ rfl
  show Cq _ _ _ _ [(0, Value.agg #[Value.int .i64 a.al, nx, ac]), (1, Value.int .i64 k)] _
  refine Cq.seq ?_
  refine Cq.region ?_
  refine Sq.box .plain rfl rfl (fun b1 w2 e3 hB4 hlo5 => ?_)
  have hd6 := Nat.le_trans (Below.size E) hlo5
  have hs7 := Below.size e3
  replace E := E.trans e3
  refine Sq.assign .plain rfl rfl ?_
  refine Sq.nil ?_
  refine Eq.next ?_
  refine Cq.seq ?_
  refine Cq.region ?_
  refine Sq.fieldAddr fld27_1 .plain rfl rfl ?_
  refine Sq.loadB one22 .plain rfl rfl hB4 rfl ?_
  refine Sq.move .plain rfl rfl ?_
  have hd11 := hB4.lt
  refine Sq.call fn50 .plain rfl rfl (heldSS_c _ _ a.next k (hnx.ext E) hsm.1 hsm.2.1 (by omega)) ?_
  rintro _ w9 ⟨rfl, e10⟩
  have hs12 := Below.size E
  have hs13 := Below.size e10
  replace E := E.trans e10
  replace hB4 := hB4.ext e10
  refine Sq.assign .plain rfl rfl ?_
  refine Sq.nil ?_
  refine Eq.next ?_
  refine Cq.seq ?_
  refine Cq.seq ?_
  refine Cq.region ?_
  refine Sq.move .plain rfl rfl ?_
  refine Sq.lss .plain rfl rfl rfl ?_
  refine Sq.isF (by omega) ?_
  refine Sq.nil ?_
  refine Eq.next ?_
  refine Cq.els rfl ?_
  refine Cq.skip ?_
  refine Eq.next ?_
  refine Cq.seq ?_
  refine Cq.region ?_
  refine Sq.fieldAddr fld27_2 .plain rfl rfl ?_
  refine Sq.loadB one23 .plain rfl rfl hB4 rfl ?_
  refine Sq.move .plain rfl rfl ?_
  have hd17 := hB4.lt
  refine Sq.call fn51 .plain rfl rfl (heldB_c _ _ (k + sumR a.next) _ (hac.ext E) hsm.2.2 (by omega)) ?_
  rintro _ w15 ⟨rfl, e16⟩
  have hs18 := Below.size E
  have hs19 := Below.size e16
  replace E := E.trans e16
  refine Sq.assign .plain rfl rfl ?_
  refine Sq.nil ?_
  refine Eq.next ?_
  refine Cq.seq ?_
  refine Cq.seq ?_
  refine Cq.region ?_
  refine Sq.move .plain rfl rfl ?_
  refine Sq.lss .plain rfl rfl rfl ?_
  refine Sq.isF (by omega) ?_
  refine Sq.nil ?_
  refine Eq.next ?_
  refine Cq.els rfl ?_
  refine Cq.skip ?_
  refine Eq.next ?_
  refine Cq.seq ?_
  refine Cq.region ?_
  refine Sq.move .plain rfl rfl ?_
  refine Sq.assign .plain rfl rfl ?_
  refine Sq.nil ?_
  refine Eq.next ?_
  refine Cq.ret ?_
  refine Eq.ret1 rfl rfl ?_
  exact ⟨by rw [Int.add_assoc]; rfl, E⟩
end Go.Proofs.Ytdkdpmmfebdeaaa
set_option linter.unusedSimpArgs false
set_option linter.unusedVariables false
namespace Go.Proofs.Ytdkdpmmfebdeaaa
open Go.RowKit
set_option maxRecDepth 100000 in
theorem szIntS_c (w0 : World) (r : Value) (xs : List Int) (hr : IntsX w0 r xs) (left : Int) (hleft : 0 ≤ left ∧ left ≤ 1048576) : Ret Try.prog 73 #[r, Value.int .i64 left] w0 (fun v w => (∃ z, v = .int .i64 z ∧ -1 ≤ z ∧ (0 ≤ z → z ≤ left ∧ xs.length ≤ 1048576)) ∧ Ext w0 w) := by
  have E := Ext.refl w0
  have hlo : xs.length ≤ 9223372036854775807 := hr.1
  refine Ret.of (args := [r, Value.int .i64 left]) Try.func73 rfl rfl rfl ?_
  rintro _ rfl
  show Cq _ _ _ _ [(0, r), (1, Value.int .i64 left)] _
  refine Cq.seq ?_
  refine Cq.region ?_
  refine Sq.assign .plain rfl rfl ?_
  refine Sq.nil ?_
  refine Eq.next ?_
  refine Cq.seq ?_
  refine Cq.region ?_
  refine Sq.move .plain rfl rfl ?_
  refine Sq.move .plain rfl rfl ?_
  obtain ⟨eq1, heq1⟩ := hr.2
  refine Sq.lenInts (heq1.ext E) .plain rfl und52 rfl ?_
  refine Sq.sub .plain rfl rfl rfl (by omega) ?_
  refine Sq.assign .plain rfl rfl ?_
  refine Sq.nil ?_
  refine Eq.next ?_
  refine Cq.seq ?_
  refine Cq.seq ?_
  refine Cq.region ?_
  refine Sq.move .plain rfl rfl ?_
  refine Sq.lss .plain rfl rfl rfl ?_
  refine Sq.part (fun c2 => ?_) (fun c2 => ?_)
  · refine Sq.nil ?_
    refine Eq.next ?_
    refine Cq.thn rfl ?_
    refine Cq.seq ?_
    refine Cq.region ?_
    refine Sq.assign .plain rfl rfl ?_
    refine Sq.nil ?_
    refine Eq.next ?_
    refine Cq.ret ?_
    refine Eq.pastRet ?_
    refine Eq.ret1 rfl rfl ?_
    exact ⟨⟨_, rfl, by omega, fun h => by omega⟩, E⟩
  refine Sq.nil ?_
  refine Eq.next ?_
  refine Cq.els rfl ?_
  refine Cq.skip ?_
  refine Eq.next ?_
  refine Cq.seq ?_
  refine Cq.region ?_
  refine Sq.move .plain rfl rfl ?_
  refine Sq.assign .plain rfl rfl ?_
  refine Sq.nil ?_
  refine Eq.next ?_
  refine Cq.ret ?_
  refine Eq.ret1 rfl rfl ?_
  exact ⟨⟨_, rfl, by omega, fun h => by omega⟩, E⟩
set_option maxRecDepth 100000 in
theorem szBoolS_c (w0 : World) (r : Value) (xs : List Bool) (hr : BoolsX w0 r xs) (left : Int) (hleft : 0 ≤ left ∧ left ≤ 1048576) : Ret Try.prog 39 #[r, Value.int .i64 left] w0 (fun v w => (∃ z, v = .int .i64 z ∧ -1 ≤ z ∧ (0 ≤ z → z ≤ left ∧ xs.length ≤ 1048576)) ∧ Ext w0 w) := by
  have E := Ext.refl w0
  have hlo : xs.length ≤ 9223372036854775807 := hr.1
  refine Ret.of (args := [r, Value.int .i64 left]) Try.func39 rfl rfl rfl ?_
  rintro _ rfl
  show Cq _ _ _ _ [(0, r), (1, Value.int .i64 left)] _
  refine Cq.seq ?_
  refine Cq.region ?_
  refine Sq.assign .plain rfl rfl ?_
  refine Sq.nil ?_
  refine Eq.next ?_
  refine Cq.seq ?_
  refine Cq.region ?_
  refine Sq.move .plain rfl rfl ?_
  refine Sq.move .plain rfl rfl ?_
  obtain ⟨eq1, heq1⟩ := hr.2
  refine Sq.lenBools (heq1.ext E) .plain rfl und23 rfl ?_
  refine Sq.sub .plain rfl rfl rfl (by omega) ?_
  refine Sq.assign .plain rfl rfl ?_
  refine Sq.nil ?_
  refine Eq.next ?_
  refine Cq.seq ?_
  refine Cq.seq ?_
  refine Cq.region ?_
  refine Sq.move .plain rfl rfl ?_
  refine Sq.lss .plain rfl rfl rfl ?_
  refine Sq.part (fun c2 => ?_) (fun c2 => ?_)
  · refine Sq.nil ?_
    refine Eq.next ?_
    refine Cq.thn rfl ?_
    refine Cq.seq ?_
    refine Cq.region ?_
    refine Sq.assign .plain rfl rfl ?_
    refine Sq.nil ?_
    refine Eq.next ?_
    refine Cq.ret ?_
    refine Eq.pastRet ?_
    refine Eq.ret1 rfl rfl ?_
    exact ⟨⟨_, rfl, by omega, fun h => by omega⟩, E⟩
  refine Sq.nil ?_
  refine Eq.next ?_
  refine Cq.els rfl ?_
  refine Cq.skip ?_
  refine Eq.next ?_
  refine Cq.seq ?_
  refine Cq.region ?_
  refine Sq.move .plain rfl rfl ?_
  refine Sq.assign .plain rfl rfl ?_
  refine Sq.nil ?_
  refine Eq.next ?_
  refine Cq.ret ?_
  refine Eq.ret1 rfl rfl ?_
  exact ⟨⟨_, rfl, by omega, fun h => by omega⟩, E⟩
set_option maxRecDepth 100000 in
theorem szIntSS_c (w0 : World) (r : Value) (xss : List (List Int)) (hr : RowsX w0 r xss) (left : Int) (hleft : 0 ≤ left ∧ left ≤ 1048576) : Ret Try.prog 38 #[r, Value.int .i64 left] w0 (fun v w => (∃ z, v = .int .i64 z ∧ -1 ≤ z ∧ (0 ≤ z → z ≤ left ∧ xss.length ≤ 1048576 ∧ ∀ r ∈ xss, r.length ≤ 1048576)) ∧ Ext w0 w) := by
  have E := Ext.refl w0
  have hlo : xss.length ≤ 9223372036854775807 := hr.1
  refine Ret.of (args := [r, Value.int .i64 left]) Try.func38 rfl rfl rfl ?_
  rintro _ rfl
  show Cq _ _ _ _ [(0, r), (1, Value.int .i64 left)] _
  refine Cq.seq ?_
  refine Cq.region ?_
  refine Sq.assign .plain rfl rfl ?_
  refine Sq.nil ?_
  refine Eq.next ?_
  refine Cq.seq ?_
  refine Cq.region ?_
  refine Sq.move .plain rfl rfl ?_
  refine Sq.move .plain rfl rfl ?_
  obtain ⟨eq1, rsq1, heq1, hlq1⟩ := RowsX.len hr
  refine Sq.val .plain rfl rfl (Still.lenRow (heq1.ext E) und22 rfl) ?_
  rw [hlq1]
  refine Sq.sub .plain rfl rfl rfl (by omega) ?_
  refine Sq.assign .plain rfl rfl ?_
  refine Sq.nil ?_
  refine Eq.next ?_
  refine Cq.seq ?_
  refine Cq.seq ?_
  refine Cq.region ?_
  refine Sq.move .plain rfl rfl ?_
  refine Sq.lss .plain rfl rfl rfl ?_
  refine Sq.part (fun c2 => ?_) (fun c2 => ?_)
  · refine Sq.nil ?_
    refine Eq.next ?_
    refine Cq.thn rfl ?_
    refine Cq.seq ?_
    refine Cq.region ?_
    refine Sq.assign .plain rfl rfl ?_
    refine Sq.nil ?_
    refine Eq.next ?_
    refine Cq.ret ?_
    refine Eq.pastRet ?_
    refine Eq.ret1 rfl rfl ?_
    exact ⟨⟨_, rfl, by omega, fun h => absurd h (by omega)⟩, E⟩
  refine Sq.nil ?_
  refine Eq.next ?_
  refine Cq.els rfl ?_
  refine Cq.skip ?_
  refine Eq.next ?_
  refine Cq.seq ?_
  refine Cq.seq ?_
  refine Cq.region ?_
  refine Sq.assign .plain rfl rfl ?_
  refine Sq.nil ?_
  refine Eq.next ?_
  refine Cq.block ?_
  refine Cq.loop (fun nn w ls => ∃ (k : Int), ∃ (y : Int), ls = [(0, r), (1, Value.int .i64 y), (5, Value.int .i64 k)] ∧ (0 ≤ k ∧ k ≤ xss.length) ∧ (0 ≤ y ∧ y ≤ left) ∧ (∀ r ∈ xss.take k.toNat, r.length ≤ 1048576) ∧ Ext w0 w ∧ nn = ((xss.length : Int) - k).toNat) _ _ ⟨0, _, rfl, by omega, by omega, by simp, E, rfl⟩ (.cons rfl (.cons rfl (.cons rfl (.nil)))) ?_
  rintro nn wl1 ls ⟨k, y, rfl, hk, hy, hrl, E, rfl⟩
  have hs3 := Below.size E
  refine Cq.seq ?_
  refine Cq.seq ?_
  refine Cq.region ?_
  refine Sq.move .plain rfl rfl ?_
  refine Sq.move .plain rfl rfl ?_
  obtain ⟨eq4, rsq4, heq4, hlq4⟩ := RowsX.len hr
  refine Sq.val .plain rfl rfl (Still.lenRow (heq4.ext E) und22 rfl) ?_
  rw [hlq4]
  refine Sq.lss .plain rfl rfl rfl ?_
  refine Sq.part (fun c5 => ?_) (fun c5 => ?_)
  · refine Sq.nil ?_
    refine Eq.next ?_
    refine Cq.thn rfl ?_
    refine Cq.skip ?_
    refine Eq.next ?_
    refine Cq.seq ?_
    refine Cq.block ?_
    refine Cq.seq ?_
    refine Cq.region ?_
    refine Sq.move .plain rfl rfl ?_
    refine Sq.move .plain rfl rfl ?_
    obtain ⟨eq6, pq6, rq6, hpq6, hrq6⟩ := RowsX.at hr (i := k) (by omega) (by omega)
    refine Sq.val .plain rfl rfl (Still.at' sl22 (hpq6.ext E) rfl rfl) ?_
    refine Sq.val .plain rfl rfl (Still.loadA one52 rfl (hpq6.ext E).1) ?_
    refine Sq.move .plain rfl rfl ?_
    refine Sq.call fn73 .plain rfl rfl (szIntS_c _ _ _ (hrq6.ext E) y (by omega)) ?_
    rintro _ w8 ⟨⟨z10, rfl, hz11, hsm12⟩, e9⟩
    have hs13 := Below.size E
    have hs14 := Below.size e9
    replace E := E.trans e9
    refine Sq.assign .plain rfl rfl ?_
    refine Sq.nil ?_
    refine Eq.next ?_
    refine Cq.seq ?_
    refine Cq.region ?_
    refine Sq.move .plain rfl rfl ?_
    refine Sq.lss .plain rfl rfl rfl ?_
    refine Sq.part (fun c15 => ?_) (fun c15 => ?_)
    · refine Sq.nil ?_
      refine Eq.next ?_
      refine Cq.thn rfl ?_
      refine Cq.seq ?_
      refine Cq.region ?_
      refine Sq.assign .plain rfl rfl ?_
      refine Sq.nil ?_
      refine Eq.next ?_
      refine Cq.ret ?_
      refine Eq.outRet ?_
      refine Eq.pastRet ?_
      refine Eq.pastRet ?_
      refine Eq.outRet ?_
      refine Eq.pastRet ?_
      refine Eq.ret1 rfl rfl ?_
      exact ⟨⟨_, rfl, by omega, fun h => absurd h (by omega)⟩, E⟩
    refine Sq.nil ?_
    refine Eq.next ?_
    refine Cq.els rfl ?_
    refine Cq.skip ?_
    refine Eq.end ?_
    refine Eq.next ?_
    refine Cq.region ?_
    refine Sq.move .plain rfl rfl ?_
    refine Sq.add .plain rfl rfl rfl (by omega) ?_
    refine Sq.assign .plain rfl rfl ?_
    refine Sq.nil ?_
    have e1 := toNat_succ hk.1
    have hsx := (hsm12 (by omega))
    refine Eq.round _ _ ⟨k + 1, _, rfl, by omega, by omega, by rw [e1, take_snoc [] (by omega)]; intro r hr; rcases List.mem_append.1 hr with h | h; exact hrl r h; rw [List.mem_singleton.1 h]; exact hsx.2, E, rfl⟩ (by omega) (.cons rfl (.cons rfl (.cons rfl (.nil))))
  refine Sq.nil ?_
  refine Eq.next ?_
  refine Cq.els rfl ?_
  refine Cq.exit ?_
  refine Eq.past ?_
  refine Eq.past ?_
  refine Eq.hit ?_
  refine Eq.next ?_
  refine Cq.seq ?_
  refine Cq.region ?_
  refine Sq.move .plain rfl rfl ?_
  refine Sq.assign .plain rfl rfl ?_
  refine Sq.nil ?_
  refine Eq.next ?_
  refine Cq.ret ?_
  refine Eq.ret1 rfl rfl ?_
  exact ⟨⟨_, rfl, by omega, fun h => ⟨by omega, by omega, by rw [List.take_of_length_le (by omega)] at hrl; exact hrl⟩⟩, E⟩
set_option maxRecDepth 100000 in
theorem szA_c (w0 : World) (a : A) (nx ac : Value) (hnx : RowsX w0 nx a.next) (hac : BoolsX w0 ac a.acc) (left : Int) (hleft : 0 ≤ left ∧ left ≤ 1048576) : Ret Try.prog 13 #[Value.agg #[Value.int .i64 a.al, nx, ac], Value.int .i64 left] w0 (fun v w => (∃ z, v = .int .i64 z ∧ -1 ≤ z ∧ (0 ≤ z → z ≤ left ∧ SmX a)) ∧ Ext w0 w) := by
  have E := Ext.refl w0
  refine Ret.of (args := [Value.agg #[Value.int .i64 a.al, nx, ac], Value.int .i64 left]) Try.func13 rfl rfl rfl ?_
  rintro _ rfl
  show Cq _ _ _ _ [(0, Value.agg #[Value.int .i64 a.al, nx, ac]), (1, Value.int .i64 left)] _
  refine Cq.seq ?_
  refine Cq.region ?_
  refine Sq.box .plain rfl rfl (fun b1 w2 e3 hB4 hlo5 => ?_)
  have hd6 := Nat.le_trans (Below.size E) hlo5
  have hs7 := Below.size e3
  replace E := E.trans e3
  refine Sq.assign .plain rfl rfl ?_
  refine Sq.nil ?_
  refine Eq.next ?_
  refine Cq.seq ?_
  refine Cq.region ?_
  refine Sq.fieldAddr fld25_1 .plain rfl rfl ?_
  refine Sq.loadB one22 .plain rfl rfl hB4 rfl ?_
  refine Sq.move .plain rfl rfl ?_
  have hd14 := hB4.lt
  refine Sq.call fn38 .plain rfl rfl (szIntSS_c _ _ _ (hnx.ext E) left (by omega)) ?_
  rintro _ w9 ⟨⟨z11, rfl, hz12, hsm13⟩, e10⟩
  have hs15 := Below.size E
  have hs16 := Below.size e10
  replace E := E.trans e10
  replace hB4 := hB4.ext e10
  refine Sq.assign .plain rfl rfl ?_
  refine Sq.nil ?_
  refine Eq.next ?_
  refine Cq.seq ?_
  refine Cq.seq ?_
  refine Cq.region ?_
  refine Sq.move .plain rfl rfl ?_
  refine Sq.lss .plain rfl rfl rfl ?_
  refine Sq.part (fun c17 => ?_) (fun c17 => ?_)
  · refine Sq.nil ?_
    refine Eq.next ?_
    refine Cq.thn rfl ?_
    refine Cq.seq ?_
    refine Cq.region ?_
    refine Sq.assign .plain rfl rfl ?_
    refine Sq.nil ?_
    refine Eq.next ?_
    refine Cq.ret ?_
    refine Eq.pastRet ?_
    refine Eq.ret1 rfl rfl ?_
    exact ⟨⟨_, rfl, by omega, fun h => absurd h (by decide)⟩, E⟩
  refine Sq.nil ?_
  refine Eq.next ?_
  refine Cq.els rfl ?_
  refine Cq.skip ?_
  refine Eq.next ?_
  refine Cq.seq ?_
  refine Cq.region ?_
  refine Sq.fieldAddr fld25_2 .plain rfl rfl ?_
  refine Sq.loadB one23 .plain rfl rfl hB4 rfl ?_
  refine Sq.move .plain rfl rfl ?_
  have hd24 := hB4.lt
  refine Sq.call fn39 .plain rfl rfl (szBoolS_c _ _ _ (hac.ext E) z11 (by omega)) ?_
  rintro _ w19 ⟨⟨z21, rfl, hz22, hsm23⟩, e20⟩
  have hs25 := Below.size E
  have hs26 := Below.size e20
  replace E := E.trans e20
  refine Sq.assign .plain rfl rfl ?_
  refine Sq.nil ?_
  refine Eq.next ?_
  refine Cq.seq ?_
  refine Cq.seq ?_
  refine Cq.region ?_
  refine Sq.move .plain rfl rfl ?_
  refine Sq.lss .plain rfl rfl rfl ?_
  refine Sq.part (fun c27 => ?_) (fun c27 => ?_)
  · refine Sq.nil ?_
    refine Eq.next ?_
    refine Cq.thn rfl ?_
    refine Cq.seq ?_
    refine Cq.region ?_
    refine Sq.assign .plain rfl rfl ?_
    refine Sq.nil ?_
    refine Eq.next ?_
    refine Cq.ret ?_
    refine Eq.pastRet ?_
    refine Eq.ret1 rfl rfl ?_
    exact ⟨⟨_, rfl, by omega, fun h => absurd h (by decide)⟩, E⟩
  refine Sq.nil ?_
  refine Eq.next ?_
  refine Cq.els rfl ?_
  refine Cq.skip ?_
  refine Eq.next ?_
  refine Cq.seq ?_
  refine Cq.region ?_
  refine Sq.move .plain rfl rfl ?_
  refine Sq.assign .plain rfl rfl ?_
  refine Sq.nil ?_
  refine Eq.next ?_
  refine Cq.ret ?_
  refine Eq.ret1 rfl rfl ?_
  exact ⟨⟨_, rfl, by omega, fun h => ⟨by have := hsm13 (by omega); have := hsm23 (by omega); omega, (hsm13 (by omega)).2.1, (hsm13 (by omega)).2.2, (hsm23 (by omega)).2⟩⟩, E⟩
set_option maxRecDepth 100000 in
theorem toIntS_c (w0 : World) (r : Value) (xs : List Int) (hr : IntsX w0 r xs) (hl : xs.length ≤ 1048576) : Ret Try.prog 78 #[r] w0 (fun v w => Own w w0.heap.size 3 v (xs.map (Value.int .i64)) ∧ Ext w0 w) := by
  have E := Ext.refl w0
  refine Ret.of (args := [r]) Try.func78 rfl rfl rfl ?_
  rintro _ rfl
  show Cq _ _ _ _ [(0, r)] _
  refine Cq.seq ?_
  refine Cq.region ?_
  refine Sq.assign .plain rfl rfl ?_
  refine Sq.nil ?_
  refine Eq.next ?_
  refine Cq.seq ?_
  refine Cq.region ?_
  refine Sq.move .plain rfl rfl ?_
  obtain ⟨eq1, heq1⟩ := hr.2
  refine Sq.lenInts (heq1.ext E) .plain rfl und52 rfl ?_
  refine Sq.make sl52 .plain rfl rfl rfl rfl (by omega) (fun b2 w3 e4 hlo5 hB6 => ?_)
  replace hB6 := hB6 w0.heap.size (Nat.le_refl _)
  have hs7 := Below.size e4
  replace E := E.trans e4
  refine Sq.assign .plain rfl rfl ?_
  refine Sq.nil ?_
  refine Eq.next ?_
  refine Cq.seq ?_
  refine Cq.seq ?_
  refine Cq.region ?_
  refine Sq.assign .plain rfl rfl ?_
  refine Sq.nil ?_
  refine Eq.next ?_
  refine Cq.block ?_
  refine Cq.loop (fun nn w ls => ∃ (k : Int), ls = [(0, r), (3, Value.slice (some ⟨b2, 0, none⟩) (List.length xs : Int).toNat (List.length xs : Int).toNat), (4, Value.int .i64 k)] ∧ (0 ≤ k ∧ k ≤ xs.length) ∧ Own w w0.heap.size 3 (Value.slice (some ⟨b2, 0, none⟩) (List.length xs : Int).toNat (List.length xs : Int).toNat) ((fillTo xs 0 k.toNat).map (Value.int .i64)) ∧ Ext w0 w ∧ nn = ((xs.length : Int) - k).toNat) _ _ ⟨0, rfl, by omega, by rw [show (0 : Int).toNat = 0 from rfl, fillTo_zero, List.map_replicate]; exact hB6, E, rfl⟩ (.cons rfl (.cons rfl (.cons rfl (.nil)))) ?_
  rintro nn wl1 ls ⟨k, rfl, hk, ho, E, rfl⟩
  have hs8 := Below.size E
  have hfl := fillTo_length xs 0 (k := k.toNat) (by omega)
  refine Cq.seq ?_
  refine Cq.seq ?_
  refine Cq.region ?_
  refine Sq.move .plain rfl rfl ?_
  refine Sq.move .plain rfl rfl ?_
  obtain ⟨eq9, heq9⟩ := hr.2
  refine Sq.lenInts (heq9.ext E) .plain rfl und52 rfl ?_
  refine Sq.lss .plain rfl rfl rfl ?_
  refine Sq.part (fun c10 => ?_) (fun c10 => ?_)
  · refine Sq.nil ?_
    refine Eq.next ?_
    refine Cq.thn rfl ?_
    refine Cq.skip ?_
    refine Eq.next ?_
    refine Cq.seq ?_
    refine Cq.block ?_
    refine Cq.region ?_
    refine Sq.move .plain rfl rfl ?_
    refine Sq.move .plain rfl rfl ?_
    refine Sq.move .plain rfl rfl ?_
    refine Sq.move .plain rfl rfl ?_
    obtain ⟨eq11, heq11⟩ := hr.2
    obtain ⟨pq11, hpq11⟩ := Ints.at heq11 (i := k) (by omega) (by omega)
    refine Sq.val .plain rfl rfl (Still.at' sl52 (hpq11.ext E) rfl rfl) ?_
    refine Sq.val .plain rfl rfl (Still.loadA one3 rfl (hpq11.ext E).1) ?_
    obtain ⟨p12, hp13o⟩ := Own.at ho (i := k) (by omega) (by first | (simp only [List.length_map]; omega) | (simp; omega))
    refine Sq.atO sl52 hp13o .plain rfl rfl rfl ?_
    refine Sq.storeO one3 ho hp13o .plain rfl rfl rfl (fun w14 g15 ho16 => ?_)
    have hs17 := World.grownBy.size g15
    replace E := E.owned ho g15 (by omega)
    replace ho := ho16
    refine Sq.nil ?_
    refine Eq.end ?_
    refine Eq.next ?_
    refine Cq.region ?_
    refine Sq.move .plain rfl rfl ?_
    refine Sq.add .plain rfl rfl rfl (by omega) ?_
    refine Sq.assign .plain rfl rfl ?_
    refine Sq.nil ?_
    have e1 := toNat_succ hk.1
    refine Eq.round _ _ ⟨k + 1, rfl, by omega, by rw [e1, ← fillTo_succ (by omega), List.map_set]; exact ho, E, rfl⟩ (by omega) (.cons rfl (.cons rfl (.cons rfl (.nil))))
  refine Sq.nil ?_
  refine Eq.next ?_
  refine Cq.els rfl ?_
  refine Cq.exit ?_
  refine Eq.past ?_
  refine Eq.past ?_
  refine Eq.hit ?_
  refine Eq.next ?_
  refine Cq.seq ?_
  refine Cq.region ?_
  refine Sq.move .plain rfl rfl ?_
  refine Sq.assign .plain rfl rfl ?_
  refine Sq.nil ?_
  refine Eq.next ?_
  refine Cq.ret ?_
  refine Eq.ret1 rfl rfl ?_
  rw [fillTo_all (by omega)] at ho
  exact ⟨ho, E⟩
set_option maxRecDepth 100000 in
theorem toBoolS_c (w0 : World) (r : Value) (xs : List Bool) (hr : BoolsX w0 r xs) (hl : xs.length ≤ 1048576) : Ret Try.prog 43 #[r] w0 (fun v w => Own w w0.heap.size 4 v (xs.map (Value.bool)) ∧ Ext w0 w) := by
  have E := Ext.refl w0
  refine Ret.of (args := [r]) Try.func43 rfl rfl rfl ?_
  rintro _ rfl
  show Cq _ _ _ _ [(0, r)] _
  refine Cq.seq ?_
  refine Cq.region ?_
  refine Sq.assign .plain rfl rfl ?_
  refine Sq.nil ?_
  refine Eq.next ?_
  refine Cq.seq ?_
  refine Cq.region ?_
  refine Sq.move .plain rfl rfl ?_
  obtain ⟨eq1, heq1⟩ := hr.2
  refine Sq.lenBools (heq1.ext E) .plain rfl und23 rfl ?_
  refine Sq.make sl23 .plain rfl rfl rfl rfl (by omega) (fun b2 w3 e4 hlo5 hB6 => ?_)
  replace hB6 := hB6 w0.heap.size (Nat.le_refl _)
  have hs7 := Below.size e4
  replace E := E.trans e4
  refine Sq.assign .plain rfl rfl ?_
  refine Sq.nil ?_
  refine Eq.next ?_
  refine Cq.seq ?_
  refine Cq.seq ?_
  refine Cq.region ?_
  refine Sq.assign .plain rfl rfl ?_
  refine Sq.nil ?_
  refine Eq.next ?_
  refine Cq.block ?_
  refine Cq.loop (fun nn w ls => ∃ (k : Int), ls = [(0, r), (3, Value.slice (some ⟨b2, 0, none⟩) (List.length xs : Int).toNat (List.length xs : Int).toNat), (4, Value.int .i64 k)] ∧ (0 ≤ k ∧ k ≤ xs.length) ∧ Own w w0.heap.size 4 (Value.slice (some ⟨b2, 0, none⟩) (List.length xs : Int).toNat (List.length xs : Int).toNat) ((fillTo xs false k.toNat).map (Value.bool)) ∧ Ext w0 w ∧ nn = ((xs.length : Int) - k).toNat) _ _ ⟨0, rfl, by omega, by rw [show (0 : Int).toNat = 0 from rfl, fillTo_zero, List.map_replicate]; exact hB6, E, rfl⟩ (.cons rfl (.cons rfl (.cons rfl (.nil)))) ?_
  rintro nn wl1 ls ⟨k, rfl, hk, ho, E, rfl⟩
  have hs8 := Below.size E
  have hfl := fillTo_length xs false (k := k.toNat) (by omega)
  refine Cq.seq ?_
  refine Cq.seq ?_
  refine Cq.region ?_
  refine Sq.move .plain rfl rfl ?_
  refine Sq.move .plain rfl rfl ?_
  obtain ⟨eq9, heq9⟩ := hr.2
  refine Sq.lenBools (heq9.ext E) .plain rfl und23 rfl ?_
  refine Sq.lss .plain rfl rfl rfl ?_
  refine Sq.part (fun c10 => ?_) (fun c10 => ?_)
  · refine Sq.nil ?_
    refine Eq.next ?_
    refine Cq.thn rfl ?_
    refine Cq.skip ?_
    refine Eq.next ?_
    refine Cq.seq ?_
    refine Cq.block ?_
    refine Cq.region ?_
    refine Sq.move .plain rfl rfl ?_
    refine Sq.move .plain rfl rfl ?_
    refine Sq.move .plain rfl rfl ?_
    refine Sq.move .plain rfl rfl ?_
    obtain ⟨eq11, heq11⟩ := hr.2
    obtain ⟨pq11, hpq11⟩ := Bools.at heq11 (i := k) (by omega) (by omega)
    refine Sq.val .plain rfl rfl (Still.at' sl23 (hpq11.ext E) rfl rfl) ?_
    refine Sq.val .plain rfl rfl (Still.loadA one4 rfl (hpq11.ext E).1) ?_
    obtain ⟨p12, hp13o⟩ := Own.at ho (i := k) (by omega) (by first | (simp only [List.length_map]; omega) | (simp; omega))
    refine Sq.atO sl23 hp13o .plain rfl rfl rfl ?_
    refine Sq.storeO one4 ho hp13o .plain rfl rfl rfl (fun w14 g15 ho16 => ?_)
    have hs17 := World.grownBy.size g15
    replace E := E.owned ho g15 (by omega)
    replace ho := ho16
    refine Sq.nil ?_
    refine Eq.end ?_
    refine Eq.next ?_
    refine Cq.region ?_
    refine Sq.move .plain rfl rfl ?_
    refine Sq.add .plain rfl rfl rfl (by omega) ?_
    refine Sq.assign .plain rfl rfl ?_
    refine Sq.nil ?_
    have e1 := toNat_succ hk.1
    refine Eq.round _ _ ⟨k + 1, rfl, by omega, by rw [e1, ← fillTo_succ (by omega), List.map_set]; exact ho, E, rfl⟩ (by omega) (.cons rfl (.cons rfl (.cons rfl (.nil))))
  refine Sq.nil ?_
  refine Eq.next ?_
  refine Cq.els rfl ?_
  refine Cq.exit ?_
  refine Eq.past ?_
  refine Eq.past ?_
  refine Eq.hit ?_
  refine Eq.next ?_
  refine Cq.seq ?_
  refine Cq.region ?_
  refine Sq.move .plain rfl rfl ?_
  refine Sq.assign .plain rfl rfl ?_
  refine Sq.nil ?_
  refine Eq.next ?_
  refine Cq.ret ?_
  refine Eq.ret1 rfl rfl ?_
  rw [fillTo_all (by omega)] at ho
  exact ⟨ho, E⟩
set_option maxRecDepth 100000 in
theorem toIntSS_c (w0 : World) (r : Value) (xss : List (List Int)) (hr : RowsX w0 r xss) (hl : xss.length ≤ 1048576) (hll : ∀ r ∈ xss, r.length ≤ 1048576) : Ret Try.prog 42 #[r] w0 (fun v w => OwnRows w w0.heap.size w.heap.size 52 3 v xss ∧ Ext w0 w) := by
  have E := Ext.refl w0
  refine Ret.of (args := [r]) Try.func42 rfl rfl rfl ?_
  rintro _ rfl
  show Cq _ _ _ _ [(0, r)] _
  refine Cq.seq ?_
  refine Cq.region ?_
  refine Sq.assign .plain rfl rfl ?_
  refine Sq.nil ?_
  refine Eq.next ?_
  refine Cq.seq ?_
  refine Cq.region ?_
  refine Sq.move .plain rfl rfl ?_
  obtain ⟨eq1, rsq1, heq1, hlq1⟩ := RowsX.len hr
  refine Sq.val .plain rfl rfl (Still.lenRow (heq1.ext E) und22 rfl) ?_
  rw [hlq1]
  refine Sq.make sl22 .plain rfl rfl rfl rfl (by omega) (fun b2 w3 e4 hlo5 ho6 => ?_)
  have hs7 := Below.size e4
  replace E := E.trans e4
  have hor := OwnRows.made (U := w3.heap.size) (e' := 3) (ho6 w0.heap.size (by omega))
  refine Sq.assign .plain rfl rfl ?_
  refine Sq.nil ?_
  refine Eq.next ?_
  refine Cq.seq ?_
  refine Cq.seq ?_
  refine Cq.region ?_
  refine Sq.assign .plain rfl rfl ?_
  refine Sq.nil ?_
  refine Eq.next ?_
  refine Cq.block ?_
  refine Cq.loop (fun nn w ls => ∃ (k : Int), ls = [(0, r), (3, Value.slice (some ⟨b2, 0, none⟩) (List.length xss : Int).toNat (List.length xss : Int).toNat), (4, Value.int .i64 k)] ∧ (0 ≤ k ∧ k ≤ xss.length) ∧ OwnRows w w0.heap.size w.heap.size 52 3 (Value.slice (some ⟨b2, 0, none⟩) (List.length xss : Int).toNat (List.length xss : Int).toNat) (fillTo xss [] k.toNat) ∧ Ext w0 w ∧ nn = ((xss.length : Int) - k).toNat) _ _ ⟨0, rfl, by omega, by rw [show (0 : Int).toNat = 0 from rfl, fillTo_zero]; exact hor, E, rfl⟩ (.cons rfl (.cons rfl (.cons rfl (.nil)))) ?_
  rintro nn wl1 ls ⟨k, rfl, hk, hor, E, rfl⟩
  have hs8 := Below.size E
  refine Cq.seq ?_
  refine Cq.seq ?_
  refine Cq.region ?_
  refine Sq.move .plain rfl rfl ?_
  refine Sq.move .plain rfl rfl ?_
  obtain ⟨eq9, rsq9, heq9, hlq9⟩ := RowsX.len hr
  refine Sq.val .plain rfl rfl (Still.lenRow (heq9.ext E) und22 rfl) ?_
  rw [hlq9]
  refine Sq.lss .plain rfl rfl rfl ?_
  refine Sq.part (fun c10 => ?_) (fun c10 => ?_)
  · refine Sq.nil ?_
    refine Eq.next ?_
    refine Cq.thn rfl ?_
    refine Cq.skip ?_
    refine Eq.next ?_
    refine Cq.seq ?_
    refine Cq.block ?_
    refine Cq.region ?_
    refine Sq.move .plain rfl rfl ?_
    refine Sq.move .plain rfl rfl ?_
    refine Sq.move .plain rfl rfl ?_
    refine Sq.move .plain rfl rfl ?_
    obtain ⟨eq11, pq11, rq11, hpq11, hrq11⟩ := RowsX.at hr (i := k) (by omega) (by omega)
    refine Sq.val .plain rfl rfl (Still.at' sl22 (hpq11.ext E) rfl rfl) ?_
    refine Sq.val .plain rfl rfl (Still.loadA one52 rfl (hpq11.ext E).1) ?_
    refine Sq.call fn78 .plain rfl rfl (toIntS_c _ _ _ (hrq11.ext E) (by exact hll _ (getD_mem (by omega)))) ?_
    rintro v12 w13 ⟨ho15, e14⟩
    have hs16 := Below.size E
    have hs17 := Below.size e14
    replace E := E.trans e14
    replace hor := hor.ext e14
    obtain ⟨rs3, hq1, hq2, hq3⟩ := OwnRows.put hor (by decide)
    have hfl := fillTo_length xss [] (k := k.toNat) (by omega)
    obtain ⟨pq, hpq⟩ := Own.at hq1 (i := k) (by omega) (by omega)
    refine Sq.atO sl22 hpq .plain rfl rfl rfl ?_
    refine Sq.storeO one52 hq1 hpq .plain rfl rfl (Row.one (Own.row ho15)) (fun w18 g19 ho20 => ?_)
    have hs21 := World.grownBy.size g19
    have hor := hq3 k.toNat _ _ _ (by omega) (Own.mono ho15 (by omega)) (by omega) ho20 g19
    replace E := E.owned hq1 g19 (by omega)
    refine Sq.nil ?_
    refine Eq.end ?_
    refine Eq.next ?_
    refine Cq.region ?_
    refine Sq.move .plain rfl rfl ?_
    refine Sq.add .plain rfl rfl rfl (by omega) ?_
    refine Sq.assign .plain rfl rfl ?_
    refine Sq.nil ?_
    have e1 := toNat_succ hk.1
    refine Eq.round _ _ ⟨k + 1, rfl, by omega, by rw [e1, ← fillTo_succ (by omega)]; exact hor, E, rfl⟩ (by omega) (.cons rfl (.cons rfl (.cons rfl (.nil))))
  refine Sq.nil ?_
  refine Eq.next ?_
  refine Cq.els rfl ?_
  refine Cq.exit ?_
  refine Eq.past ?_
  refine Eq.past ?_
  refine Eq.hit ?_
  refine Eq.next ?_
  refine Cq.seq ?_
  refine Cq.region ?_
  refine Sq.move .plain rfl rfl ?_
  refine Sq.assign .plain rfl rfl ?_
  refine Sq.nil ?_
  refine Eq.next ?_
  refine Cq.ret ?_
  refine Eq.ret1 rfl rfl ?_
  rw [fillTo_all (by omega)] at hor
  exact ⟨hor, E⟩
set_option maxRecDepth 100000 in
theorem toA_c (w0 : World) (a : A) (nx ac : Value) (hnx : RowsX w0 nx a.next) (hac : BoolsX w0 ac a.acc) (hsm : SmX a) : Ret Try.prog 15 #[Value.agg #[Value.int .i64 a.al, nx, ac]] w0 (fun v w => OwnA w w0.heap.size v a ∧ Ext w0 w) := by
  have E := Ext.refl w0
  refine Ret.of (args := [Value.agg #[Value.int .i64 a.al, nx, ac]]) Try.func15 rfl rfl rfl ?_
  rintro _ rfl
  show Cq _ _ _ _ [(0, Value.agg #[Value.int .i64 a.al, nx, ac])] _
  refine Cq.seq ?_
  refine Cq.region ?_
  refine Sq.box .plain rfl rfl (fun b1 w2 e3 hB4 hlo5 => ?_)
  have hd6 := Nat.le_trans (Below.size E) hlo5
  have hs7 := Below.size e3
  replace E := E.trans e3
  refine Sq.alloc zero27 .plain rfl (fun b8 w9 e10 hB11 hlo12 => ?_)
  have hd13 := Nat.le_trans (Below.size E) hlo12
  have hd14 := Nat.lt_of_lt_of_le hB4.lt hlo12
  have hs15 := Below.size e10
  replace E := E.trans e10
  replace hB4 := hB4.ext e10
  refine Sq.nil ?_
  refine Eq.next ?_
  refine Cq.seq ?_
  refine Cq.region ?_
  refine Sq.alloc zero27 .plain rfl (fun b16 w17 e18 hB19 hlo20 => ?_)
  have hd21 := Nat.le_trans (Below.size E) hlo20
  have hd22 := Nat.lt_of_lt_of_le hB4.lt hlo20
  have hd23 := Nat.lt_of_lt_of_le hB11.lt hlo20
  have hs24 := Below.size e18
  replace E := E.trans e18
  replace hB4 := hB4.ext e18
  replace hB11 := hB11.ext e18
  refine Sq.nil ?_
  refine Eq.next ?_
  refine Cq.seq ?_
  refine Cq.region ?_
  refine Sq.fieldAddr fld25_0 .plain rfl rfl ?_
  refine Sq.loadB one3 .plain rfl rfl hB4 rfl ?_
  refine Sq.fieldAddr fld27_0 .plain rfl rfl ?_
  refine Sq.store one3 .plain rfl rfl rfl hB19 (by simp) (fun w25 g26 hB27 => ?_)
  have hs28 := World.grownBy.size g26
  replace E := E.grown g26 (fun k hk => by injection hk with hk; subst hk; omega)
  replace hB4 := hB4.grown g26 (by intro h; injection h with h; omega)
  replace hB11 := hB11.grown g26 (by intro h; injection h with h; omega)
  replace hB19 := hB27
  refine Sq.nil ?_
  refine Eq.next ?_
  refine Cq.seq ?_
  refine Cq.region ?_
  refine Sq.fieldAddr fld25_1 .plain rfl rfl ?_
  refine Sq.loadB one22 .plain rfl rfl hB4 rfl ?_
  have hd33 := hB4.lt
  have hd34 := hB11.lt
  have hd35 := hB19.lt
  refine Sq.call fn42 .plain rfl rfl (toIntSS_c _ _ _ (hnx.ext E) hsm.1 hsm.2.1) ?_
  rintro v29 w30 ⟨ho32, e31⟩
  have hs36 := Below.size E
  have hs37 := Below.size e31
  replace E := E.trans e31
  replace hB4 := hB4.ext e31
  replace hB11 := hB11.ext e31
  replace hB19 := hB19.ext e31
  refine Sq.fieldAddr fld27_1 .plain rfl rfl ?_
  refine Sq.store one22 .plain rfl rfl (Rows.one (OwnRows.rows ho32)) hB19 (by simp) (fun w38 g39 hB40 => ?_)
  have hs41 := World.grownBy.size g39
  replace E := E.grown g39 (fun k hk => by injection hk with hk; subst hk; omega)
  replace hB4 := hB4.grown g39 (by intro h; injection h with h; omega)
  replace hB11 := hB11.grown g39 (by intro h; injection h with h; omega)
  replace ho32 := ho32.stored g39 hB19 (by decide) (by decide)
  replace hB19 := hB40
  refine Sq.nil ?_
  refine Eq.next ?_
  refine Cq.seq ?_
  refine Cq.region ?_
  refine Sq.fieldAddr fld25_2 .plain rfl rfl ?_
  refine Sq.loadB one23 .plain rfl rfl hB4 rfl ?_
  have hd46 := hB4.lt
  have hd47 := hB11.lt
  have hd48 := hB19.lt
  refine Sq.call fn43 .plain rfl rfl (toBoolS_c _ _ _ (hac.ext E) (by exact hsm.2.2)) ?_
  rintro v42 w43 ⟨ho45, e44⟩
  have hs49 := Below.size E
  have hs50 := Below.size e44
  replace E := E.trans e44
  replace hB11 := hB11.ext e44
  replace hB19 := hB19.ext e44
  replace ho32 := ho32.ext e44
  refine Sq.fieldAddr fld27_2 .plain rfl rfl ?_
  refine Sq.store one23 .plain rfl rfl (Row.one (Own.row ho45)) hB19 (by simp) (fun w51 g52 hB53 => ?_)
  have hs54 := World.grownBy.size g52
  replace E := E.grown g52 (fun k hk => by injection hk with hk; subst hk; omega)
  replace hB11 := hB11.grown g52 (by intro h; injection h with h; omega)
  replace ho32 := ho32.stored g52 hB19 (by decide) (by decide)
  replace ho45 := ho45.stored g52 hB19 (by decide)
  replace hB19 := hB53
  refine Sq.nil ?_
  refine Eq.next ?_
  refine Cq.seq ?_
  refine Cq.region ?_
  refine Sq.loadAgg agg27 .plain rfl rfl hB19 rfl ?_
  refine Sq.storeAgg agg27 .plain rfl rfl (one_cons rfl (one_cons (Rows.one (OwnRows.rows ho32)) (one_cons (Row.one (Own.row ho45)) one_nil))) hB11 rfl rfl (fun w55 g56 hB57 => ?_)
  have hs58 := World.grownBy.size g56
  replace E := E.grown g56 (fun k hk => by injection hk with hk; subst hk; omega)
  replace ho32 := ho32.stored g56 hB11 (by decide) (by decide)
  replace ho45 := ho45.stored g56 hB11 (by decide)
  replace hB11 := hB57
  refine Sq.nil ?_
  refine Eq.next ?_
  refine Cq.ret ?_
  refine Eq.retCell rfl rfl agg27 hB11 rfl ?_
  exact ⟨⟨_, _, rfl, OwnRows.now (OwnRows.mono ho32 (by omega)), Own.mono ho45 (by omega)⟩, E⟩
set_option maxRecDepth 100000 in
theorem eqIntS_c (w0 : World) (xs ys : List Int) (r q : Value) (hr : Ints w0 3 r xs) (hq : Ints w0 3 q ys) (hx : xs.length ≤ 1000000000) : Ret Try.prog 81 #[r, q] w0 (fun v w => v = .bool (xs == ys) ∧ Ext w0 w) := by
  have E := Ext.refl w0
  refine Ret.of (args := [r, q]) Try.func81 rfl rfl rfl ?_
  rintro _ rfl
  show Cq _ _ _ _ [(0, r), (1, q)] _
  refine Cq.seq ?_
  refine Cq.region ?_
  refine Sq.assign .plain rfl rfl ?_
  refine Sq.nil ?_
  refine Eq.next ?_
  refine Cq.seq ?_
  refine Cq.seq ?_
  refine Cq.region ?_
  refine Sq.move .plain rfl rfl ?_
  refine Sq.lenInts (hr.ext E) .plain rfl und52 rfl ?_
  refine Sq.move .plain rfl rfl ?_
  refine Sq.lenInts (hq.ext E) .plain rfl und52 rfl ?_
  refine Sq.neq .plain rfl rfl rfl ?_
  refine Sq.part (fun c1 => ?_) (fun c1 => ?_)
  · refine Sq.nil ?_
    refine Eq.next ?_
    refine Cq.thn rfl ?_
    refine Cq.seq ?_
    refine Cq.region ?_
    refine Sq.assign .plain rfl rfl ?_
    refine Sq.nil ?_
    refine Eq.next ?_
    refine Cq.ret ?_
    refine Eq.pastRet ?_
    refine Eq.ret1 rfl rfl ?_
    exact ⟨by first | rw [beq_len (by omega)] | rw [beq_at (k := k.toNat) 0 (by simpa using hne)] | rw [beq_done (k := k.toNat) hp (by omega) (by omega)], E⟩
  refine Sq.nil ?_
  refine Eq.next ?_
  refine Cq.els rfl ?_
  refine Cq.skip ?_
  refine Eq.next ?_
  refine Cq.seq ?_
  refine Cq.seq ?_
  refine Cq.region ?_
  refine Sq.assign .plain rfl rfl ?_
  refine Sq.nil ?_
  refine Eq.next ?_
  refine Cq.block ?_
  refine Cq.loop (fun nn w ls => ∃ (k : Int), ls = [(0, r), (1, q), (5, Value.int .i64 k)] ∧ xs.length = ys.length ∧ (0 ≤ k ∧ k ≤ xs.length) ∧ xs.take k.toNat = ys.take k.toNat ∧ Ext w0 w ∧ nn = ((xs.length : Int) - k).toNat) _ _ ⟨0, rfl, by omega, by omega, rfl, E, rfl⟩ (.cons rfl (.cons rfl (.cons rfl (.nil)))) ?_
  rintro nn wl1 ls ⟨k, rfl, hl, hk, hp, E, rfl⟩
  have hs2 := Below.size E
  refine Cq.seq ?_
  refine Cq.seq ?_
  refine Cq.region ?_
  refine Sq.move .plain rfl rfl ?_
  refine Sq.move .plain rfl rfl ?_
  refine Sq.lenInts (hr.ext E) .plain rfl und52 rfl ?_
  refine Sq.lss .plain rfl rfl rfl ?_
  refine Sq.part (fun c3 => ?_) (fun c3 => ?_)
  · refine Sq.nil ?_
    refine Eq.next ?_
    refine Cq.thn rfl ?_
    refine Cq.skip ?_
    refine Eq.next ?_
    refine Cq.seq ?_
    refine Cq.block ?_
    refine Cq.seq ?_
    refine Cq.draw 9 none mixed (fun w4 e5 => ?_)
    have hs6 := Below.size e5
    replace E := E.trans e5
    have E_w4 := E
    refine Gq.st 0 rfl (by kernel_rfl) rfl .plain rfl (fun _ _ _ h => h) (World.grownBy.refl w4 _) (fun w' x => Still.move rfl) ?_
    refine Gq.st 1 rfl (by kernel_rfl) rfl .plain rfl (fun _ _ _ h => h) (World.grownBy.refl w4 _) (fun w' x => Still.move rfl) ?_
    obtain ⟨p7, hp8_w4⟩ := Ints.at hr (i := k) (by omega) (by omega)
    refine Gq.st 2 rfl (by kernel_rfl) rfl .plain rfl (fun _ _ _ h => h) (World.grownBy.refl w4 _) (fun w' x => Still.at' sl52 hp8_w4 rfl rfl) ?_
    refine Gq.st 3 rfl (by kernel_rfl) rfl .plain rfl (fun _ _ _ h => h) (World.grownBy.refl w4 _) (fun w' x => Still.loadA one3 rfl (hp8_w4.ext (E_w4.trans (Ext.of_grown x))).1) ?_
    refine Gq.st 4 rfl (by kernel_rfl) rfl .plain rfl (fun _ _ _ h => h) (World.grownBy.refl w4 _) (fun w' x => Still.move rfl) ?_
    refine Gq.st 5 rfl (by kernel_rfl) rfl .plain rfl (fun _ _ _ h => h) (World.grownBy.refl w4 _) (fun w' x => Still.move rfl) ?_
    obtain ⟨p9, hp10_w4⟩ := Ints.at hq (i := k) (by omega) (by omega)
    refine Gq.st 6 rfl (by kernel_rfl) rfl .plain rfl (fun _ _ _ h => h) (World.grownBy.refl w4 _) (fun w' x => Still.at' sl52 hp10_w4 rfl rfl) ?_
    refine Gq.st 7 rfl (by kernel_rfl) rfl .plain rfl (fun _ _ _ h => h) (World.grownBy.refl w4 _) (fun w' x => Still.loadA one3 rfl (hp10_w4.ext (E_w4.trans (Ext.of_grown x))).1) ?_
    refine Gq.st 8 rfl (by kernel_rfl) rfl .plain rfl (fun _ _ _ h => h) (World.grownBy.refl w4 _) (fun w' x => Still.neq rfl rfl) ?_
    refine Gq.part (fun hne => ?_) (fun hne => ?_)
    · refine Gq.done (by kernel_rfl) ?_
      refine Eq.next ?_
      refine Cq.thn rfl ?_
      refine Cq.seq ?_
      refine Cq.region ?_
      refine Sq.assign .plain rfl rfl ?_
      refine Sq.nil ?_
      refine Eq.next ?_
      refine Cq.ret ?_
      refine Eq.outRet ?_
      refine Eq.pastRet ?_
      refine Eq.pastRet ?_
      refine Eq.outRet ?_
      refine Eq.pastRet ?_
      refine Eq.ret1 rfl rfl ?_
      exact ⟨by first | rw [beq_len (by omega)] | rw [beq_at (k := k.toNat) 0 (by simpa using hne)] | rw [beq_done (k := k.toNat) hp (by omega) (by omega)], E⟩
    refine Gq.done (by kernel_rfl) ?_
    refine Eq.next ?_
    refine Cq.els rfl ?_
    refine Cq.skip ?_
    refine Eq.end ?_
    refine Eq.next ?_
    refine Cq.region ?_
    refine Sq.move .plain rfl rfl ?_
    refine Sq.add .plain rfl rfl rfl (by omega) ?_
    refine Sq.assign .plain rfl rfl ?_
    refine Sq.nil ?_
    have e1 := toNat_succ hk.1
    refine Eq.round _ _ ⟨k + 1, rfl, hl, by omega, by rw [e1]; exact take_eq_snoc 0 hl hp (by omega) (by simpa using hne), E, rfl⟩ (by omega) (.cons rfl (.cons rfl (.cons rfl (.nil))))
  refine Sq.nil ?_
  refine Eq.next ?_
  refine Cq.els rfl ?_
  refine Cq.exit ?_
  refine Eq.past ?_
  refine Eq.past ?_
  refine Eq.hit ?_
  refine Eq.next ?_
  refine Cq.seq ?_
  refine Cq.region ?_
  refine Sq.assign .plain rfl rfl ?_
  refine Sq.nil ?_
  refine Eq.next ?_
  refine Cq.ret ?_
  refine Eq.ret1 rfl rfl ?_
  exact ⟨by first | rw [beq_len (by omega)] | rw [beq_at (k := k.toNat) 0 (by simpa using hne)] | rw [beq_done (k := k.toNat) hp (by omega) (by omega)], E⟩
set_option maxRecDepth 100000 in
theorem eqBoolS_c (w0 : World) (xs ys : List Bool) (r q : Value) (hr : Bools w0 4 r xs) (hq : Bools w0 4 q ys) (hx : xs.length ≤ 1000000000) : Ret Try.prog 47 #[r, q] w0 (fun v w => v = .bool (xs == ys) ∧ Ext w0 w) := by
  have E := Ext.refl w0
  refine Ret.of (args := [r, q]) Try.func47 rfl rfl rfl ?_
  rintro _ rfl
  show Cq _ _ _ _ [(0, r), (1, q)] _
  refine Cq.seq ?_
  refine Cq.region ?_
  refine Sq.assign .plain rfl rfl ?_
  refine Sq.nil ?_
  refine Eq.next ?_
  refine Cq.seq ?_
  refine Cq.seq ?_
  refine Cq.region ?_
  refine Sq.move .plain rfl rfl ?_
  refine Sq.lenBools (hr.ext E) .plain rfl und23 rfl ?_
  refine Sq.move .plain rfl rfl ?_
  refine Sq.lenBools (hq.ext E) .plain rfl und23 rfl ?_
  refine Sq.neq .plain rfl rfl rfl ?_
  refine Sq.part (fun c1 => ?_) (fun c1 => ?_)
  · refine Sq.nil ?_
    refine Eq.next ?_
    refine Cq.thn rfl ?_
    refine Cq.seq ?_
    refine Cq.region ?_
    refine Sq.assign .plain rfl rfl ?_
    refine Sq.nil ?_
    refine Eq.next ?_
    refine Cq.ret ?_
    refine Eq.pastRet ?_
    refine Eq.ret1 rfl rfl ?_
    exact ⟨by first | rw [beq_len (by omega)] | rw [beq_at (k := k.toNat) false (by simpa using hne)] | rw [beq_done (k := k.toNat) hp (by omega) (by omega)], E⟩
  refine Sq.nil ?_
  refine Eq.next ?_
  refine Cq.els rfl ?_
  refine Cq.skip ?_
  refine Eq.next ?_
  refine Cq.seq ?_
  refine Cq.seq ?_
  refine Cq.region ?_
  refine Sq.assign .plain rfl rfl ?_
  refine Sq.nil ?_
  refine Eq.next ?_
  refine Cq.block ?_
  refine Cq.loop (fun nn w ls => ∃ (k : Int), ls = [(0, r), (1, q), (5, Value.int .i64 k)] ∧ xs.length = ys.length ∧ (0 ≤ k ∧ k ≤ xs.length) ∧ xs.take k.toNat = ys.take k.toNat ∧ Ext w0 w ∧ nn = ((xs.length : Int) - k).toNat) _ _ ⟨0, rfl, by omega, by omega, rfl, E, rfl⟩ (.cons rfl (.cons rfl (.cons rfl (.nil)))) ?_
  rintro nn wl1 ls ⟨k, rfl, hl, hk, hp, E, rfl⟩
  have hs2 := Below.size E
  refine Cq.seq ?_
  refine Cq.seq ?_
  refine Cq.region ?_
  refine Sq.move .plain rfl rfl ?_
  refine Sq.move .plain rfl rfl ?_
  refine Sq.lenBools (hr.ext E) .plain rfl und23 rfl ?_
  refine Sq.lss .plain rfl rfl rfl ?_
  refine Sq.part (fun c3 => ?_) (fun c3 => ?_)
  · refine Sq.nil ?_
    refine Eq.next ?_
    refine Cq.thn rfl ?_
    refine Cq.skip ?_
    refine Eq.next ?_
    refine Cq.seq ?_
    refine Cq.block ?_
    refine Cq.seq ?_
    refine Cq.draw 9 none mixed (fun w4 e5 => ?_)
    have hs6 := Below.size e5
    replace E := E.trans e5
    have E_w4 := E
    refine Gq.st 0 rfl (by kernel_rfl) rfl .plain rfl (fun _ _ _ h => h) (World.grownBy.refl w4 _) (fun w' x => Still.move rfl) ?_
    refine Gq.st 1 rfl (by kernel_rfl) rfl .plain rfl (fun _ _ _ h => h) (World.grownBy.refl w4 _) (fun w' x => Still.move rfl) ?_
    obtain ⟨p7, hp8_w4⟩ := Bools.at hr (i := k) (by omega) (by omega)
    refine Gq.st 2 rfl (by kernel_rfl) rfl .plain rfl (fun _ _ _ h => h) (World.grownBy.refl w4 _) (fun w' x => Still.at' sl23 hp8_w4 rfl rfl) ?_
    refine Gq.st 3 rfl (by kernel_rfl) rfl .plain rfl (fun _ _ _ h => h) (World.grownBy.refl w4 _) (fun w' x => Still.loadA one4 rfl (hp8_w4.ext (E_w4.trans (Ext.of_grown x))).1) ?_
    refine Gq.st 4 rfl (by kernel_rfl) rfl .plain rfl (fun _ _ _ h => h) (World.grownBy.refl w4 _) (fun w' x => Still.move rfl) ?_
    refine Gq.st 5 rfl (by kernel_rfl) rfl .plain rfl (fun _ _ _ h => h) (World.grownBy.refl w4 _) (fun w' x => Still.move rfl) ?_
    obtain ⟨p9, hp10_w4⟩ := Bools.at hq (i := k) (by omega) (by omega)
    refine Gq.st 6 rfl (by kernel_rfl) rfl .plain rfl (fun _ _ _ h => h) (World.grownBy.refl w4 _) (fun w' x => Still.at' sl23 hp10_w4 rfl rfl) ?_
    refine Gq.st 7 rfl (by kernel_rfl) rfl .plain rfl (fun _ _ _ h => h) (World.grownBy.refl w4 _) (fun w' x => Still.loadA one4 rfl (hp10_w4.ext (E_w4.trans (Ext.of_grown x))).1) ?_
    refine Gq.st 8 rfl (by kernel_rfl) rfl .plain rfl (fun _ _ _ h => h) (World.grownBy.refl w4 _) (fun w' x => Still.neqB und4 rfl rfl) ?_
    refine Gq.partB (fun hne => ?_) (fun hne => ?_)
    · refine Gq.done (by kernel_rfl) ?_
      refine Eq.next ?_
      refine Cq.thn rfl ?_
      refine Cq.seq ?_
      refine Cq.region ?_
      refine Sq.assign .plain rfl rfl ?_
      refine Sq.nil ?_
      refine Eq.next ?_
      refine Cq.ret ?_
      refine Eq.outRet ?_
      refine Eq.pastRet ?_
      refine Eq.pastRet ?_
      refine Eq.outRet ?_
      refine Eq.pastRet ?_
      refine Eq.ret1 rfl rfl ?_
      exact ⟨by first | rw [beq_len (by omega)] | rw [beq_at (k := k.toNat) false (by simpa using hne)] | rw [beq_done (k := k.toNat) hp (by omega) (by omega)], E⟩
    refine Gq.done (by kernel_rfl) ?_
    refine Eq.next ?_
    refine Cq.els rfl ?_
    refine Cq.skip ?_
    refine Eq.end ?_
    refine Eq.next ?_
    refine Cq.region ?_
    refine Sq.move .plain rfl rfl ?_
    refine Sq.add .plain rfl rfl rfl (by omega) ?_
    refine Sq.assign .plain rfl rfl ?_
    refine Sq.nil ?_
    have e1 := toNat_succ hk.1
    refine Eq.round _ _ ⟨k + 1, rfl, hl, by omega, by rw [e1]; exact take_eq_snoc false hl hp (by omega) (by simpa using hne), E, rfl⟩ (by omega) (.cons rfl (.cons rfl (.cons rfl (.nil))))
  refine Sq.nil ?_
  refine Eq.next ?_
  refine Cq.els rfl ?_
  refine Cq.exit ?_
  refine Eq.past ?_
  refine Eq.past ?_
  refine Eq.hit ?_
  refine Eq.next ?_
  refine Cq.seq ?_
  refine Cq.region ?_
  refine Sq.assign .plain rfl rfl ?_
  refine Sq.nil ?_
  refine Eq.next ?_
  refine Cq.ret ?_
  refine Eq.ret1 rfl rfl ?_
  exact ⟨by first | rw [beq_len (by omega)] | rw [beq_at (k := k.toNat) false (by simpa using hne)] | rw [beq_done (k := k.toNat) hp (by omega) (by omega)], E⟩
set_option maxRecDepth 100000 in
theorem eqIntSS_c (w0 : World) (xss yss : List (List Int)) (r q : Value) (hr : Rows w0 52 3 r xss) (hq : Rows w0 52 3 q yss) (hx : xss.length ≤ 1048576) (hxx : ∀ r ∈ xss, r.length ≤ 1048576) : Ret Try.prog 46 #[r, q] w0 (fun v w => v = .bool (xss == yss) ∧ Ext w0 w) := by
  have E := Ext.refl w0
  refine Ret.of (args := [r, q]) Try.func46 rfl rfl rfl ?_
  rintro _ rfl
  show Cq _ _ _ _ [(0, r), (1, q)] _
  refine Cq.seq ?_
  refine Cq.region ?_
  refine Sq.assign .plain rfl rfl ?_
  refine Sq.nil ?_
  refine Eq.next ?_
  refine Cq.seq ?_
  refine Cq.seq ?_
  refine Cq.region ?_
  refine Sq.move .plain rfl rfl ?_
  refine Sq.lenRows (hr.ext E) .plain rfl und22 rfl ?_
  refine Sq.move .plain rfl rfl ?_
  refine Sq.lenRows (hq.ext E) .plain rfl und22 rfl ?_
  refine Sq.neq .plain rfl rfl rfl ?_
  refine Sq.part (fun c1 => ?_) (fun c1 => ?_)
  · refine Sq.nil ?_
    refine Eq.next ?_
    refine Cq.thn rfl ?_
    refine Cq.seq ?_
    refine Cq.region ?_
    refine Sq.assign .plain rfl rfl ?_
    refine Sq.nil ?_
    refine Eq.next ?_
    refine Cq.ret ?_
    refine Eq.pastRet ?_
    refine Eq.ret1 rfl rfl ?_
    exact ⟨by first | rw [beq_len (by omega)] | rw [beq_at (k := k.toNat) [] (by simpa using hne)] | rw [beq_done (k := k.toNat) hp (by omega) (by omega)], E⟩
  refine Sq.nil ?_
  refine Eq.next ?_
  refine Cq.els rfl ?_
  refine Cq.skip ?_
  refine Eq.next ?_
  refine Cq.seq ?_
  refine Cq.seq ?_
  refine Cq.region ?_
  refine Sq.assign .plain rfl rfl ?_
  refine Sq.nil ?_
  refine Eq.next ?_
  refine Cq.block ?_
  refine Cq.loop (fun nn w ls => ∃ (k : Int), ls = [(0, r), (1, q), (5, Value.int .i64 k)] ∧ xss.length = yss.length ∧ (0 ≤ k ∧ k ≤ xss.length) ∧ xss.take k.toNat = yss.take k.toNat ∧ Ext w0 w ∧ nn = ((xss.length : Int) - k).toNat) _ _ ⟨0, rfl, by omega, by omega, rfl, E, rfl⟩ (.cons rfl (.cons rfl (.cons rfl (.nil)))) ?_
  rintro nn wl1 ls ⟨k, rfl, hl, hk, hp, E, rfl⟩
  have hs2 := Below.size E
  refine Cq.seq ?_
  refine Cq.seq ?_
  refine Cq.region ?_
  refine Sq.move .plain rfl rfl ?_
  refine Sq.move .plain rfl rfl ?_
  refine Sq.lenRows (hr.ext E) .plain rfl und22 rfl ?_
  refine Sq.lss .plain rfl rfl rfl ?_
  refine Sq.part (fun c3 => ?_) (fun c3 => ?_)
  · refine Sq.nil ?_
    refine Eq.next ?_
    refine Cq.thn rfl ?_
    refine Cq.skip ?_
    refine Eq.next ?_
    refine Cq.seq ?_
    refine Cq.block ?_
    refine Cq.seq ?_
    refine Cq.draw 10 none mixed (fun w4 e5 => ?_)
    have hs6 := Below.size e5
    replace E := E.trans e5
    have E_w4 := E
    refine Gq.st 0 rfl (by kernel_rfl) rfl .plain rfl (fun _ _ _ h => h) (World.grownBy.refl w4 _) (fun w' x => Still.move rfl) ?_
    refine Gq.st 1 rfl (by kernel_rfl) rfl .plain rfl (fun _ _ _ h => h) (World.grownBy.refl w4 _) (fun w' x => Still.move rfl) ?_
    obtain ⟨p7, r9, hp8_w4, hr10⟩ := Rows.at hr (i := k) (by omega) (by omega)
    refine Gq.st 2 rfl (by kernel_rfl) rfl .plain rfl (fun _ _ _ h => h) (World.grownBy.refl w4 _) (fun w' x => Still.at' sl22 hp8_w4 rfl rfl) ?_
    refine Gq.st 3 rfl (by kernel_rfl) rfl .plain rfl (fun _ _ _ h => h) (World.grownBy.refl w4 _) (fun w' x => Still.loadA one52 rfl (hp8_w4.ext (E_w4.trans (Ext.of_grown x))).1) ?_
    refine Gq.st 4 rfl (by kernel_rfl) rfl .plain rfl (fun _ _ _ h => h) (World.grownBy.refl w4 _) (fun w' x => Still.move rfl) ?_
    refine Gq.st 5 rfl (by kernel_rfl) rfl .plain rfl (fun _ _ _ h => h) (World.grownBy.refl w4 _) (fun w' x => Still.move rfl) ?_
    obtain ⟨p11, r13, hp12_w4, hr14⟩ := Rows.at hq (i := k) (by omega) (by omega)
    refine Gq.st 6 rfl (by kernel_rfl) rfl .plain rfl (fun _ _ _ h => h) (World.grownBy.refl w4 _) (fun w' x => Still.at' sl22 hp12_w4 rfl rfl) ?_
    refine Gq.st 7 rfl (by kernel_rfl) rfl .plain rfl (fun _ _ _ h => h) (World.grownBy.refl w4 _) (fun w' x => Still.loadA one52 rfl (hp12_w4.ext (E_w4.trans (Ext.of_grown x))).1) ?_
    refine Gq.one 8 rfl (by kernel_rfl) ?_
    refine Sq.call fn81 .plain rfl rfl (eqIntS_c _ _ _ _ _ (hr10.ext E) (hr14.ext E) (by exact Nat.le_trans (hxx _ (getD_mem (by omega))) (by decide))) ?_
    rintro _ w16 ⟨rfl, e17⟩
    have hs18 := Below.size E
    have hs19 := Below.size e17
    replace E := E.trans e17
    refine Sq.partB (fun hne => ?_) (fun hne => ?_)
    · refine Sq.nil ?_
      refine Eq.goes (fun _ => (grown_trans (World.grownBy.refl w4 _) (Ext.to_grown e17 _))) ?_
      refine Gq.st 9 rfl (by kernel_rfl) rfl .plain rfl (fun _ _ _ h => h) (grown_trans (World.grownBy.refl w4 _) (Ext.to_grown e17 _)) (fun w' x => Still.notT rfl) ?_
      refine Gq.done (by kernel_rfl) ?_
      refine Eq.next ?_
      refine Cq.els rfl ?_
      refine Cq.skip ?_
      refine Eq.end ?_
      refine Eq.next ?_
      refine Cq.region ?_
      refine Sq.move .plain rfl rfl ?_
      refine Sq.add .plain rfl rfl rfl (by omega) ?_
      refine Sq.assign .plain rfl rfl ?_
      refine Sq.nil ?_
      have e1 := toNat_succ hk.1
      refine Eq.round _ _ ⟨k + 1, rfl, hl, by omega, by rw [e1]; exact take_eq_snoc [] hl hp (by omega) (by simpa using hne), E, rfl⟩ (by omega) (.cons rfl (.cons rfl (.cons rfl (.nil))))
    refine Sq.nil ?_
    refine Eq.goes (fun _ => (grown_trans (World.grownBy.refl w4 _) (Ext.to_grown e17 _))) ?_
    refine Gq.st 9 rfl (by kernel_rfl) rfl .plain rfl (fun _ _ _ h => h) (grown_trans (World.grownBy.refl w4 _) (Ext.to_grown e17 _)) (fun w' x => Still.notF rfl) ?_
    refine Gq.done (by kernel_rfl) ?_
    refine Eq.next ?_
    refine Cq.thn rfl ?_
    refine Cq.seq ?_
    refine Cq.region ?_
    refine Sq.assign .plain rfl rfl ?_
    refine Sq.nil ?_
    refine Eq.next ?_
    refine Cq.ret ?_
    refine Eq.outRet ?_
    refine Eq.pastRet ?_
    refine Eq.pastRet ?_
    refine Eq.outRet ?_
    refine Eq.pastRet ?_
    refine Eq.ret1 rfl rfl ?_
    exact ⟨by first | rw [beq_len (by omega)] | rw [beq_at (k := k.toNat) [] (by simpa using hne)] | rw [beq_done (k := k.toNat) hp (by omega) (by omega)], E⟩
  refine Sq.nil ?_
  refine Eq.next ?_
  refine Cq.els rfl ?_
  refine Cq.exit ?_
  refine Eq.past ?_
  refine Eq.past ?_
  refine Eq.hit ?_
  refine Eq.next ?_
  refine Cq.seq ?_
  refine Cq.region ?_
  refine Sq.assign .plain rfl rfl ?_
  refine Sq.nil ?_
  refine Eq.next ?_
  refine Cq.ret ?_
  refine Eq.ret1 rfl rfl ?_
  exact ⟨by first | rw [beq_len (by omega)] | rw [beq_at (k := k.toNat) [] (by simpa using hne)] | rw [beq_done (k := k.toNat) hp (by omega) (by omega)], E⟩
set_option maxRecDepth 100000 in
theorem eqAut_c (w0 : World) (a b : A) (nx ac nx' ac' : Value) (hnx : Rows w0 52 3 nx a.next) (hac : Bools w0 4 ac a.acc) (hnx' : Rows w0 52 3 nx' b.next) (hac' : Bools w0 4 ac' b.acc) (hsm : SmX a) : Ret Try.prog 17 #[Value.agg #[Value.int .i64 a.al, nx, ac], Value.agg #[Value.int .i64 b.al, nx', ac']] w0 (fun v w => v = .bool (eqA a b) ∧ Ext w0 w) := by
  have E := Ext.refl w0
  refine Ret.of (args := [Value.agg #[Value.int .i64 a.al, nx, ac], Value.agg #[Value.int .i64 b.al, nx', ac']]) Try.func17 rfl rfl rfl ?_
  rintro _ rfl
  show Cq _ _ _ _ [(0, Value.agg #[Value.int .i64 a.al, nx, ac]), (1, Value.agg #[Value.int .i64 b.al, nx', ac'])] _
  refine Cq.seq ?_
  refine Cq.region ?_
  refine Sq.box .plain rfl rfl (fun b1 w2 e3 hB4 hlo5 => ?_)
  have hd6 := Nat.le_trans (Below.size E) hlo5
  have hs7 := Below.size e3
  replace E := E.trans e3
  refine Sq.box .plain rfl rfl (fun b8 w9 e10 hB11 hlo12 => ?_)
  have hd13 := Nat.le_trans (Below.size E) hlo12
  have hd14 := Nat.lt_of_lt_of_le hB4.lt hlo12
  have hs15 := Below.size e10
  replace E := E.trans e10
  replace hB4 := hB4.ext e10
  refine Sq.assign .plain rfl rfl ?_
  refine Sq.nil ?_
  refine Eq.next ?_
  refine Cq.seq ?_
  refine Cq.seq ?_
  refine Cq.region ?_
  refine Sq.fieldAddr fld27_0 .plain rfl rfl ?_
  refine Sq.loadB one3 .plain rfl rfl hB4 rfl ?_
  refine Sq.fieldAddr fld27_0 .plain rfl rfl ?_
  refine Sq.loadB one3 .plain rfl rfl hB11 rfl ?_
  refine Sq.neq .plain rfl rfl rfl ?_
  refine Sq.part (fun h0 => ?_) (fun h0 => ?_)
  · refine Sq.nil ?_
    refine Eq.next ?_
    refine Cq.thn rfl ?_
    refine Cq.seq ?_
    refine Cq.region ?_
    refine Sq.assign .plain rfl rfl ?_
    refine Sq.nil ?_
    refine Eq.next ?_
    refine Cq.ret ?_
    refine Eq.pastRet ?_
    refine Eq.ret1 rfl rfl ?_
    exact ⟨by simp [eqA, h0], E⟩
  refine Sq.nil ?_
  refine Eq.next ?_
  refine Cq.els rfl ?_
  refine Cq.skip ?_
  refine Eq.next ?_
  refine Cq.seq ?_
  refine Cq.seq ?_
  refine Cq.region ?_
  refine Sq.fieldAddr fld27_1 .plain rfl rfl ?_
  refine Sq.loadB one22 .plain rfl rfl hB4 rfl ?_
  refine Sq.fieldAddr fld27_1 .plain rfl rfl ?_
  refine Sq.loadB one22 .plain rfl rfl hB11 rfl ?_
  have hd19 := hB4.lt
  have hd20 := hB11.lt
  refine Sq.call fn46 .plain rfl rfl (eqIntSS_c _ _ _ _ _ (hnx.ext E) (hnx'.ext E) hsm.1 hsm.2.1) ?_
  rintro _ w17 ⟨rfl, e18⟩
  have hs21 := Below.size E
  have hs22 := Below.size e18
  replace E := E.trans e18
  replace hB4 := hB4.ext e18
  replace hB11 := hB11.ext e18
  refine Sq.partB (fun h1 => ?_) (fun h1 => ?_)
  · refine Sq.notT .plain rfl rfl ?_
    refine Sq.nil ?_
    refine Eq.next ?_
    refine Cq.els rfl ?_
    refine Cq.skip ?_
    refine Eq.next ?_
    refine Cq.seq ?_
    refine Cq.seq ?_
    refine Cq.region ?_
    refine Sq.fieldAddr fld27_2 .plain rfl rfl ?_
    refine Sq.loadB one23 .plain rfl rfl hB4 rfl ?_
    refine Sq.fieldAddr fld27_2 .plain rfl rfl ?_
    refine Sq.loadB one23 .plain rfl rfl hB11 rfl ?_
    have hd26 := hB4.lt
    have hd27 := hB11.lt
    refine Sq.call fn47 .plain rfl rfl (eqBoolS_c _ _ _ _ _ (hac.ext E) (hac'.ext E) (by exact Nat.le_trans hsm.2.2 (by decide))) ?_
    rintro _ w24 ⟨rfl, e25⟩
    have hs28 := Below.size E
    have hs29 := Below.size e25
    replace E := E.trans e25
    refine Sq.partB (fun h2 => ?_) (fun h2 => ?_)
    · refine Sq.notT .plain rfl rfl ?_
      refine Sq.nil ?_
      refine Eq.next ?_
      refine Cq.els rfl ?_
      refine Cq.skip ?_
      refine Eq.next ?_
      refine Cq.seq ?_
      refine Cq.region ?_
      refine Sq.assign .plain rfl rfl ?_
      refine Sq.nil ?_
      refine Eq.next ?_
      refine Cq.ret ?_
      refine Eq.ret1 rfl rfl ?_
      have h0' : a.al = b.al := by omega
      exact ⟨by unfold eqA; rw [h1, h2, h0', beq_self_eq_true]; rfl, E⟩
    refine Sq.notF .plain rfl rfl ?_
    refine Sq.nil ?_
    refine Eq.next ?_
    refine Cq.thn rfl ?_
    refine Cq.seq ?_
    refine Cq.region ?_
    refine Sq.assign .plain rfl rfl ?_
    refine Sq.nil ?_
    refine Eq.next ?_
    refine Cq.ret ?_
    refine Eq.pastRet ?_
    refine Eq.ret1 rfl rfl ?_
    have h0' : a.al = b.al := by omega
    exact ⟨by unfold eqA; rw [h1, h2, h0', beq_self_eq_true]; rfl, E⟩
  refine Sq.notF .plain rfl rfl ?_
  refine Sq.nil ?_
  refine Eq.next ?_
  refine Cq.thn rfl ?_
  refine Cq.seq ?_
  refine Cq.region ?_
  refine Sq.assign .plain rfl rfl ?_
  refine Sq.nil ?_
  refine Eq.next ?_
  refine Cq.ret ?_
  refine Eq.pastRet ?_
  refine Eq.ret1 rfl rfl ?_
  have h0' : a.al = b.al := by omega
  exact ⟨by unfold eqA; rw [h1, h0', beq_self_eq_true]; rfl, E⟩
end Go.Proofs.Ytdkdpmmfebdeaaa
set_option linter.unusedSimpArgs false
set_option linter.unusedVariables false
namespace Go.Proofs.Ytdkdpmmfebdeaaa
open Go.RowKit
set_option maxRecDepth 100000 in
theorem l1Place_c (al x : Int) (h : 0 ≤ al ∧ al ≤ 63) (hx : 0 ≤ x ∧ x ≤ 6) (w0 : World) : Ret Try.prog 85 #[Value.int .i64 al, Value.int .i64 x] w0 (fun v w => v = .int .i64 (place al x : Nat) ∧ w0 = w) := by
  refine Ret.of (args := [Value.int .i64 al, Value.int .i64 x]) Try.func85 rfl rfl rfl ?_
  rintro _ rfl
  show Cq _ _ _ _ [(0, Value.int .i64 al), (1, Value.int .i64 x)] _
  refine Cq.seq ?_
  refine Cq.region ?_
  refine Sq.assign .plain rfl rfl ?_
  refine Sq.nil ?_
  refine Eq.next ?_
  refine Cq.seq ?_
  refine Cq.region ?_
  refine Sq.assign .plain rfl rfl ?_
  refine Sq.nil ?_
  refine Eq.next ?_
  refine Cq.seq ?_
  refine Cq.seq ?_
  refine Cq.region ?_
  refine Sq.assign .plain rfl rfl ?_
  refine Sq.nil ?_
  refine Eq.next ?_
  refine Cq.block ?_
  refine Cq.loop (fun nn w ls => ∃ (k : Int), ∃ (n : Int), ls = [(0, Value.int .i64 al), (1, Value.int .i64 x), (5, Value.int .i64 n), (6, Value.int .i64 k)] ∧ w0 = w ∧ (0 ≤ k ∧ k ≤ x) ∧ (n = ((lettersTo al k.toNat).length : Nat) ∧ n ≤ k) ∧ nn = (x - k).toNat) _ _ ⟨0, 0, rfl, rfl, by omega, ⟨rfl, by omega⟩, rfl⟩ (.cons rfl (.cons rfl (.cons rfl (.cons rfl (.nil))))) ?_
  rintro n1 w ls ⟨k, n, rfl, rfl, hk, hn, rfl⟩
  refine Cq.seq ?_
  refine Cq.seq ?_
  refine Cq.region ?_
  refine Sq.move .plain rfl rfl ?_
  refine Sq.move .plain rfl rfl ?_
  refine Sq.lss .plain rfl rfl rfl ?_
  refine Sq.part (fun c1 => ?_) (fun c1 => ?_)
  · refine Sq.nil ?_
    refine Eq.next ?_
    refine Cq.thn rfl ?_
    refine Cq.skip ?_
    refine Eq.next ?_
    refine Cq.seq ?_
    refine Cq.block ?_
    refine Cq.seq ?_
    refine Cq.region ?_
    refine Sq.move .plain rfl rfl ?_
    refine Sq.move .plain rfl rfl ?_
    refine Sq.call fn84 .plain rfl rfl (l1Has_c _ _ (by omega) (by omega) _) ?_
    rintro _ _ ⟨rfl, rfl⟩
    refine Sq.partB (fun hb => ?_) (fun hb => ?_)
    · refine Sq.nil ?_
      refine Eq.next ?_
      refine Cq.thn rfl ?_
      refine Cq.region ?_
      refine Sq.move .plain rfl rfl ?_
      refine Sq.add .plain rfl rfl rfl (by omega) ?_
      refine Sq.assign .plain rfl rfl ?_
      refine Sq.nil ?_
      refine Eq.end ?_
      refine Eq.next ?_
      refine Cq.region ?_
      refine Sq.move .plain rfl rfl ?_
      refine Sq.add .plain rfl rfl rfl (by omega) ?_
      refine Sq.assign .plain rfl rfl ?_
      refine Sq.nil ?_
      have e1 := toNat_succ hk.1
      have hb' : hs al (k.toNat : Int) = true := by rw [Int.toNat_of_nonneg hk.1]; exact hb
      refine Eq.round _ _ ⟨k + 1, _, rfl, rfl, by omega, ⟨by rw [e1, lettersTo_T hb', List.length_append, hn.1]; rfl, by omega⟩, rfl⟩ (by omega) (.cons rfl (.cons rfl (.cons rfl (.cons rfl (.nil)))))
    refine Sq.nil ?_
    refine Eq.next ?_
    refine Cq.els rfl ?_
    refine Cq.skip ?_
    refine Eq.end ?_
    refine Eq.next ?_
    refine Cq.region ?_
    refine Sq.move .plain rfl rfl ?_
    refine Sq.add .plain rfl rfl rfl (by omega) ?_
    refine Sq.assign .plain rfl rfl ?_
    refine Sq.nil ?_
    have e1 := toNat_succ hk.1
    have hb' : hs al (k.toNat : Int) = false := by rw [Int.toNat_of_nonneg hk.1]; exact hb
    refine Eq.round _ _ ⟨k + 1, _, rfl, rfl, by omega, ⟨by rw [e1, lettersTo_F hb']; exact hn.1, by omega⟩, rfl⟩ (by omega) (.cons rfl (.cons rfl (.cons rfl (.cons rfl (.nil)))))
  refine Sq.nil ?_
  refine Eq.next ?_
  refine Cq.els rfl ?_
  refine Cq.exit ?_
  refine Eq.past ?_
  refine Eq.past ?_
  refine Eq.hit ?_
  refine Eq.next ?_
  refine Cq.seq ?_
  refine Cq.region ?_
  refine Sq.move .plain rfl rfl ?_
  refine Sq.assign .plain rfl rfl ?_
  refine Sq.nil ?_
  refine Eq.next ?_
  refine Cq.ret ?_
  refine Eq.ret1 rfl rfl ?_
  obtain rfl : k = x := by omega
  exact ⟨by rw [hn.1]; rfl, rfl⟩
set_option maxRecDepth 100000 in
theorem l3Go_c (w0 : World) (a : A) (nx ac : Value) (hnx : Rows w0 52 3 nx a.next) (hac : Bools w0 4 ac a.acc) (hv : validA a = true) (q x : Int) (hq : 0 ≤ q ∧ q < a.next.length) (hx : 0 ≤ x ∧ x < 6) : Ret Try.prog 53 #[Value.agg #[Value.int .i64 a.al, nx, ac], Value.int .i64 q, Value.int .i64 x] w0 (fun v w => v = .int .i64 (goA a q x) ∧ Ext w0 w) := by
  have E := Ext.refl w0
  have hal := (validA_spec.1 hv).1
  refine Ret.of (args := [Value.agg #[Value.int .i64 a.al, nx, ac], Value.int .i64 q, Value.int .i64 x]) Try.func53 rfl rfl rfl ?_
  rintro _ rfl
  show Cq _ _ _ _ [(0, Value.agg #[Value.int .i64 a.al, nx, ac]), (1, Value.int .i64 q), (2, Value.int .i64 x)] _
  refine Cq.seq ?_
  refine Cq.region ?_
  refine Sq.box .plain rfl rfl (fun b1 w2 e3 hB4 hlo5 => ?_)
  have hd6 := Nat.le_trans (Below.size E) hlo5
  have hs7 := Below.size e3
  replace E := E.trans e3
  refine Sq.assign .plain rfl rfl ?_
  refine Sq.nil ?_
  refine Eq.next ?_
  refine Cq.seq ?_
  refine Cq.seq ?_
  refine Cq.region ?_
  refine Sq.fieldAddr fld27_0 .plain rfl rfl ?_
  refine Sq.loadB one3 .plain rfl rfl hB4 rfl ?_
  refine Sq.move .plain rfl rfl ?_
  refine Sq.call fn84 .plain rfl rfl (l1Has_c _ _ (by omega) (by omega) _) ?_
  rintro _ _ ⟨rfl, rfl⟩
  refine Sq.partB (fun hh => ?_) (fun hh => ?_)
  · refine Sq.notT .plain rfl rfl ?_
    refine Sq.nil ?_
    refine Eq.next ?_
    refine Cq.els rfl ?_
    refine Cq.skip ?_
    refine Eq.next ?_
    refine Cq.seq ?_
    refine Cq.drawS 11 (fun w' => Blk w' b1 27 [Value.int .i64 a.al, nx, ac] ∧ Ext w0 w') mixed (⟨hB4, E⟩) (fun w8 e9 hS => ?_)
    clear hS
    have hs10 := Below.size e9
    replace E := E.trans e9
    replace hB4 := hB4.ext e9
    refine Gq.st 0 rfl (by kernel_rfl) rfl .plain rfl (fun _ _ _ h => h) ⟨hB4, E⟩ (fun w' x => Still.fieldAddr fld27_1 rfl) ?_
    refine Gq.st 1 rfl (by kernel_rfl) rfl .plain rfl (fun _ _ _ h => h) ⟨hB4, E⟩ (fun w' x => Still.loadB one22 rfl x.1 rfl) ?_
    refine Gq.st 2 rfl (by kernel_rfl) rfl .plain rfl (fun _ _ _ h => h) ⟨hB4, E⟩ (fun w' x => Still.move rfl) ?_
    obtain ⟨p11, r13, hp12_w8, hr14⟩ := Rows.at hnx (i := q) (by omega) (by omega)
    refine Gq.st 3 rfl (by kernel_rfl) rfl .plain rfl (fun _ _ _ h => h) ⟨hB4, E⟩ (fun w' x => Still.at' sl22 hp12_w8 rfl rfl) ?_
    refine Gq.st 4 rfl (by kernel_rfl) rfl .plain rfl (fun _ _ _ h => h) ⟨hB4, E⟩ (fun w' x => Still.loadA one52 rfl (hp12_w8.ext (x.2)).1) ?_
    refine Gq.st 5 rfl (by kernel_rfl) rfl .plain rfl (fun _ _ _ h => h) ⟨hB4, E⟩ (fun w' x => Still.fieldAddr fld27_0 rfl) ?_
    refine Gq.st 6 rfl (by kernel_rfl) rfl .plain rfl (fun _ _ _ h => h) ⟨hB4, E⟩ (fun w' x => Still.loadB one3 rfl x.1 rfl) ?_
    refine Gq.st 7 rfl (by kernel_rfl) rfl .plain rfl (fun _ _ _ h => h) ⟨hB4, E⟩ (fun w' x => Still.move rfl) ?_
    refine Gq.one 8 rfl (by kernel_rfl) ?_
    refine Sq.call fn85 .plain rfl rfl (l1Place_c a.al x (by omega) (by omega) _) ?_
    rintro _ _ ⟨rfl, rfl⟩
    refine Sq.nil ?_
    refine Eq.goes (fun _ => ⟨hB4, E⟩) ?_
    obtain ⟨p15, hp16_w8⟩ := Ints.at hr14 (i := ((place a.al x : Nat) : Int)) (by omega) (by have := place_lt hal hx hh; rw [valid_row hv (by omega)]; rw [Int.toNat_natCast]; exact this.1)
    refine Gq.st 9 rfl (by kernel_rfl) rfl .plain rfl (fun _ _ _ h => h) ⟨hB4, E⟩ (fun w' x => Still.at' sl52 hp16_w8 rfl rfl) ?_
    refine Gq.st 10 rfl (by kernel_rfl) rfl .plain rfl (fun _ _ _ h => h) ⟨hB4, E⟩ (fun w' x => Still.loadA one3 rfl (hp16_w8.ext (x.2)).1) ?_
    refine Gq.one 11 rfl (by kernel_rfl) ?_
    refine Sq.assign .plain rfl rfl ?_
    refine Sq.nil ?_
    refine Eq.goes (fun h => absurd h (by decide)) ?_
    refine Gq.done (by kernel_rfl) ?_
    refine Eq.next ?_
    refine Cq.ret ?_
    refine Eq.ret1 rfl rfl ?_
    exact ⟨by rw [goA_yes hh]; rfl, E⟩
  refine Sq.notF .plain rfl rfl ?_
  refine Sq.nil ?_
  refine Eq.next ?_
  refine Cq.thn rfl ?_
  refine Cq.seq ?_
  refine Cq.region ?_
  refine Sq.move .plain rfl rfl ?_
  refine Sq.assign .plain rfl rfl ?_
  refine Sq.nil ?_
  refine Eq.next ?_
  refine Cq.ret ?_
  refine Eq.pastRet ?_
  refine Eq.ret1 rfl rfl ?_
  exact ⟨by rw [goA_no hh], E⟩
set_option maxRecDepth 100000 in
theorem tableOf_c (w0 : World) (a : A) (nx ac : Value) (hnx : Rows w0 52 3 nx a.next) (hac : Bools w0 4 ac a.acc) (hv : validA a = true) : Ret Try.prog 56 #[Value.agg #[Value.int .i64 a.al, nx, ac]] w0 (fun v w => (∃ b xs, v = .slice (some ⟨b, 0, none⟩) a.next.length a.next.length ∧ w0.heap.size ≤ b ∧ Blk w b 64 (xs.map (Value.int .i64)) ∧ Tab a xs) ∧ Ext w0 w) := by
  have E := Ext.refl w0
  have hvs := validA_spec.1 hv
  have hvs1 := hvs.1
  have hvs2 := hvs.2.1
  refine Ret.of (args := [Value.agg #[Value.int .i64 a.al, nx, ac]]) Try.func56 rfl rfl rfl ?_
  rintro _ rfl
  show Cq _ _ _ _ [(0, Value.agg #[Value.int .i64 a.al, nx, ac])] _
  refine Cq.seq ?_
  refine Cq.region ?_
  refine Sq.box .plain rfl rfl (fun b1 w2 e3 hB4 hlo5 => ?_)
  have hd6 := Nat.le_trans (Below.size E) hlo5
  have hs7 := Below.size e3
  replace E := E.trans e3
  refine Sq.assign .plain rfl rfl ?_
  refine Sq.nil ?_
  refine Eq.next ?_
  refine Cq.seq ?_
  refine Cq.region ?_
  refine Sq.fieldAddr fld27_1 .plain rfl rfl ?_
  refine Sq.loadB one22 .plain rfl rfl hB4 rfl ?_
  refine Sq.lenRows (hnx.ext E) .plain rfl und22 rfl ?_
  refine Sq.makeK slk60 (mk60).1 (by decide) (mk60).2 .plain rfl rfl rfl rfl (by omega) (fun b8 w9 e10 hlo11 hB12 => ?_)
  have hd13 := Nat.le_trans (Below.size E) hlo11
  have hd14 := Nat.lt_of_lt_of_le hB4.lt hlo11
  have hs15 := Below.size e10
  replace E := E.trans e10
  replace hB4 := hB4.ext e10
  refine Sq.assign .plain rfl rfl ?_
  refine Sq.nil ?_
  refine Eq.next ?_
  refine Cq.seq ?_
  refine Cq.region ?_
  refine Sq.fieldAddr fld27_0 .plain rfl rfl ?_
  refine Sq.loadB one3 .plain rfl rfl hB4 rfl ?_
  have hd20 := hB4.lt
  have hd21 := hB12.lt
  refine Sq.call fn58 .plain rfl rfl (lettersOf_c a.al (by omega) _) ?_
  rintro v16 w17 ⟨hl19, e18⟩
  have hs22 := Below.size E
  have hs23 := Below.size e18
  replace E := E.trans e18
  replace hB4 := hB4.ext e18
  replace hB12 := hB12.ext e18
  refine Sq.assign .plain rfl rfl ?_
  refine Sq.nil ?_
  refine Eq.next ?_
  refine Cq.seq ?_
  refine Cq.seq ?_
  refine Cq.region ?_
  refine Sq.fieldAddr fld27_1 .plain rfl rfl ?_
  refine Sq.loadB one22 .plain rfl rfl hB4 rfl ?_
  refine Sq.lenRows (hnx.ext E) .plain rfl und22 rfl ?_
  refine Sq.move .plain rfl rfl ?_
  refine Sq.nil ?_
  refine Eq.next ?_
  refine Cq.block ?_
  refine Cq.loop (fun nn w ls => ∃ (q : Int), ∃ (xs : List Int), ls = [(3, Value.slice (some ⟨b8, 0, none⟩) a.next.length a.next.length), (4, v16), (18, nx), (19, Value.int .i64 (List.length a.next : Int)), (20, Value.int .i64 q)] ∧ (0 ≤ q ∧ q ≤ a.next.length) ∧ Blk w b8 64 (xs.map (Value.int .i64)) ∧ TabPre a q.toNat 0 xs ∧ Ext w0 w ∧ Own w w9.heap.size 3 v16 ((letters a.al).map (Value.int .i64)) ∧ nn = ((a.next.length : Int) - q).toNat) _ _ ⟨0, _, rfl, by omega, hB12, TabPre.zero a, E, hl19, rfl⟩ (.cons rfl (.cons rfl (.cons rfl (.cons rfl (.cons rfl (.nil)))))) ?_
  rintro nn wl1 ls ⟨q, xs, rfl, hq, hT, ht, E, hl19, rfl⟩
  have hs24 := Below.size E
  have htl := ht.1
  refine Cq.seq ?_
  refine Cq.region ?_
  refine Sq.lss .plain rfl rfl rfl ?_
  refine Sq.part (fun c25 => ?_) (fun c25 => ?_)
  · refine Sq.nil ?_
    refine Eq.next ?_
    refine Cq.seq ?_
    refine Cq.thn rfl ?_
    refine Cq.skip ?_
    refine Eq.next ?_
    refine Cq.seq ?_
    refine Cq.block ?_
    refine Cq.seq ?_
    refine Cq.region ?_
    refine Sq.move .plain rfl rfl ?_
    refine Sq.idxRows sl22 one52 (hnx.ext E) .plain rfl rfl rfl .plain rfl rfl (by omega) (by omega) (fun r26 hr27 => ?_)
    refine Sq.assign .plain rfl rfl ?_
    refine Sq.assign .plain rfl rfl ?_
    refine Sq.nil ?_
    refine Eq.next ?_
    refine Cq.seq ?_
    refine Cq.seq ?_
    refine Cq.region ?_
    refine Sq.move .plain rfl rfl ?_
    refine Sq.nil ?_
    refine Eq.next ?_
    refine Cq.block ?_
    refine Cq.loop (fun nn w ls => ∃ (l : Int), ∃ (xs : List Int), ls = [(3, Value.slice (some ⟨b8, 0, none⟩) a.next.length a.next.length), (4, v16), (5, Value.int .i64 q), (6, r26), (18, nx), (19, Value.int .i64 (List.length a.next : Int)), (20, Value.int .i64 q), (25, Value.int .i64 l)] ∧ (0 ≤ l ∧ l ≤ 6) ∧ Blk w b8 64 (xs.map (Value.int .i64)) ∧ TabPre a q.toNat l.toNat xs ∧ Ext w0 w ∧ Own w w9.heap.size 3 v16 ((letters a.al).map (Value.int .i64)) ∧ Ints w 3 r26 (a.next.getD q.toNat []) ∧ nn = (6 - l).toNat) _ _ ⟨0, _, rfl, by omega, hT, ht, E, hl19, hr27, rfl⟩ (.cons rfl (.cons rfl (.cons rfl (.cons rfl (.cons rfl (.cons rfl (.cons rfl (.cons rfl (.nil))))))))) ?_
    rintro nn wl2 ls ⟨l, xs, rfl, hl, hT, ht, E, hl19, hr27, rfl⟩
    have hs28 := Below.size E
    have htl := ht.1
    refine Cq.seq ?_
    refine Cq.region ?_
    refine Sq.lss .plain rfl rfl rfl ?_
    refine Sq.part (fun c29 => ?_) (fun c29 => ?_)
    · refine Sq.nil ?_
      refine Eq.next ?_
      refine Cq.seq ?_
      refine Cq.thn rfl ?_
      refine Cq.skip ?_
      refine Eq.next ?_
      refine Cq.seq ?_
      refine Cq.block ?_
      refine Cq.seq ?_
      refine Cq.region ?_
      refine Sq.move .plain rfl rfl ?_
      refine Sq.assign .plain rfl rfl ?_
      refine Sq.nil ?_
      refine Eq.next ?_
      refine Cq.region ?_
      refine Sq.move .plain rfl rfl ?_
      refine Sq.move .plain rfl rfl ?_
      refine Sq.move .plain rfl rfl ?_
      refine Sq.move .plain rfl rfl ?_
      refine Sq.val .plain rfl rfl (Still.ixS slk60 rfl rfl (by omega) (by omega)) ?_
      refine Sq.val .plain rfl rfl (Still.ixA ar64 rfl rfl (by omega) (by omega)) ?_
      refine Sq.store one3 .plain rfl rfl rfl hT (by rw [List.length_map]; omega) (fun w30 g31 hB32 => ?_)
      have hs33 := World.grownBy.size g31
      replace E := E.grown g31 (fun k hk => by injection hk with hk; subst hk; omega)
      replace hl19 := hl19.stored g31 hT (by decide)
      replace hr27 := hr27.stored g31 hT (by decide)
      replace hT := hB32
      rw [← List.map_set] at hT
      refine Sq.nil ?_
      refine Eq.end ?_
      refine Eq.next ?_
      refine Cq.region ?_
      refine Sq.add .plain rfl rfl rfl (by omega) ?_
      refine Sq.move .plain rfl rfl ?_
      refine Sq.nil ?_
      have e1 := toNat_succ hl.1
      have e2 := ht.step (by omega) (by omega)
      rw [Int.toNat_of_nonneg hq.1] at e2
      refine Eq.round _ _ ⟨l + 1, _, rfl, by omega, by rw [Nat.zero_add] at hT; exact hT, by rw [e1]; exact e2, E, hl19, hr27, rfl⟩ (by omega) (.cons rfl (.cons rfl (.cons rfl (.cons rfl (.cons rfl (.cons rfl (.cons rfl (.cons rfl (.nil)))))))))
    refine Sq.nil ?_
    refine Eq.next ?_
    refine Cq.seq ?_
    refine Cq.els rfl ?_
    refine Cq.exit ?_
    refine Eq.past ?_
    refine Eq.past ?_
    refine Eq.hit ?_
    refine Eq.next ?_
    refine Cq.seq ?_
    refine Cq.region ?_
    refine Sq.move .plain rfl rfl ?_
    refine Sq.lenInts (Own.row hl19) .plain rfl und52 rfl ?_
    refine Sq.move .plain rfl rfl ?_
    refine Sq.nil ?_
    refine Eq.next ?_
    refine Cq.block ?_
    obtain rfl : l = 6 := by omega
    refine Cq.loop (fun nn w ls => ∃ (k : Int), ∃ (xs : List Int), ls = [(3, Value.slice (some ⟨b8, 0, none⟩) a.next.length a.next.length), (4, v16), (5, Value.int .i64 q), (6, r26), (18, nx), (19, Value.int .i64 (List.length a.next : Int)), (20, Value.int .i64 q), (35, v16), (36, Value.int .i64 ((List.length (letters a.al) : Int))), (37, Value.int .i64 k)] ∧ (0 ≤ k ∧ k ≤ (letters a.al).length) ∧ Blk w b8 64 (xs.map (Value.int .i64)) ∧ TabAt a q.toNat k.toNat xs ∧ Ext w0 w ∧ Own w w9.heap.size 3 v16 ((letters a.al).map (Value.int .i64)) ∧ Ints w 3 r26 (a.next.getD q.toNat []) ∧ nn = ((letters a.al).length - k).toNat) _ _ ⟨0, _, rfl, by omega, hT, ht.at, E, hl19, hr27, rfl⟩ (.cons rfl (.cons rfl (.cons rfl (.cons rfl (.cons rfl (.cons rfl (.cons rfl (.cons rfl (.cons rfl (.cons rfl (.nil))))))))))) ?_
    rintro nn wl3 ls ⟨k, xs, rfl, hk, hT, ht, E, hl19, hr27, rfl⟩
    have hs34 := Below.size E
    have htl := ht.1
    have hlet := letters_len6 a.al
    have hlt := letters_at a.al (k := k.toNat)
    have hvr := valid_row hv (k := q.toNat) (by omega)
    refine Cq.seq ?_
    refine Cq.region ?_
    refine Sq.lss .plain rfl rfl rfl ?_
    refine Sq.part (fun c35 => ?_) (fun c35 => ?_)
    · refine Sq.nil ?_
      refine Eq.next ?_
      refine Cq.seq ?_
      refine Cq.thn rfl ?_
      refine Cq.skip ?_
      refine Eq.next ?_
      refine Cq.seq ?_
      refine Cq.block ?_
      refine Cq.seq ?_
      refine Cq.region ?_
      refine Sq.move .plain rfl rfl ?_
      refine Sq.idxInts sl52 one3 (Own.row hl19) .plain rfl rfl rfl .plain rfl rfl (by omega) (by omega) ?_
      refine Sq.assign .plain rfl rfl ?_
      refine Sq.assign .plain rfl rfl ?_
      refine Sq.nil ?_
      refine Eq.next ?_
      obtain ⟨pA, hpA⟩ := Ints.at hr27 (i := k) (by omega) (by omega)
      refine Cq.drawS 10 (fun w' => At w' 3 r26 k pA (.int .i64 ((a.next.getD q.toNat []).getD k.toNat 0))) mixed (hpA) (fun w36 e37 hS => ?_)
      clear hS
      have hs38 := Below.size e37
      replace E := E.trans e37
      replace hl19 := hl19.ext e37
      replace hr27 := hr27.ext e37
      replace hT := hT.ext e37
      replace hpA := hpA.ext e37
      refine Gq.st 0 rfl (by kernel_rfl) rfl .plain rfl (fun _ _ _ h => h) hpA (fun w' x => Still.move rfl) ?_
      refine Gq.st 1 rfl (by kernel_rfl) rfl .plain rfl (fun _ _ _ h => h) hpA (fun w' x => Still.move rfl) ?_
      refine Gq.st 2 rfl (by kernel_rfl) rfl .plain rfl (fun _ _ _ h => h) hpA (fun w' x => Still.move rfl) ?_
      refine Gq.st 3 rfl (by kernel_rfl) rfl .plain rfl (fun _ _ _ h => h) hpA (fun w' x => Still.move rfl) ?_
      refine Gq.st 4 rfl (by kernel_rfl) rfl .plain rfl (fun _ _ _ h => h) hpA (fun w' x => Still.move rfl) ?_
      refine Gq.st 5 rfl (by kernel_rfl) rfl .plain rfl (fun _ _ _ h => h) hpA (fun w' x => Still.at' sl52 hpA rfl rfl) ?_
      refine Gq.st 6 rfl (by kernel_rfl) rfl .plain rfl (fun _ _ _ h => h) hpA (fun w' x => Still.loadA one3 rfl (x).1) ?_
      refine Gq.st 7 rfl (by kernel_rfl) rfl .plain rfl (fun _ _ _ h => h) hpA (fun w' x => Still.ixS slk60 rfl rfl (by omega) (by omega)) ?_
      refine Gq.st 8 rfl (by kernel_rfl) rfl .plain rfl (fun _ _ _ h => h) hpA (fun w' x => Still.ixA ar64 rfl rfl (by have := hlt (by omega); omega) (by have := hlt (by omega); omega)) ?_
      refine Gq.one 9 rfl (by kernel_rfl) ?_
      refine Sq.store one3 .plain rfl rfl rfl hT (by rw [List.length_map]; omega) (fun w39 g40 hB41 => ?_)
      have hs42 := World.grownBy.size g40
      replace E := E.grown g40 (fun k hk => by injection hk with hk; subst hk; omega)
      replace hl19 := hl19.stored g40 hT (by decide)
      replace hr27 := hr27.stored g40 hT (by decide)
      replace hpA := hpA.stored g40 hT (by decide)
      replace hT := hB41
      rw [← List.map_set] at hT
      refine Sq.nil ?_
      refine Eq.goes (fun _ => hpA) ?_
      refine Gq.done (by kernel_rfl) ?_
      refine Eq.end ?_
      refine Eq.next ?_
      refine Cq.region ?_
      refine Sq.add .plain rfl rfl rfl (by omega) ?_
      refine Sq.move .plain rfl rfl ?_
      refine Sq.nil ?_
      have e1 := toNat_succ hk.1
      refine Eq.round _ _ ⟨k + 1, _, rfl, by omega, by rw [Nat.zero_add] at hT; exact hT, by rw [e1]; exact ht.step hvs1 (by omega) (by omega), E, hl19, hr27, rfl⟩ (by omega) (.cons rfl (.cons rfl (.cons rfl (.cons rfl (.cons rfl (.cons rfl (.cons rfl (.cons rfl (.cons rfl (.cons rfl (.nil)))))))))))
    refine Sq.nil ?_
    refine Eq.next ?_
    refine Cq.seq ?_
    refine Cq.els rfl ?_
    refine Cq.exit ?_
    refine Eq.past ?_
    refine Eq.past ?_
    refine Eq.hit ?_
    refine Eq.end ?_
    refine Eq.next ?_
    refine Cq.region ?_
    refine Sq.add .plain rfl rfl rfl (by omega) ?_
    refine Sq.move .plain rfl rfl ?_
    refine Sq.nil ?_
    have e1 := toNat_succ hq.1
    refine Eq.round _ _ ⟨q + 1, _, rfl, by omega, hT, by rw [e1]; exact ht.next hvs1 (by omega) (by omega), E, hl19, rfl⟩ (by omega) (.cons rfl (.cons rfl (.cons rfl (.cons rfl (.cons rfl (.nil))))))
  refine Sq.nil ?_
  refine Eq.next ?_
  refine Cq.seq ?_
  refine Cq.els rfl ?_
  refine Cq.exit ?_
  refine Eq.past ?_
  refine Eq.past ?_
  refine Eq.hit ?_
  refine Eq.next ?_
  refine Cq.seq ?_
  refine Cq.region ?_
  refine Sq.move .plain rfl rfl ?_
  refine Sq.assign .plain rfl rfl ?_
  refine Sq.nil ?_
  refine Eq.next ?_
  refine Cq.ret ?_
  refine Eq.ret1 rfl rfl ?_
  exact ⟨⟨_, xs, rfl, by omega, hT, ht.done (by omega)⟩, E⟩
end Go.Proofs.Ytdkdpmmfebdeaaa
set_option linter.unusedSimpArgs false
set_option linter.unusedVariables false
namespace Go.Proofs.Ytdkdpmmfebdeaaa
open Go.RowKit
set_option maxRecDepth 100000 in
theorem numbered_c (w0 : World) (f : Int → Int → Int) (s : Int) (L : List Int) (lv fv : Value) (lim : Int) (D : Int → Prop) (hlim : 1 ≤ lim ∧ lim ≤ 1000) (hx : Ints w0 3 lv L) (hLl : L.length ≤ 100) (hL : ∀ x ∈ L, 0 ≤ x ∧ x < 6) (hD0 : D s) (hD : ∀ q, D q → ∀ x ∈ L, D (f q x)) (hM0 : ∀ i, (bfs f s L i).length ≤ 150) (hclo : Clo Try.prog w0 fv D f) : Ret Try.prog 57 #[Value.int .i64 s, lv, Value.int .i64 lim, fv] w0 (fun v w => (∃ nv xv, v = .tuple #[nv, xv, .bool (decide ((((ord f s L).length : Nat) : Int) ≤ lim))] ∧ Own w w0.heap.size 3 nv ((if (((ord f s L).length : Nat) : Int) ≤ lim then ord f s L else []).map (Value.int .i64)) ∧ OwnRows w w0.heap.size w.heap.size 52 3 xv (if (((ord f s L).length : Nat) : Int) ≤ lim then (ord f s L).map (rowAt f L (ord f s L)) else [])) ∧ Ext w0 w) := by
  have E := Ext.refl w0
  obtain ⟨kf, fnf, cf, hfv, hFn, hcall⟩ := hclo
  refine Ret.of (args := [Value.int .i64 s, lv, Value.int .i64 lim, fv]) Try.func57 rfl rfl rfl ?_
  rintro _ rfl
  show Cq _ _ _ _ [(0, Value.int .i64 s), (1, lv), (2, Value.int .i64 lim), (3, fv)] _
  refine Cq.seq ?_
  refine Cq.region ?_
  refine Sq.assign .plain rfl rfl ?_
  refine Sq.assign .plain rfl rfl ?_
  refine Sq.assign .plain rfl rfl ?_
  refine Sq.nil ?_
  refine Eq.next ?_
  refine Cq.seq ?_
  refine Cq.region ?_
  refine Sq.move .plain rfl rfl ?_
  refine Sq.lit sl52 rfl rfl .plain rfl rfl (one_cons rfl one_nil) (fun b1 w2 e3 hlo4 ho5 _ => ?_)
  have hs6 := Below.size e3
  replace E := E.trans e3
  have hno := ho5 w0.heap.size (by omega)
  refine Sq.assign .plain rfl rfl ?_
  refine Sq.nil ?_
  refine Eq.next ?_
  refine Cq.seq ?_
  refine Cq.region ?_
  refine Sq.makeMap encI .plain rfl (fun mb w7 e8 hM hlo9 => ?_)
  have hs10 := Below.size e8
  replace E := E.trans e8
  replace hno := hno.ext e8
  have hmb : w0.heap.size ≤ mb := by omega
  refine Sq.move .plain rfl rfl ?_
  refine Sq.insert key82 hM .plain rfl (k := s) rfl rfl rfl (by simp) (fun w11 g12 hm13 => ?_)
  have hs14 := World.grownBy.size g12
  replace E := E.mapped g12 (by omega)
  replace hno := hno.mapped hM g12
  replace hM := hm13
  simp only [List.nil_append] at hM
  refine Sq.move .plain rfl rfl ?_
  refine Sq.assign .plain rfl rfl ?_
  refine Sq.nil ?_
  refine Eq.next ?_
  refine Cq.seq ?_
  refine Cq.region ?_
  refine Sq.assign .plain rfl rfl ?_
  refine Sq.nil ?_
  refine Eq.next ?_
  refine Cq.seq ?_
  refine Cq.seq ?_
  refine Cq.region ?_
  refine Sq.assign .plain rfl rfl ?_
  refine Sq.nil ?_
  refine Eq.next ?_
  refine Cq.block ?_
  refine Cq.loop (fun nn w ls => ∃ (i : Int), ∃ (nv : Value), ∃ (xv : Value), ls = [(1, lv), (2, Value.int .i64 lim), (3, fv), (11, nv), (12, Value.map (some mb)), (13, xv), (14, Value.int .i64 i)] ∧ (0 ≤ i ∧ i ≤ (bfs f s L i.toNat).length) ∧ Own w w0.heap.size 3 nv ((bfs f s L i.toNat).map (Value.int .i64)) ∧ MapN encI w mb (bfs f s L i.toNat) ∧ OwnRowsZ w w0.heap.size w.heap.size 52 3 xv (rowsAt f L (bfs f s L i.toNat) i.toNat) nv ∧ (((bfs f s L i.toNat).length : Nat) : Int) ≤ lim ∧ Ext w0 w ∧ nn = (151 - i).toNat) _ _ ⟨0, _, _, rfl, ⟨by omega, by omega⟩, hno, hM, OwnRowsZ.nil _ _ _ _ _ _, by show ((1 : Nat) : Int) ≤ lim; omega, E, rfl⟩ (.cons rfl (.cons rfl (.cons rfl (.cons rfl (.cons rfl (.cons rfl (.cons rfl (.nil)))))))) ?_
  rintro nn wl1 ls ⟨i, nv, xv, rfl, hi, hno, hM, hrs, hlm, E, rfl⟩
  have hs15 := Below.size E
  have hMi := hM0 i.toNat
  have hMi1 := hM0 (i.toNat + 1)
  refine Cq.seq ?_
  refine Cq.seq ?_
  refine Cq.region ?_
  refine Sq.move .plain rfl rfl ?_
  refine Sq.move .plain rfl rfl ?_
  refine Sq.lenInts (Own.row hno) .plain rfl und52 rfl ?_
  refine Sq.lss .plain rfl rfl rfl ?_
  refine Sq.part (fun c16 => ?_) (fun c16 => ?_)
  · refine Sq.nil ?_
    refine Eq.next ?_
    refine Cq.thn rfl ?_
    refine Cq.skip ?_
    refine Eq.next ?_
    refine Cq.seq ?_
    refine Cq.block ?_
    refine Cq.seq ?_
    refine Cq.region ?_
    refine Sq.assign .plain rfl rfl ?_
    refine Sq.nil ?_
    refine Eq.next ?_
    refine Cq.seq ?_
    refine Cq.seq ?_
    refine Cq.region ?_
    refine Sq.move .plain rfl rfl ?_
    refine Sq.lenInts (hx.ext E) .plain rfl und52 rfl ?_
    refine Sq.move .plain rfl rfl ?_
    refine Sq.nil ?_
    refine Eq.next ?_
    refine Cq.block ?_
    obtain ⟨q, hq⟩ : ∃ q, (bfs f s L i.toNat)[i.toNat]? = some q := ⟨_, List.getElem?_eq_getElem (by omega)⟩
    have hDq : D q := bfs_all hD0 hD _ q (List.mem_of_getElem? hq)
    refine Cq.loop (fun nn w ls => ∃ (k : Int), ∃ (nv2 : Value), ∃ (rv : Value), ls = [(1, lv), (2, Value.int .i64 lim), (3, fv), (11, nv2), (12, Value.map (some mb)), (13, xv), (14, Value.int .i64 i), (15, rv), (32, lv), (33, Value.int .i64 (List.length L : Int)), (34, Value.int .i64 k)] ∧ (0 ≤ k ∧ k ≤ L.length) ∧ wl1.heap.size ≤ w.heap.size ∧ Own w w0.heap.size 3 nv2 ((mid f s L i.toNat q k.toNat).map (Value.int .i64)) ∧ MapN encI w mb (mid f s L i.toNat q k.toNat) ∧ Own w wl1.heap.size 3 rv ((rowTo f L (mid f s L i.toNat q k.toNat) q k.toNat).map (Value.int .i64)) ∧ OwnRowsZ w w0.heap.size wl1.heap.size 52 3 xv (rowsAt f L (bfs f s L i.toNat) i.toNat) nv2 ∧ Apart nv2 rv ∧ (((mid f s L i.toNat q k.toNat).length : Nat) : Int) ≤ lim ∧ Ext w0 w ∧ nn = ((L.length : Int) - k).toNat) _ _ ⟨0, _, _, rfl, by omega, by omega, hno, hM, Own.nil _ _ _, hrs, (Apart.nil _).symm, hlm, E, rfl⟩ (.cons rfl (.cons rfl (.cons rfl (.cons rfl (.cons rfl (.cons rfl (.cons rfl (.cons rfl (.cons rfl (.cons rfl (.cons rfl (.nil)))))))))))) ?_
    rintro nn wl2 ls ⟨k, nv2, rv, rfl, hk, hsz, hno, hM, hro, hrs, hap, hlk, E, rfl⟩
    have hs17 := Below.size E
    have hml := (mid_prefix0 (f := f) (s := s) (L := L) i.toNat q k.toNat).length_le
    have hmh := (mid_prefix (f := f) (s := s) (L := L) (k := k.toNat) hq).length_le
    have hmq := mid_at (k := k.toNat) hq
    have hrl : (rowTo f L (mid f s L i.toNat q k.toNat) q k.toNat).length ≤ L.length := by unfold rowTo; rw [List.length_map, List.length_take]; omega
    refine Cq.seq ?_
    refine Cq.region ?_
    refine Sq.lss .plain rfl rfl rfl ?_
    refine Sq.part (fun c18 => ?_) (fun c18 => ?_)
    · refine Sq.nil ?_
      refine Eq.next ?_
      refine Cq.seq ?_
      refine Cq.thn rfl ?_
      refine Cq.skip ?_
      refine Eq.next ?_
      refine Cq.seq ?_
      refine Cq.block ?_
      refine Cq.seq ?_
      refine Cq.region ?_
      refine Sq.idxInts sl52 one3 (hx.ext E) .plain rfl rfl rfl .plain rfl rfl (by omega) (by omega) ?_
      refine Sq.assign .plain rfl rfl ?_
      refine Sq.nil ?_
      refine Eq.next ?_
      refine Cq.seq ?_
      refine Cq.region ?_
      refine Sq.move .plain rfl rfl ?_
      refine Sq.move .plain rfl rfl ?_
      refine Sq.move .plain rfl rfl ?_
      refine Sq.idxInts sl52 one3 (Own.row hno) .plain rfl rfl rfl .plain rfl rfl (by omega) (by omega) ?_
      rw [hmq]
      refine Sq.move .plain rfl rfl ?_
      refine Sq.callC hFn .plain rfl (by rw [← hfv]; rfl) rfl (hcall _ q (L.getD k.toNat 0) E hDq (hL _ (getD_mem (by omega)))) ?_
      rintro _ w19 ⟨rfl, e20⟩
      have hs21 := Below.size e20
      replace E := E.trans e20
      replace hno := hno.ext e20
      replace hM := hM.ext e20
      replace hrs := hrs.ext e20
      replace hro := hro.ext e20
      refine Sq.assign .plain rfl rfl ?_
      refine Sq.nil ?_
      refine Eq.next ?_
      refine Cq.seq ?_
      refine Cq.region ?_
      refine Sq.move .plain rfl rfl ?_
      refine Sq.move .plain rfl rfl ?_
      refine Sq.lookup key82 hM .plain rfl rfl (k := f q (L.getD k.toNat 0)) rfl ?_
      refine Sq.move .plain rfl rfl ?_
      refine Sq.extract .plain rfl rfl rfl ?_
      refine Sq.extract .plain rfl rfl rfl ?_
      refine Sq.assign .plain rfl rfl ?_
      refine Sq.assign .plain rfl rfl ?_
      refine Sq.nil ?_
      refine Eq.next ?_
      refine Cq.seq ?_
      refine Cq.seq ?_
      refine Cq.region ?_
      refine Sq.move .plain rfl rfl ?_
      refine Sq.part (fun hin => ?_) (fun hin => ?_)
      · refine Sq.notT .plain rfl rfl ?_
        refine Sq.nil ?_
        refine Eq.next ?_
        refine Cq.els rfl ?_
        refine Cq.skip ?_
        refine Eq.next ?_
        refine Cq.region ?_
        refine Sq.move .plain rfl rfl ?_
        refine Sq.move .plain rfl rfl ?_
        refine Sq.lit sl52 rfl rfl .plain rfl rfl (one_cons rfl one_nil) (fun b22 w23 e24 hlo25 ho26 hk27 => ?_)
        have hs28 := Below.size e24
        replace E := E.trans e24
        replace hno := hno.ext e24
        replace hM := hM.ext e24
        replace hrs := hrs.ext e24
        replace hro := hro.ext e24
        refine Sq.app1F sl52 hro (one_ints _) (by omega) (by rw [List.length_map]; omega) hk27 rfl .plain rfl rfl rfl (fun v29 w30 ho32 g31 hf33 _ => ?_)
        have hs34 := World.grownBy.size g31
        replace E := E.owned hro g31 (by omega)
        replace hM := hM.owned hro g31
        replace hrs := hrs.apart hro g31 (Nat.le_refl _) (by decide)
        have hap2 := (hap.symm.grow hno hf33).symm
        replace hno := Own.other hno g31 hap.symm
        replace hro := Own.snocI ho32
        replace hap := hap2
        refine Sq.assign .plain rfl rfl ?_
        refine Sq.nil ?_
        refine Eq.end ?_
        refine Eq.next ?_
        refine Cq.region ?_
        refine Sq.add .plain rfl rfl rfl (by omega) ?_
        refine Sq.move .plain rfl rfl ?_
        refine Sq.nil ?_
        have e2 := toNat_succ hk.1
        have e5 := mid_succ (f := f) (s := s) (i := i.toNat) (q := q) (k := k.toNat) (L := L) (by omega)
        have e6 := rowTo_step (f := f) (q := q) (k := k.toNat) (L := L) (by omega) (mid_mem (f := f) (s := s) (i := i.toNat))
        rw [← e5] at e6
        rw [addNode_T hin] at e5
        rw [if_pos hin] at hro
        refine Eq.round _ _ ⟨k + 1, _, _, rfl, by omega, by omega, by rw [e2, e5]; exact hno, by rw [e2, e5]; exact hM, by rw [e2, e6, e5]; exact hro, hrs, hap, by rw [e2, e5]; exact hlk, E, rfl⟩ (by omega) (.cons rfl (.cons rfl (.cons rfl (.cons rfl (.cons rfl (.cons rfl (.cons rfl (.cons rfl (.cons rfl (.cons rfl (.cons rfl (.nil))))))))))))
      refine Sq.notF .plain rfl rfl ?_
      refine Sq.nil ?_
      refine Eq.next ?_
      refine Cq.thn rfl ?_
      refine Cq.seq ?_
      refine Cq.seq ?_
      refine Cq.region ?_
      refine Sq.move .plain rfl rfl ?_
      refine Sq.lenInts (Own.row hno) .plain rfl und52 rfl ?_
      refine Sq.move .plain rfl rfl ?_
      refine Sq.eql .plain rfl rfl rfl ?_
      refine Sq.part (fun hfull => ?_) (fun hfull => ?_)
      · refine Sq.nil ?_
        refine Eq.next ?_
        refine Cq.thn rfl ?_
        refine Cq.seq ?_
        refine Cq.region ?_
        refine Sq.assign .plain rfl rfl ?_
        refine Sq.assign .plain rfl rfl ?_
        refine Sq.assign .plain rfl rfl ?_
        refine Sq.nil ?_
        refine Eq.next ?_
        refine Cq.ret ?_
        refine Eq.pastRet ?_
        refine Eq.pastRet ?_
        refine Eq.outRet ?_
        refine Eq.pastRet ?_
        refine Eq.pastRet ?_
        refine Eq.outRet ?_
        refine Eq.pastRet ?_
        refine Eq.outRet ?_
        refine Eq.pastRet ?_
        refine Eq.pastRet ?_
        refine Eq.outRet ?_
        refine Eq.pastRet ?_
        refine Eq.ret3 rfl rfl rfl rfl ?_
        have e8 := ord_lim hq (by omega) hfull (by omega) hin
        exact ⟨⟨_, _, by rw [decide_eq_false e8], by rw [if_neg e8]; exact Own.nil _ _ _, by rw [if_neg e8]; exact OwnRows.nil _ _ _ _ _⟩, E⟩
      refine Sq.nil ?_
      refine Eq.next ?_
      refine Cq.els rfl ?_
      refine Cq.skip ?_
      refine Eq.next ?_
      refine Cq.seq ?_
      refine Cq.region ?_
      refine Sq.move .plain rfl rfl ?_
      refine Sq.lenInts (Own.row hno) .plain rfl und52 rfl ?_
      refine Sq.assign .plain rfl rfl ?_
      refine Sq.nil ?_
      refine Eq.next ?_
      refine Cq.seq ?_
      refine Cq.region ?_
      refine Sq.move .plain rfl rfl ?_
      refine Sq.move .plain rfl rfl ?_
      refine Sq.move .plain rfl rfl ?_
      refine Sq.mapUpdate key82 hM .plain rfl (k := f q (L.getD k.toNat 0)) rfl rfl rfl hin (fun w35 g36 hm37 => ?_)
      have hs38 := World.grownBy.size g36
      replace E := E.mapped g36 (by omega)
      replace hno := hno.mapped hM g36
      replace hro := hro.mapped hM g36
      replace hrs := hrs.mapped hM g36
      replace hM := hm37
      refine Sq.nil ?_
      refine Eq.next ?_
      refine Cq.region ?_
      refine Sq.move .plain rfl rfl ?_
      refine Sq.move .plain rfl rfl ?_
      refine Sq.lit sl52 rfl rfl .plain rfl rfl (one_cons rfl one_nil) (fun b39 w40 e41 hlo42 ho43 hk44 => ?_)
      have hs45 := Below.size e41
      replace E := E.trans e41
      replace hno := hno.ext e41
      replace hM := hM.ext e41
      replace hrs := hrs.ext e41
      replace hro := hro.ext e41
      refine Sq.app1F sl52 hno (one_ints _) (by omega) (by rw [List.length_map]; omega) hk44 rfl .plain rfl rfl rfl (fun v46 w47 ho49 g48 hf50 _ => ?_)
      have hs51 := World.grownBy.size g48
      replace E := E.owned hno g48 (Nat.le_refl _)
      replace hM := hM.owned hno g48
      replace hrs := hrs.grow hno g48 hf50 (by decide)
      have hap2 := hap.grow hro hf50
      replace hro := Own.other hro g48 hap
      replace hno := Own.snocI ho49
      replace hap := hap2
      refine Sq.assign .plain rfl rfl ?_
      refine Sq.nil ?_
      refine Eq.next ?_
      refine Cq.region ?_
      refine Sq.move .plain rfl rfl ?_
      refine Sq.move .plain rfl rfl ?_
      refine Sq.lit sl52 rfl rfl .plain rfl rfl (one_cons rfl one_nil) (fun b52 w53 e54 hlo55 ho56 hk57 => ?_)
      have hs58 := Below.size e54
      replace E := E.trans e54
      replace hno := hno.ext e54
      replace hM := hM.ext e54
      replace hrs := hrs.ext e54
      replace hro := hro.ext e54
      refine Sq.app1F sl52 hro (one_ints _) (by omega) (by rw [List.length_map]; omega) hk57 rfl .plain rfl rfl rfl (fun v59 w60 ho62 g61 hf63 _ => ?_)
      have hs64 := World.grownBy.size g61
      replace E := E.owned hro g61 (by omega)
      replace hM := hM.owned hro g61
      replace hrs := hrs.apart hro g61 (Nat.le_refl _) (by decide)
      have hap2 := (hap.symm.grow hno hf63).symm
      replace hno := Own.other hno g61 hap.symm
      replace hro := Own.snocI ho62
      replace hap := hap2
      refine Sq.assign .plain rfl rfl ?_
      refine Sq.nil ?_
      refine Eq.end ?_
      refine Eq.next ?_
      refine Cq.region ?_
      refine Sq.add .plain rfl rfl rfl (by omega) ?_
      refine Sq.move .plain rfl rfl ?_
      refine Sq.nil ?_
      have e2 := toNat_succ hk.1
      have e5 := mid_succ (f := f) (s := s) (i := i.toNat) (q := q) (k := k.toNat) (L := L) (by omega)
      have e6 := rowTo_step (f := f) (q := q) (k := k.toNat) (L := L) (by omega) (mid_mem (f := f) (s := s) (i := i.toNat))
      rw [← e5] at e6
      have e7 := idx_new hin
      rw [← e5] at e7
      rw [addNode_F hin] at e5
      refine Eq.round _ _ ⟨k + 1, _, _, rfl, by omega, by omega, by rw [e2, e5]; exact hno, by rw [e2, e5]; exact hM, by rw [e2, e6, e7]; exact hro, hrs, hap, by rw [e2, e5, List.length_append]; simp only [List.length_singleton]; omega, E, rfl⟩ (by omega) (.cons rfl (.cons rfl (.cons rfl (.cons rfl (.cons rfl (.cons rfl (.cons rfl (.cons rfl (.cons rfl (.cons rfl (.cons rfl (.nil))))))))))))
    refine Sq.nil ?_
    refine Eq.next ?_
    refine Cq.seq ?_
    refine Cq.els rfl ?_
    refine Cq.exit ?_
    refine Eq.past ?_
    refine Eq.past ?_
    refine Eq.hit ?_
    refine Eq.next ?_
    refine Cq.region ?_
    refine Sq.move .plain rfl rfl ?_
    refine Sq.move .plain rfl rfl ?_
    obtain ⟨rs, hr1, hr2, hr3⟩ := OwnRowsZ.open hrs (by decide)
    have hx0 := Ext.refl wl2
    refine Sq.lit sl22 rfl rfl .plain rfl rfl (one_cons (Row.one (Own.row hro)) one_nil) (fun b65 w66 e67 hlo68 ho69 _ => ?_)
    have hs74 := Below.size e67
    replace E := E.trans e67
    replace hno := hno.ext e67
    replace hM := hM.ext e67
    replace hro := hro.ext e67
    replace hr1 := hr1.ext e67
    replace hx0 := hx0.trans e67
    refine Sq.app sl22 hr1 (by omega) (Own.row (ho69 _ (Nat.le_refl _))) (one_cons (Row.one (Own.row hro)) one_nil) (by rw [hr2]; have := rowsAt_length (f := f) (L := L) (bfs f s L i.toNat) i.toNat (by omega); simp only [List.length_cons, List.length_nil]; omega) .plain rfl rfl rfl rfl (fun v70 w71 ho73 g72 => ?_)
    have hs75 := World.grownBy.size g72
    have hrs := hr3 _ _ _ _ _ hx0 hro hap (by omega) ho73 g72
    replace E := E.owned hr1 g72 (Nat.le_refl _)
    replace hM := hM.owned hr1 g72
    replace hno := hno.owned hr1 g72 (by decide)
    refine Sq.assign .plain rfl rfl ?_
    refine Sq.nil ?_
    refine Eq.end ?_
    refine Eq.next ?_
    refine Cq.region ?_
    refine Sq.move .plain rfl rfl ?_
    refine Sq.add .plain rfl rfl rfl (by omega) ?_
    refine Sq.assign .plain rfl rfl ?_
    refine Sq.nil ?_
    have e1 := toNat_succ hi.1
    have e3 := mid_done (k := k.toNat) (by omega) hq
    have e4 := (bfs_prefix1 (f := f) (s := s) (L := L) i.toNat).length_le
    refine Eq.round _ _ ⟨i + 1, _, _, rfl, by rw [e1]; omega, by rw [e1, ← e3]; exact hno, by rw [e1, ← e3]; exact hM, by rw [e1, rowsAt_step hq, ← e3, ← rowTo_done (k := k.toNat) (by omega)]; exact hrs, by rw [e1, ← e3]; exact hlk, E, rfl⟩ (by omega) (.cons rfl (.cons rfl (.cons rfl (.cons rfl (.cons rfl (.cons rfl (.cons rfl (.nil))))))))
  refine Sq.nil ?_
  refine Eq.next ?_
  refine Cq.els rfl ?_
  refine Cq.exit ?_
  refine Eq.past ?_
  refine Eq.past ?_
  refine Eq.hit ?_
  refine Eq.next ?_
  refine Cq.seq ?_
  refine Cq.region ?_
  refine Sq.move .plain rfl rfl ?_
  refine Sq.move .plain rfl rfl ?_
  refine Sq.assign .plain rfl rfl ?_
  refine Sq.assign .plain rfl rfl ?_
  refine Sq.assign .plain rfl rfl ?_
  refine Sq.nil ?_
  refine Eq.next ?_
  refine Cq.ret ?_
  refine Eq.ret3 rfl rfl rfl rfl ?_
  obtain ⟨e8, e9⟩ := ord_fin (f := f) (s := s) (L := L) (i := i.toNat) (by omega) (by omega) hlm
  have e10 := rowsAt_fin (f := f) (s := s) (L := L) (i := i.toNat) (by omega) (by omega)
  rw [e10] at hrs
  rw [e8] at hno
  exact ⟨⟨_, _, by rw [decide_eq_true e9], by rw [if_pos e9]; exact hno, by rw [if_pos e9]; exact hrs.to⟩, E⟩
end Go.Proofs.Ytdkdpmmfebdeaaa
