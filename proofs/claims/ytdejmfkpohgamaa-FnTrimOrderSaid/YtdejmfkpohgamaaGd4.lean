/-
  The texts of this proof, joined (wip/merge.py): the calculus of slots, plain mathematics, walks.
-/
import Derived.Test.YtdejmfkpohgamaaGd3
set_option linter.unusedSimpArgs false
set_option linter.unusedVariables false
namespace Go.Proofs.Ytdejmfkpohgamaa
open Go.RowKit
def txb (w : List Int) : List UInt8 := w.map fun x => UInt8.ofNat (97 + x).toNat
def txt (w : List Int) : ByteArray := ⟨(txb w).toArray⟩
theorem txb_rev (w : List Int) : (txb w.reverse).reverse = txb w := by simp [txb]
theorem txt_size (w : List Int) : (txt w).size = w.length := by simp [txt, txb, ByteArray.size]
theorem lts_txt {w : List Int} (h : ∀ x ∈ w, 0 ≤ x ∧ x < 6) : lts (txt w) = w := by
  unfold lts txt txb
  simp only [List.map_map]
  refine (List.map_congr_left fun x hx => ?_).trans (List.map_id w)
  have := h x hx
  have := u8_of (n := 97 + x) (by omega)
  simp only [Function.comp, id]
  omega
theorem txt_within {w : List Int} {al : Int} (hal : 0 ≤ al ∧ al ≤ 63) (h : ∀ x ∈ w, x ∈ letters al) (hl : w.length ≤ 50000) : within (txt w) al = true :=
  within_spec.2 ⟨hal, by rw [txt_size]; exact hl, fun x hx => by
    rw [lts_txt (fun y hy => ⟨(mem_letters (h y hy)).1, (mem_letters (h y hy)).2.1⟩)] at hx
    exact (mem_letters (h x hx)).2.2⟩
def stepV (r : Int × Int × Value) : List Value := [.int .i64 r.1, .int .i64 r.2.1, r.2.2]
def rows3 (rs : List (Int × Int × Value)) : List (List Value) := rs.map stepV
theorem rows3_length (rs : List (Int × Int × Value)) : (rows3 rs).length = rs.length := List.length_map _
theorem rows3_snoc (rs : List (Int × Int × Value)) (r : Int × Int × Value) : rows3 (rs ++ [r]) = rows3 rs ++ [[.int .i64 r.1, .int .i64 r.2.1, r.2.2]] := by simp [rows3, stepV]
section
variable {w w' : World} {B : Nat} {e : TypeId} {v : Value} {rs : List (Int × Int × Value)}
theorem Wid.triple (h : Wid w B e 3 v (rows3 rs)) {i : Int} {r : Int × Int × Value} (h0 : 0 ≤ i) (hr : rs[i.toNat]? = some r) : ∃ g c, v = .slice (some ⟨g, 0, none⟩) rs.length c ∧ (i.toNat < rs.length) ∧ w.cell? ⟨g, i.toNat * 3 + 0, none⟩ = some (.int .i64 r.1) ∧ w.cell? ⟨g, i.toNat * 3 + 1, none⟩ = some (.int .i64 r.2.1) ∧ w.cell? ⟨g, i.toNat * 3 + 2, none⟩ = some r.2.2 := by
  have hi := (List.getElem?_eq_some_iff.1 hr).1
  obtain ⟨g, c, hv, _, _, hc⟩ := h.at h0 (by rw [rows3_length]; omega)
  rw [rows3_length] at hv
  have e1 : (rows3 rs).getD i.toNat [] = stepV r := by
    unfold rows3
    rw [List.getD_eq_getElem?_getD, List.getElem?_map, hr]
    rfl
  rw [e1] at hc
  exact ⟨g, c, hv, hi, hc 0 (by decide), hc 1 (by decide), hc 2 (by decide)⟩
end
def Link (ws : List (List Int)) (p l : Int) (v : List Int) : Prop := (v = [] ∧ p = -1) ∨ ∃ u, v = u ++ [l] ∧ 0 ≤ p ∧ ws[p.toNat]? = some u
theorem Link.more {ws : List (List Int)} {p l : Int} {v : List Int} (h : Link ws p l v) (us : List (List Int)) : Link (ws ++ us) p l v := by
  rcases h with h | ⟨u, h1, h2, h3⟩
  · exact .inl h
  · exact .inr ⟨u, h1, h2, by rw [List.getElem?_append_left (List.getElem?_eq_some_iff.1 h3).1]; exact h3⟩
structure Trail (w : World) (I : TypeId) (f : Int → Int → Int) (s : Int) (ws : List (List Int)) (rs : List (Int × Int × Value)) : Prop where
  len : rs.length = ws.length
  row : ∀ (j : Nat) (v : List Int), ws[j]? = some v → ∃ p l fv, rs[j]? = some (p, l, fv) ∧ Link ws p l v ∧ Ints w I fv [nodeOf f s v]
  lets : ∀ v ∈ ws, ∀ x ∈ v, 0 ≤ x ∧ x < 6
section
variable {w w' : World} {I : TypeId} {f : Int → Int → Int} {s : Int} {ws : List (List Int)} {rs : List (Int × Int × Value)}
theorem Trail.map (h : Trail w I f s ws rs) (k : ∀ v xs, Ints w I v xs → Ints w' I v xs) : Trail w' I f s ws rs :=
  ⟨h.len, fun j v hv => by
    obtain ⟨p, l, fv, h1, h2, h3⟩ := h.row j v hv
    exact ⟨p, l, fv, h1, h2, k _ _ h3⟩, h.lets⟩
theorem Trail.ext (h : Trail w I f s ws rs) (x : Ext w w') : Trail w' I f s ws rs := h.map fun _ _ h => h.ext x
theorem Trail.owned {B : Nat} {t : TypeId} {u : Value} {us : List Value} (h : Trail w I f s ws rs) (ho : Own w B t u us) (hg : w.grownBy w' u.ownBlock) (hne : t ≠ I) : Trail w' I f s ws rs := h.map fun _ _ h => Row.owned h ho hg hne
theorem Trail.stored {g : Nat} {t : TypeId} {cs : List Value} (h : Trail w I f s ws rs) (hg : w.grownBy w' (some g)) (hb : Blk w g t cs) (hne : t ≠ I) : Trail w' I f s ws rs := h.map fun _ _ h => Row.stored h hg hb hne
theorem Trail.wid {B n : Nat} {e : TypeId} {u : Value} {rows : List (List Value)} (h : Trail w I f s ws rs) (ho : Wid w B e n u rows) (hg : w.grownBy w' u.ownBlock) (hne : e ≠ I) : Trail w' I f s ws rs := h.map fun _ _ h => Row.wid h ho hg hne
theorem Trail.nil (w : World) (I : TypeId) (f : Int → Int → Int) (s : Int) : Trail w I f s [] [] := ⟨rfl, by simp, by simp⟩
theorem Trail.snoc (h : Trail w I f s ws rs) {p l : Int} {fv : Value} {v : List Int} (hl : Link ws p l v) (hf : Ints w I fv [nodeOf f s v]) (hv : ∀ x ∈ v, 0 ≤ x ∧ x < 6) : Trail w I f s (ws ++ [v]) (rs ++ [(p, l, fv)]) := by
  refine ⟨by simp [h.len], fun j u hu => ?_, fun u hu => ?_⟩
  · rcases Nat.lt_or_ge j ws.length with hj | hj
    · rw [List.getElem?_append_left hj] at hu
      obtain ⟨p', l', fv', h1, h2, h3⟩ := h.row j u hu
      exact ⟨p', l', fv', by rw [List.getElem?_append_left (by rw [h.len]; exact hj)]; exact h1, h2.more _, h3⟩
    · have hj2 := (List.getElem?_eq_some_iff.1 hu).1
      rw [List.length_append, List.length_singleton] at hj2
      obtain rfl : j = ws.length := by omega
      rw [List.getElem?_append_right (Nat.le_refl _), Nat.sub_self] at hu
      have hu' : v = u := by simpa using hu
      subst hu'
      exact ⟨p, l, fv, by rw [List.getElem?_append_right (by rw [h.len]; exact Nat.le_refl _), h.len, Nat.sub_self]; rfl, hl.more _, hf⟩
  · rcases List.mem_append.1 hu with h' | h'
    · exact h.lets u h'
    · rw [List.mem_singleton.1 h']; exact hv
end
def seenOf (n : Nat) (ns : List Int) : List Bool := (List.range n).map fun (i : Nat) => decide ((i : Int) ∈ ns)
theorem seenOf_length (n : Nat) (ns : List Int) : (seenOf n ns).length = n := by simp [seenOf]
theorem seenOf_nil (n : Nat) : seenOf n [] = List.replicate n false := by
  apply List.ext_getElem <;> simp [seenOf]
theorem seenOf_at {n : Nat} {ns : List Int} {q : Int} (hq : 0 ≤ q ∧ q < n) : (seenOf n ns).getD q.toNat false = decide (q ∈ ns) := by
  have h : q.toNat < n := by omega
  have e : ((q.toNat : Nat) : Int) = q := Int.toNat_of_nonneg hq.1
  simp [seenOf, List.getD_eq_getElem?_getD, h, e]
theorem seenOf_set {n : Nat} {ns : List Int} {q : Int} (hq : 0 ≤ q) : (seenOf n ns).set q.toNat true = seenOf n (ns ++ [q]) := by
  apply List.ext_getElem
  · simp [seenOf]
  · intro i h1 h2
    rw [List.getElem_set]
    by_cases h : q.toNat = i
    · have : ((i : Nat) : Int) = q := by omega
      simp [seenOf, h, this]
    · have : ((i : Nat) : Int) ≠ q := by omega
      simp [seenOf, h, this]
theorem Own.seen0 {w : World} {B n : Nat} {e : TypeId} {v : Value} (h : Own w B e v (List.replicate n (Value.bool false))) : Own w B e v ((seenOf n []).map Value.bool) := by rw [seenOf_nil, List.map_replicate]; exact h
theorem seen_n {w : World} {B n : Nat} {e : TypeId} {v : Value} {m : Int} (hm : m = n) (h : Own w B e v (List.replicate m.toNat (Value.bool false))) : Own w B e v (List.replicate n (Value.bool false)) := by
  subst hm; exact h
def NClo (P : Program) (w0 : World) (I : TypeId) (fv : Value) (D : Int → Prop) (f : Int → Int → Int) : Prop :=
  ∃ k fn, ∃ cs : List Value, fv = .func (.func k) #[] cs.toArray ∧ Fn P k fn ∧ ∀ w q x, Ext w0 w → D q → 0 ≤ x ∧ x < 6 → Ret P k ([Value.int .i64 q, Value.int .i64 x, Value.slice none 0 0] ++ cs).toArray w fun v w' => Own w' w.heap.size I v [Value.int .i64 (f q x)] ∧ Ext w w'
def GClo (P : Program) (w0 : World) (gv : Value) (D : Int → Prop) (G : Int → Bool) : Prop :=
  ∃ k fn, ∃ cs : List Value, gv = .func (.func k) #[] cs.toArray ∧ Fn P k fn ∧ ∀ w q, Ext w0 w → D q → Ret P k ([Value.int .i64 q] ++ cs).toArray w fun v w' => v = .bool (G q) ∧ Ext w w'
theorem NClo.up {P : Program} {w0 w1 : World} {I : TypeId} {fv : Value} {D : Int → Prop} {f : Int → Int → Int} (h : NClo P w0 I fv D f) (x : Ext w0 w1) : NClo P w1 I fv D f := by
  obtain ⟨k, fn, cs, h1, h2, h3⟩ := h
  exact ⟨k, fn, cs, h1, h2, fun w q y hw hq hy => h3 w q y (x.trans hw) hq hy⟩
theorem GClo.up {P : Program} {w0 w1 : World} {gv : Value} {D : Int → Prop} {G : Int → Bool} (h : GClo P w0 gv D G) (x : Ext w0 w1) : GClo P w1 gv D G := by
  obtain ⟨k, fn, cs, h1, h2, h3⟩ := h
  exact ⟨k, fn, cs, h1, h2, fun w q hw hq => h3 w q (x.trans hw) hq⟩
def BClo (P : Program) (w0 : World) (gv : Value) (g : Bool → Bool → Bool) : Prop :=
  ∃ k fn, ∃ cs : List Value, gv = .func (.func k) #[] cs.toArray ∧ Fn P k fn ∧ ∀ w x y, Ext w0 w → Ret P k ([Value.bool x, Value.bool y] ++ cs).toArray w fun v w' => v = .bool (g x y) ∧ Ext w w'
theorem BClo.up {P : Program} {w0 w1 : World} {gv : Value} {g : Bool → Bool → Bool} (h : BClo P w0 gv g) (x : Ext w0 w1) : BClo P w1 gv g := by
  obtain ⟨k, fn, cs, h1, h2, h3⟩ := h
  exact ⟨k, fn, cs, h1, h2, fun w a b hw => h3 w a b (x.trans hw)⟩
theorem BClo.one {P : Program} {w0 : World} {gv : Value} {g : Bool → Bool → Bool} (h : BClo P w0 gv g) : gv.oneCell' = true := by
  obtain ⟨k, fn, cs, h1, _⟩ := h
  rw [h1]; rfl
def SMem (wb w : World) (I Bo LB S LS GT : TypeId) (B bs bt bg : Nat) (gv : Value) (n : Nat) (f : Int → Int → Int) (s : Int) (ws : List (List Int)) : Prop :=
  ∃ sv tv rs, Blk w bs LB [sv] ∧ Own w B Bo sv ((seenOf n (ws.map (nodeOf f s))).map Value.bool) ∧ Blk w bt LS [tv] ∧ Wid w B S 3 tv (rows3 rs) ∧ Trail w I f s ws rs ∧ Blk w bg GT [gv] ∧ Ext wb w ∧ wb.heap.size ≤ B ∧ wb.heap.size ≤ bs ∧ wb.heap.size ≤ bt ∧ B ≤ w.heap.size
section
variable {wb w w' : World} {I Bo LB S LS GT : TypeId} {B bs bt bg n : Nat} {gv : Value} {f : Int → Int → Int} {s : Int} {ws : List (List Int)}
theorem SMem.ext (h : SMem wb w I Bo LB S LS GT B bs bt bg gv n f s ws) (x : Ext w w') : SMem wb w' I Bo LB S LS GT B bs bt bg gv n f s ws := by
  obtain ⟨sv, tv, rs, h1, h2, h3, h4, h5, h6, h7, h8, h9, h10, h11⟩ := h
  exact ⟨sv, tv, rs, h1.ext x, h2.ext x, h3.ext x, h4.ext x, h5.ext x, h6.ext x, h7.trans x, h8, h9, h10, Nat.le_trans h11 (Below.size x)⟩
theorem SMem.base (h : SMem wb w I Bo LB S LS GT B bs bt bg gv n f s ws) : Ext wb w := by
  obtain ⟨sv, tv, rs, h1, h2, h3, h4, h5, h6, h7, h8⟩ := h
  exact h7
end
theorem Wid.one {w : World} {B n : Nat} {e : TypeId} {v : Value} {rows : List (List Value)} (h : Wid w B e n v rows) : v.oneCell' = true := by
  rcases h.cases with ⟨rfl, _⟩ | ⟨g, cap, cs, rfl, _⟩ <;> rfl
theorem Own.snocT {w : World} {B : Nat} {e : TypeId} {v : Value} {t : List Int} {l : Int} (h : Own w B e v ((txb t.reverse).map (fun b => Value.int .u8 (b.toNat : Int)) ++ [Value.int .u8 (97 + l)])) (hl : 0 ≤ l ∧ l < 6) : Own w B e v ((txb (l :: t).reverse).map fun b => Value.int .u8 (b.toNat : Int)) := by
  have e1 : (txb (l :: t).reverse).map (fun b => Value.int .u8 (b.toNat : Int)) = (txb t.reverse).map (fun b => Value.int .u8 (b.toNat : Int)) ++ [Value.int .u8 (97 + l)] := by
    have := u8_of (n := 97 + l) (by omega)
    simp only [txb, List.reverse_cons, List.map_append, List.map_cons, List.map_nil, this]
  rw [e1]; exact h
section
variable {f : Int → Int → Int} {s : Int} {L : List Int} {G : Int → Bool}
def wmid (f : Int → Int → Int) (s : Int) (L : List Int) (i : Nat) (u : List Int) (k : Nat) : List (List Int) := wround f s u (bfsw f s L i) (L.take k)
theorem wmid_succ {i : Nat} {u : List Int} {k : Nat} (hk : k < L.length) : wmid f s L i u (k + 1) = wadd f s (wmid f s L i u k) (u ++ [L.getD k 0]) := by
  unfold wmid wround
  rw [take_snoc 0 hk, List.foldl_append]
  rfl
theorem wmid_done {i : Nat} {u : List Int} {k : Nat} (h : L.length ≤ k) (hu : (bfsw f s L i)[i]? = some u) : wmid f s L i u k = bfsw f s L (i + 1) := by
  rw [bfsw, hu]
  unfold wmid
  rw [List.take_of_length_le h]
theorem wmid_more (i : Nat) (u : List Int) (k : Nat) : bfsw f s L i <+: wmid f s L i u k := wround_prefix _ _ _
theorem wmid_last {i : Nat} {u : List Int} {k : Nat} (hu : (bfsw f s L i)[i]? = some u) : wmid f s L i u k <+: bfsw f s L (i + 1) := by
  rcases Nat.lt_or_ge k L.length with h | h
  · rw [← wmid_done (k := L.length) (Nat.le_refl _) hu]
    unfold wmid wround
    have e : L.take L.length = L.take k ++ L.drop k := by rw [List.take_length, List.take_append_drop]
    rw [e, List.foldl_append]
    exact wround_prefix (f := f) (s := s) u (L.drop k) _
  · rw [wmid_done h hu]; exact List.prefix_refl _
theorem bfsw_more {i j : Nat} (h : i ≤ j) : bfsw f s L i <+: bfsw f s L j := by
  induction j with
  | zero => obtain rfl : i = 0 := by omega
            exact List.prefix_refl _
  | succ j ih =>
    rcases Nat.lt_or_ge i (j + 1) with h1 | h1
    · exact (ih (by omega)).trans (bfsw_prefix1 j)
    · obtain rfl : i = j + 1 := by omega
      exact List.prefix_refl _
theorem wadd_T {ws : List (List Int)} {v : List Int} (h : nodeOf f s v ∈ ws.map (nodeOf f s)) : wadd f s ws v = ws := if_pos h
theorem wadd_F {ws : List (List Int)} {v : List Int} (h : nodeOf f s v ∉ ws.map (nodeOf f s)) : wadd f s ws v = ws ++ [v] := if_neg h
theorem first_found {i : Nat} {u : List Int} {k : Nat} (hu : (bfsw f s L i)[i]? = some u) (hi : i + 1 ≤ 200) (hk : k < L.length) (hG : ∀ v ∈ wmid f s L i u k, G (nodeOf f s v) = false) (hn : nodeOf f s (u ++ [L.getD k 0]) ∉ (wmid f s L i u k).map (nodeOf f s)) (hg : G (nodeOf f s (u ++ [L.getD k 0])) = true) :
    firstOf f s L G = some (u ++ [L.getD k 0]) := by
  have h1 := wmid_last (k := k + 1) hu
  rw [wmid_succ hk, wadd_F hn] at h1
  obtain ⟨t, ht⟩ := h1.trans (bfsw_more (f := f) (s := s) (L := L) (i := i + 1) (j := many 0) (by rw [many_eq]; exact hi))
  unfold firstOf ordw
  rw [← ht, List.append_assoc, List.find?_append, List.find?_eq_none.2 (fun v hv => by rw [hG v hv]; decide), Option.none_or, List.singleton_append]
  exact List.find?_cons_of_pos (p := fun w => G (nodeOf f s w)) hg
theorem first_missed {i : Nat} (hl : (bfsw f s L i).length ≤ i) (hi : i ≤ 200) (hG : ∀ v ∈ bfsw f s L i, G (nodeOf f s v) = false) : firstOf f s L G = none := by
  have e : bfsw f s L (many 0) = bfsw f s L i := by
    have h1 := bfsw_more (f := f) (s := s) (L := L) (i := i) (j := many 0) (by rw [many_eq]; exact hi)
    refine (h1.eq_of_length ?_).symm
    rw [bfsw_length, bfsw_length]
    rw [bfsw_length] at hl
    rw [bfs_stop (j := many 0) hl (by rw [many_eq]; exact hi)]
  unfold firstOf ordw
  rw [e, List.find?_eq_none.2 (fun v hv => by rw [hG v hv]; decide)]
theorem first_here (hg : G s = true) : firstOf f s L G = some [] := by
  obtain ⟨t, ht⟩ := bfsw_more (f := f) (s := s) (L := L) (i := 0) (j := many 0) (Nat.zero_le _)
  unfold firstOf ordw
  rw [← ht]
  have : bfsw f s L 0 = [[]] := rfl
  rw [this]
  simp [nodeOf, hg]
theorem bfsw_lets {i : Nat} (hL : ∀ x ∈ L, 0 ≤ x ∧ x < 6) : ∀ v ∈ bfsw f s L i, ∀ x ∈ v, 0 ≤ x ∧ x < 6 := by
  induction i with
  | zero =>
    intro v hv
    have : v = [] := by simpa [bfsw] using hv
    subst this
    intro x hx; cases hx
  | succ i ih =>
    intro v hv
    rw [bfsw] at hv
    cases h : (bfsw f s L i)[i]? with
    | none => rw [h] at hv; exact ih v hv
    | some u =>
      rw [h] at hv
      rcases wround_mem u L _ hv with h' | ⟨l, hl, rfl⟩
      · exact ih v h'
      · intro x hx
        rcases List.mem_append.1 hx with h1 | h1
        · exact ih u (List.mem_of_getElem? h) x h1
        · rw [List.mem_singleton.1 h1]; exact hL l hl
theorem wadd_miss {ws : List (List Int)} {v : List Int} (h : ∀ u ∈ ws, G (nodeOf f s u) = false) (hf : (!decide (nodeOf f s v ∈ ws.map (nodeOf f s)) && G (nodeOf f s v)) = false) : ∀ u ∈ wadd f s ws v, G (nodeOf f s u) = false := by
  intro u hu
  by_cases hm : nodeOf f s v ∈ ws.map (nodeOf f s)
  · rw [wadd_T hm] at hu; exact h u hu
  · rw [wadd_F hm] at hu
    rcases List.mem_append.1 hu with h1 | h1
    · exact h u h1
    · rw [List.mem_singleton.1 h1]
      simpa [hm] using hf
theorem bfsw_range {n : Nat} {D : Int → Prop} (h0 : D s) (hD : ∀ q, D q → ∀ x ∈ L, D (f q x)) (hn : ∀ q, D q → 0 ≤ q ∧ q < n) (i : Nat) : (bfsw f s L i).length ≤ n := by
  rw [bfsw_length]
  have h1 := nodup_len (U := (List.range n).map fun (i : Nat) => (i : Int)) (bfs_nodup (f := f) (s := s) (L := L) i) (fun q hq => inU.2 (hn q (bfs_all h0 hD i q hq)))
  simpa using h1
theorem bfsw_lenw {i j : Nat} {u : List Int} (h : (bfsw f s L i)[j]? = some u) : u.length ≤ i := by
  have hall : ∀ v ∈ bfsw f s L i, v.length ≤ i := by
    clear h
    induction i with
    | zero =>
      intro v hv
      have : v = [] := by simpa [bfsw] using hv
      subst this
      exact Nat.le_refl _
    | succ i ih =>
      intro v hv
      rw [bfsw] at hv
      cases h : (bfsw f s L i)[i]? with
      | none => rw [h] at hv; exact Nat.le_succ_of_le (ih v hv)
      | some u =>
        rw [h] at hv
        rcases wround_mem u L _ hv with h' | ⟨l, hl, rfl⟩
        · exact Nat.le_succ_of_le (ih v h')
        · have := ih u (List.mem_of_getElem? h)
          simp only [List.length_append, List.length_singleton]
          omega
  exact hall u (List.mem_of_getElem? h)
theorem nodeOf_in {D : Int → Prop} (h0 : D s) (hD : ∀ q, D q → ∀ x ∈ L, D (f q x)) : ∀ (i : Nat), ∀ v ∈ bfsw f s L i, D (nodeOf f s v) := by
  intro i v hv
  have : nodeOf f s v ∈ bfs f s L i := by rw [← bfsw_map]; exact List.mem_map.2 ⟨v, hv, rfl⟩
  exact bfs_all h0 hD i _ this
end
section maps
variable {α β : Type} [DecidableEq α] [DecidableEq β] {f : α → Int → α} {s : α} {L : List Int} {f' : β → Int → β} {g : α → β} {P : α → Prop}
omit [DecidableEq α] [DecidableEq β] in
theorem nodeOf_map (h0 : P s) (hs : ∀ q, P q → ∀ l ∈ L, P (f q l)) (hf : ∀ q, P q → ∀ l ∈ L, f' (g q) l = g (f q l)) : ∀ (v : List Int), (∀ x ∈ v, x ∈ L) → nodeOf f' (g s) v = g (nodeOf f s v) ∧ P (nodeOf f s v) := by
  intro v
  induction v generalizing s with
  | nil => intro _; exact ⟨rfl, h0⟩
  | cons x v ih =>
    intro hv
    have hx := hv x (by simp)
    have := ih (s := f s x) (hs s h0 x hx) (fun y hy => hv y (by simp [hy]))
    show nodeOf f' (f' (g s) x) v = g (nodeOf f (f s x) v) ∧ P (nodeOf f (f s x) v)
    rw [hf s h0 x hx]
    exact this
theorem wround_over (u : List Int) (hu : ∀ x ∈ u, x ∈ L) : ∀ (Ls : List Int) (ws : List (List Int)), (∀ l ∈ Ls, l ∈ L) → (∀ v ∈ ws, ∀ x ∈ v, x ∈ L) → ∀ v ∈ wround f s u ws Ls, ∀ x ∈ v, x ∈ L := by
  intro Ls ws hLs hws v hv
  rcases wround_mem u Ls ws hv with h | ⟨l, hl, rfl⟩
  · exact hws v h
  · intro x hx
    rcases List.mem_append.1 hx with h1 | h1
    · exact hu x h1
    · rw [List.mem_singleton.1 h1]; exact hLs l hl
theorem bfsw_over (i : Nat) : ∀ v ∈ bfsw f s L i, ∀ x ∈ v, x ∈ L := by
  induction i with
  | zero =>
    intro v hv
    have : v = [] := by simpa [bfsw] using hv
    subst this
    intro x hx; cases hx
  | succ i ih =>
    intro v hv
    rw [bfsw] at hv
    cases h : (bfsw f s L i)[i]? with
    | none => rw [h] at hv; exact ih v hv
    | some u => rw [h] at hv; exact wround_over u (ih u (List.mem_of_getElem? h)) L _ (fun _ h => h) ih v hv
theorem wadd_map' (hg : ∀ a b, P a → P b → g a = g b → a = b) (h0 : P s) (hs : ∀ q, P q → ∀ l ∈ L, P (f q l)) (hf : ∀ q, P q → ∀ l ∈ L, f' (g q) l = g (f q l)) {ws : List (List Int)} {v : List Int} (hws : ∀ u ∈ ws, ∀ x ∈ u, x ∈ L) (hv : ∀ x ∈ v, x ∈ L) : wadd f' (g s) ws v = wadd f s ws v := by
  have h1 := nodeOf_map h0 hs hf v hv
  have e : nodeOf f' (g s) v ∈ ws.map (nodeOf f' (g s)) ↔ nodeOf f s v ∈ ws.map (nodeOf f s) := by
    constructor
    · intro h
      obtain ⟨u, hu, he⟩ := List.mem_map.1 h
      have h2 := nodeOf_map h0 hs hf u (hws u hu)
      rw [h1.1, h2.1] at he
      exact List.mem_map.2 ⟨u, hu, hg _ _ h2.2 h1.2 he⟩
    · intro h
      obtain ⟨u, hu, he⟩ := List.mem_map.1 h
      have h2 := nodeOf_map h0 hs hf u (hws u hu)
      exact List.mem_map.2 ⟨u, hu, by rw [h1.1, h2.1, he]⟩
  unfold wadd
  by_cases h : nodeOf f s v ∈ ws.map (nodeOf f s)
  · rw [if_pos h, if_pos (e.2 h)]
  · rw [if_neg h, if_neg (fun hc => h (e.1 hc))]
theorem wround_map' (hg : ∀ a b, P a → P b → g a = g b → a = b) (h0 : P s) (hs : ∀ q, P q → ∀ l ∈ L, P (f q l)) (hf : ∀ q, P q → ∀ l ∈ L, f' (g q) l = g (f q l)) {u : List Int} (hu : ∀ x ∈ u, x ∈ L) : ∀ (Ls : List Int) (ws : List (List Int)), (∀ l ∈ Ls, l ∈ L) → (∀ v ∈ ws, ∀ x ∈ v, x ∈ L) → wround f' (g s) u ws Ls = wround f s u ws Ls
  | [], ws, _, _ => rfl
  | l :: Ls, ws, hLs, hws => by
    have hul : ∀ x ∈ u ++ [l], x ∈ L := fun x hx => by
      rcases List.mem_append.1 hx with h1 | h1
      · exact hu x h1
      · rw [List.mem_singleton.1 h1]; exact hLs l (by simp)
    have e := wadd_map' hg h0 hs hf hws hul
    show wround f' (g s) u (wadd f' (g s) ws (u ++ [l])) Ls = wround f s u (wadd f s ws (u ++ [l])) Ls
    rw [e]
    refine wround_map' hg h0 hs hf hu Ls _ (fun x hx => hLs x (by simp [hx])) (fun v hv => ?_)
    rcases wadd_mem hv with h | rfl
    · exact hws v h
    · exact hul
theorem bfsw_map' (hg : ∀ a b, P a → P b → g a = g b → a = b) (h0 : P s) (hs : ∀ q, P q → ∀ l ∈ L, P (f q l)) (hf : ∀ q, P q → ∀ l ∈ L, f' (g q) l = g (f q l)) (i : Nat) : bfsw f' (g s) L i = bfsw f s L i := by
  induction i with
  | zero => rfl
  | succ i ih =>
    rw [bfsw, bfsw, ih]
    cases h : (bfsw f s L i)[i]? with
    | none => rfl
    | some u => exact wround_map' hg h0 hs hf (bfsw_over i u (List.mem_of_getElem? h)) L _ (fun _ h => h) (bfsw_over i)
theorem firstOf_map {G : α → Bool} {G' : β → Bool} (hg : ∀ a b, P a → P b → g a = g b → a = b) (h0 : P s) (hs : ∀ q, P q → ∀ l ∈ L, P (f q l)) (hf : ∀ q, P q → ∀ l ∈ L, f' (g q) l = g (f q l)) (hG : ∀ q, P q → G' (g q) = G q) : firstOf f' (g s) L G' = firstOf f s L G := by
  unfold firstOf ordw
  rw [bfsw_map' hg h0 hs hf]
  have : ∀ (ws : List (List Int)), (∀ v ∈ ws, ∀ x ∈ v, x ∈ L) → ws.find? (fun w => G' (nodeOf f' (g s) w)) = ws.find? (fun w => G (nodeOf f s w)) := by
    intro ws
    induction ws with
    | nil => intro _; rfl
    | cons v ws ih =>
      intro h
      have h1 := nodeOf_map h0 hs hf v (h v (by simp))
      rw [List.find?_cons, List.find?_cons, h1.1, hG _ h1.2, ih (fun u hu => h u (by simp [hu]))]
  exact this _ (bfsw_over _)
end maps
def firstA (a : A) (s : Int) (G : Int → Bool) : Option (List Int) := firstOf (goA a) s (letters a.al) G
def firstAB (a b : A) (p : Int × Int) (g : Bool → Bool → Bool) : Option (List Int) := firstOf (step2 a b) p (letters a.al) fun p => g (accA a p.1) (accA b p.2)
def resW (o : Option (List Int)) : Value := .tuple #[.string (txt (o.getD [])), .bool o.isSome]
def cmp2 (a b : A) : Bool := validA a && (validA b && decide (a.al = b.al))
theorem cmp2_spec {a b : A} : cmp2 a b = true ↔ validA a = true ∧ validA b = true ∧ a.al = b.al := by simp [cmp2]
def fAt (a : A) (q : Int) : Option (List Int) := if validA a = true then firstA a 0 (fun x => decide (x = q)) else none
def fTwo (a b : A) (g : Bool → Bool → Bool) : Option (List Int) := if cmp2 a b = true then firstAB a b (0, 0) g else none
def fDif (a b : A) : Option (List Int) := fTwo a b fun x y => x != y
def sameL (a b : A) : Bool := cmp2 a b && !(fDif a b).isSome
theorem firstAB_enc {a b : A} {p : Int × Int} {g : Bool → Bool → Bool} (hv : validA a = true) (hv' : validA b = true) (hp : In2 a b p) : firstOf (fP a b) (enc2 b p) (letters a.al) (fun q => g (accA a (q / (b.next.length : Int))) (accA b (q % (b.next.length : Int)))) = firstAB a b p g :=
  firstOf_map (P := In2 a b) (g := enc2 b) (enc_inj) hp (fun q hq l hl => in2 hv hv' hq ⟨(mem_letters hl).1, (mem_letters hl).2.1⟩) (fun q hq l _ => fP_enc hq l) (fun q hq => by rw [(enc_div hq).1, (enc_div hq).2])
end Go.Proofs.Ytdejmfkpohgamaa
set_option linter.unusedSimpArgs false
set_option linter.unusedVariables false
namespace Go.Proofs.Ytdejmfkpohgamaa
open Go.RowKit
section
variable {w w' : World} {B n : Nat} {e : TypeId} {v : Value} {rows : List (List Value)}
theorem Wid.rowAt (h : Wid w B e n v rows) {i : Int} (h0 : 0 ≤ i) {r : List Value} (hr : rows[i.toNat]? = some r) : ∃ g c, v = .slice (some ⟨g, 0, none⟩) rows.length c ∧ i.toNat < rows.length := by
  have hi := (List.getElem?_eq_some_iff.1 hr).1
  obtain ⟨g, c, hv, _⟩ := h.at h0 (by omega)
  exact ⟨g, c, hv, hi⟩
end
def NetA (w : World) (AU SI I Bo : TypeId) (av : Value) (aas : List A) : Prop :=
  ∃ B rows, Wid w B AU 3 av rows ∧ rows.length = aas.length ∧ ∀ (j : Nat) (a : A), aas[j]? = some a → ∃ nx ac, rows[j]? = some [.int .i64 a.al, nx, ac] ∧ Rows w SI I nx a.next ∧ Bools w Bo ac a.acc
theorem NetA.ext {w w' : World} {AU SI I Bo : TypeId} {av : Value} {aas : List A} (h : NetA w AU SI I Bo av aas) (x : Ext w w') : NetA w' AU SI I Bo av aas := by
  obtain ⟨B, rows, h1, h2, h3⟩ := h
  refine ⟨B, rows, h1.ext x, h2, fun j a ha => ?_⟩
  obtain ⟨nx, ac, g1, g2, g3⟩ := h3 j a ha
  exact ⟨nx, ac, g1, g2.ext x, g3.ext x⟩
theorem NetA.one {w : World} {AU SI I Bo : TypeId} {av : Value} {aas : List A} (h : NetA w AU SI I Bo av aas) : av.oneCell' = true := by
  obtain ⟨B, rows, h1, _⟩ := h
  exact h1.one
def Cell1 (w : World) (p : Addr) (u : Value) : Prop := w.cell? p = some u
theorem Cell1.ext {w w' : World} {p : Addr} {u : Value} (h : Cell1 w p u) (x : Ext w w') : Cell1 w' p u := by
  have hb := World.block_lt_of_cell? w p h
  unfold Cell1 at *
  rw [← h]
  unfold World.cell?
  rw [x.block p.block hb]
def Read3 (w : World) (e3 e2 e1 : TypeId) (v : Value) (xsss : List (List (List Int))) : Prop := ∃ rs, Row w e3 v rs ∧ rs.length = xsss.length ∧ ∀ (i : Nat) (r : Value), rs[i]? = some r → Rows w e2 e1 r (xsss.getD i [])
def RowU (w : World) (U : Nat) (e : TypeId) (v : Value) (vs : List Value) : Prop := Row w e v vs ∧ ∀ k, v.ownBlock = some k → k < U
def RowsU (w : World) (U : Nat) (e e' : TypeId) (v : Value) (xss : List (List Int)) : Prop := ∃ rs, RowU w U e v rs ∧ rs.length = xss.length ∧ ∀ (i : Nat) (r : Value), rs[i]? = some r → RowU w U e' r ((xss.getD i []).map (Value.int .i64))
def Own3 (w : World) (B U : Nat) (e3 e2 e1 : TypeId) (v : Value) (xsss : List (List (List Int))) : Prop := ∃ rs, Own w B e3 v rs ∧ rs.length = xsss.length ∧ ∀ (i : Nat) (r : Value), rs[i]? = some r → RowsU w U e2 e1 r (xsss.getD i [])
section
variable {w w' : World} {B U : Nat} {e e' e1 e2 e3 : TypeId} {v : Value} {vs : List Value} {xss : List (List Int)} {xsss : List (List (List Int))}
theorem RowU.ext (h : RowU w U e v vs) (x : Ext w w') : RowU w' U e v vs := ⟨h.1.ext x, h.2⟩
theorem RowU.apart {g : Nat} (h : RowU w U e v vs) (hg : w.grownBy w' (some g)) (hU : U ≤ g) : RowU w' U e v vs := by
  refine ⟨?_, h.2⟩
  rcases h.1 with h1 | ⟨b, o, c, cur, fr, hv, hb, hx⟩
  · exact .inl h1
  · refine .inr ⟨b, o, c, cur, fr, hv, ?_, hx⟩
    have hlt := h.2 b (by rw [hv]; rfl)
    rw [hg.block b (lt_of_block hb) (fun h => by injection h with h; omega)]
    exact hb
theorem RowU.other {B' : Nat} {t : TypeId} {u : Value} {us : List Value} (h : RowU w U e v vs) (ho : Own w B' t u us) (hg : w.grownBy w' u.ownBlock) (hne : t ≠ e) : RowU w' U e v vs := ⟨h.1.owned ho hg hne, h.2⟩
theorem RowsU.ext (h : RowsU w U e e' v xss) (x : Ext w w') : RowsU w' U e e' v xss := by
  obtain ⟨rs, h1, h2, h3⟩ := h
  exact ⟨rs, h1.ext x, h2, fun i r hr => (h3 i r hr).ext x⟩
theorem RowsU.apart {g : Nat} (h : RowsU w U e e' v xss) (hg : w.grownBy w' (some g)) (hU : U ≤ g) : RowsU w' U e e' v xss := by
  obtain ⟨rs, h1, h2, h3⟩ := h
  exact ⟨rs, h1.apart hg hU, h2, fun i r hr => (h3 i r hr).apart hg hU⟩
theorem RowsU.other {B' : Nat} {t : TypeId} {u : Value} {us : List Value} (h : RowsU w U e e' v xss) (ho : Own w B' t u us) (hg : w.grownBy w' u.ownBlock) (hne : t ≠ e) (hne' : t ≠ e') : RowsU w' U e e' v xss := by
  obtain ⟨rs, h1, h2, h3⟩ := h
  exact ⟨rs, h1.other ho hg hne, h2, fun i r hr => (h3 i r hr).other ho hg hne'⟩
theorem RowsU.up {U' : Nat} (h : RowsU w U e e' v xss) (hU : U ≤ U') : RowsU w U' e e' v xss := by
  obtain ⟨rs, h1, h2, h3⟩ := h
  exact ⟨rs, ⟨h1.1, fun k hk => Nat.lt_of_lt_of_le (h1.2 k hk) hU⟩, h2, fun i r hr => ⟨(h3 i r hr).1, fun k hk => Nat.lt_of_lt_of_le ((h3 i r hr).2 k hk) hU⟩⟩
theorem RowsU.rows (h : RowsU w U e e' v xss) : Rows w e e' v xss := by
  obtain ⟨rs, h1, h2, h3⟩ := h
  exact ⟨rs, h1.1, h2, fun i r hr => (h3 i r hr).1⟩
theorem RowsU.of (h : OwnRows w B w.heap.size e e' v xss) : RowsU w w.heap.size e e' v xss := by
  obtain ⟨rs, h1, h2, h3, h4⟩ := h
  exact ⟨rs, ⟨h1.row, fun k hk => (h1.lt k hk).2⟩, h2, fun i r hr => ⟨(h3 i r hr).1.row, (h3 i r hr).2⟩⟩
theorem Own3.nil (w : World) (B U : Nat) (e3 e2 e1 : TypeId) {v : Value} (h : Own w B e3 v []) : Own3 w B U e3 e2 e1 v [] := ⟨[], h, rfl, by simp⟩
theorem Own3.now (h : Own3 w B U e3 e2 e1 v xsss) (hU : U ≤ w.heap.size := by omega) : Own3 w B w.heap.size e3 e2 e1 v xsss := by
  obtain ⟨rs, h1, h2, h3⟩ := h
  exact ⟨rs, h1, h2, fun i r hr => (h3 i r hr).up hU⟩
theorem Own3.ext (h : Own3 w B U e3 e2 e1 v xsss) (x : Ext w w') : Own3 w' B U e3 e2 e1 v xsss := by
  obtain ⟨rs, h1, h2, h3⟩ := h
  exact ⟨rs, h1.ext x, h2, fun i r hr => (h3 i r hr).ext x⟩
theorem Own3.apart {B' : Nat} {t : TypeId} {u : Value} {us : List Value} (h : Own3 w B U e3 e2 e1 v xsss) (ho : Own w B' t u us) (hg : w.grownBy w' u.ownBlock) (hB : U ≤ B') (hne : t ≠ e3) : Own3 w' B U e3 e2 e1 v xsss := by
  obtain ⟨rs, h1, h2, h3⟩ := h
  refine ⟨rs, h1.owned ho hg hne, h2, fun i r hr => ?_⟩
  rcases ho.cases with ⟨rfl, rfl⟩ | ⟨g, cap, cs, rfl, hg', hb, _⟩
  · exact (h3 i r hr).ext (Ext.of_grown hg)
  · exact (h3 i r hr).apart (g := g) hg (Nat.le_trans hB hg')
theorem Own3.open (h : Own3 w B U e3 e2 e1 v xsss) (hne : e3 ≠ e2) (hne' : e3 ≠ e1) : ∃ rs, Own w B e3 v rs ∧ rs.length = xsss.length ∧
    ∀ r xss w1 v' w', Ext w w1 → RowsU w1 w1.heap.size e2 e1 r xss → U ≤ w1.heap.size → Own w' B e3 v' (rs ++ [r]) → w1.grownBy w' v.ownBlock → Own3 w' B w'.heap.size e3 e2 e1 v' (xsss ++ [xss]) := by
  obtain ⟨rs, h1, h2, h3⟩ := h
  refine ⟨rs, h1, h2, fun r xss w1 v' w' x hr hU hv hg => ?_⟩
  have hv1 := h1.ext x
  have hsz := World.grownBy.size hg
  refine ⟨rs ++ [r], hv, by simp [h2], fun i q hq => ?_⟩
  rcases Nat.lt_or_ge i rs.length with hi | hi
  · rw [List.getElem?_append_left hi] at hq
    have e4 : (xsss ++ [xss]).getD i [] = xsss.getD i [] := by
      rw [List.getD_eq_getElem?_getD, List.getElem?_append_left (by omega), ← List.getD_eq_getElem?_getD]
    rw [e4]
    exact (((h3 i q hq).ext x).other hv1 hg hne hne').up (by omega)
  · have hi2 := (List.getElem?_eq_some_iff.1 hq).1
    rw [List.length_append, List.length_singleton] at hi2
    obtain rfl : i = rs.length := by omega
    rw [List.getElem?_append_right (Nat.le_refl _), Nat.sub_self] at hq
    have hq' : r = q := by simpa using hq
    subst hq'
    have e4 : (xsss ++ [xss]).getD rs.length [] = xss := by
      rw [h2, List.getD_eq_getElem?_getD, List.getElem?_append_right (Nat.le_refl _), Nat.sub_self]; rfl
    rw [e4]
    exact (hr.other hv1 hg hne hne').up hsz
theorem Read3.ext (h : Read3 w e3 e2 e1 v xsss) (x : Ext w w') : Read3 w' e3 e2 e1 v xsss := by
  obtain ⟨rs, h1, h2, h3⟩ := h
  exact ⟨rs, h1.ext x, h2, fun i r hr => (h3 i r hr).ext x⟩
theorem Read3.at (h : Read3 w e3 e2 e1 v xsss) {i : Int} (hi : 0 ≤ i) (hlt : i.toNat < xsss.length) : ∃ p r, At w e3 v i p r ∧ Rows w e2 e1 r (xsss.getD i.toNat []) := by
  obtain ⟨rs, h1, h2, h3⟩ := h
  have hl : i.toNat < rs.length := by omega
  obtain ⟨p, hp⟩ := h1.at hi hl
  exact ⟨p, rs[i.toNat], hp, h3 _ _ (List.getElem?_eq_getElem hl)⟩
end
section
variable {f : Int → Int → Int} {L : List Int} {G : Int → Bool} {n : Nat}
end
theorem Ret.resW {P : Program} {k : FuncId} {args : Array Value} {w0 : World} {X Y : Option (List Int)} (h : Ret P k args w0 (fun v w => v = Go.Proofs.Ytdejmfkpohgamaa.resW X ∧ Ext w0 w)) (e : X = Y) : Ret P k args w0 (fun v w => v = Go.Proofs.Ytdejmfkpohgamaa.resW Y ∧ Ext w0 w) := by rw [← e]; exact h
section
variable {w : World} {B : Nat} {AU SI I Bo : TypeId} {v nx ac nx' ac' : Value} {a b : A}
end
end Go.Proofs.Ytdejmfkpohgamaa
set_option linter.unusedSimpArgs false
set_option linter.unusedVariables false
namespace Go.Proofs.Ytdejmfkpohgamaa
def IsFirst (L : List Int) (G : List Int → Bool) : Option (List Int) → Prop
  | some w => (∀ x ∈ w, x ∈ L) ∧ G w = true ∧ ∀ v : List Int, (∀ x ∈ v, x ∈ L) → G v = true → sle w v
  | none => ∀ v : List Int, (∀ x ∈ v, x ∈ L) → G v = false
theorem IsFirst.uniq {L : List Int} {G G' : List Int → Bool} {o o' : Option (List Int)} (h : IsFirst L G o) (h' : IsFirst L G' o') (hg : ∀ v : List Int, (∀ x ∈ v, x ∈ L) → G v = G' v) : o = o' := by
  cases o with
  | none =>
    cases o' with
    | none => rfl
    | some w =>
      have := h w h'.1
      rw [hg w h'.1, h'.2.1] at this
      cases this
  | some w =>
    cases o' with
    | none =>
      have := h' w h.1
      rw [← hg w h.1, h.2.1] at this
      cases this
    | some w' =>
      have h1 := h.2.2 w' h'.1 (by rw [hg w' h'.1]; exact h'.2.1)
      have h2 := h'.2.2 w h.1 (by rw [← hg w h.1]; exact h.2.1)
      rw [sle_antisymm h1 h2]
theorem IsFirst.isSome {L : List Int} {G : List Int → Bool} {o : Option (List Int)} (h : IsFirst L G o) : o.isSome = true ↔ ∃ v : List Int, (∀ x ∈ v, x ∈ L) ∧ G v = true := by
  cases o with
  | none => exact ⟨fun h' => (by cases h'), fun ⟨v, hv, hg⟩ => by rw [h v hv] at hg; cases hg⟩
  | some w => exact ⟨fun _ => ⟨w, h.1, h.2.1⟩, fun _ => rfl⟩
theorem IsFirst.isNone {L : List Int} {G : List Int → Bool} {o : Option (List Int)} (h : IsFirst L G o) : o.isSome = false ↔ ∀ v : List Int, (∀ x ∈ v, x ∈ L) → G v = false := by
  cases o with
  | none => exact ⟨fun _ => h, fun _ => rfl⟩
  | some w => exact ⟨fun h' => (by cases h'), fun h' => by have := h' w h.1; rw [h.2.1] at this; cases this⟩
theorem over_six {al : Int} {w : List Int} (h : ∀ x ∈ w, x ∈ letters al) : ∀ x ∈ w, 0 ≤ x ∧ x < 6 := fun x hx => ⟨(mem_letters (h x hx)).1, (mem_letters (h x hx)).2.1⟩
section
variable {a b : A}
theorem node2 : ∀ (w : List Int) (p : Int × Int), nodeOf (step2 a b) p w = (run a p.1 w, run b p.2 w)
  | [], p => rfl
  | x :: w, p => node2 w (step2 a b p x)
theorem ord1_le (hv : validA a = true) {s : Int} (hs : 0 ≤ s ∧ s < a.next.length) : (ord (goA a) s (letters a.al)).length ≤ a.next.length := by
  have h := bfsw_range (f := goA a) (s := s) (L := letters a.al) (n := a.next.length) (D := fun q => 0 ≤ q ∧ q < (a.next.length : Int)) hs (fun q hq x hx => goA_in hv hq ⟨(mem_letters hx).1, (mem_letters hx).2.1⟩) (fun q hq => hq) (many 0)
  rw [bfsw_length] at h
  exact h
theorem ord2_le (hv : validA a = true) (hv' : validA b = true) {p : Int × Int} (hp : In2 a b p) {al : Int} : (ord (step2 a b) p (letters al)).length ≤ a.next.length * b.next.length := by
  have h := bfsw_range (f := fP a b) (s := enc2 b p) (L := letters al) (n := a.next.length * b.next.length) (D := InP a b) (inP_enc hp) (fun q hq x hx => fP_in hv hv' hq ⟨(mem_letters hx).1, (mem_letters hx).2.1⟩) (fun q hq => hq) (many 0)
  rw [bfsw_map' (P := In2 a b) enc_inj hp (fun q hq l hl => in2 hv hv' hq ⟨(mem_letters hl).1, (mem_letters hl).2.1⟩) (fun q hq l _ => fP_enc hq l), bfsw_length] at h
  exact h
theorem isFirst_A (hv : validA a = true) {s : Int} (hs : 0 ≤ s ∧ s < a.next.length) (G : Int → Bool) : IsFirst (letters a.al) (fun w => G (run a s w)) (firstA a s G) := by
  have hl : (ord (goA a) s (letters a.al)).length ≤ 200 := by have := ord1_le hv hs; have := (validA_spec.1 hv).2.1; omega
  unfold firstA
  cases h : firstOf (goA a) s (letters a.al) G with
  | none => exact first_none (letters_sorted _) hl h
  | some w =>
    have := first_some (letters_sorted _) hl h
    exact ⟨ordw_over (letters_sorted _) this.1, this.2.1, this.2.2⟩
theorem isFirst_AB (hv : validA a = true) (hv' : validA b = true) {p : Int × Int} (hp : In2 a b p) (g : Bool → Bool → Bool) : IsFirst (letters a.al) (fun w => g (accA a (run a p.1 w)) (accA b (run b p.2 w))) (firstAB a b p g) := by
  have hl : (ord (step2 a b) p (letters a.al)).length ≤ 200 := by have := ord2_le hv hv' hp (al := a.al); have := le144 hv hv'; omega
  unfold firstAB
  cases h : firstOf (step2 a b) p (letters a.al) (fun p => g (accA a p.1) (accA b p.2)) with
  | none =>
    intro v hv
    have := first_none (letters_sorted _) hl h v hv
    rw [node2] at this
    exact this
  | some w =>
    have h1 := first_some (letters_sorted _) hl h
    rw [node2] at h1
    refine ⟨ordw_over (letters_sorted _) h1.1, h1.2.1, fun v hv hg => h1.2.2 v hv ?_⟩
    rw [node2]
    exact hg
theorem firstA_short (hv : validA a = true) {s : Int} (hs : 0 ≤ s ∧ s < a.next.length) {G : Int → Bool} {w : List Int} (h : firstA a s G = some w) : w.length + 1 ≤ a.next.length := by
  have hl : (ord (goA a) s (letters a.al)).length ≤ 200 := by have := ord1_le hv hs; have := (validA_spec.1 hv).2.1; omega
  have h1 := first_some (letters_sorted _) hl h
  exact Nat.le_trans (ordw_short (letters_sorted _) h1.1) (ord1_le hv hs)
theorem isFirst_two (hC : cmp2 a b = true) (g : Bool → Bool → Bool) : IsFirst (letters a.al) (fun w => g (accA a (run a 0 w)) (accA b (run b 0 w))) (fTwo a b g) := by
  have h := cmp2_spec.1 hC
  rw [fTwo, if_pos hC]
  exact isFirst_AB h.1 h.2.1 (in_zero h.1 h.2.1) g
def wtx (o : Option (List Int)) : ByteArray := txt (o.getD [])
end
end Go.Proofs.Ytdejmfkpohgamaa
set_option linter.unusedSimpArgs false
set_option linter.unusedVariables false
namespace Go.Proofs.Ytdejmfkpohgamaa
def before (v w : ByteArray) : Bool := within v 63 && (within w 63 && (decide (v.size < w.size) || (decide (v.size = w.size) && Go.Op.bytesLess v.data.toList w.data.toList)))
theorem less_lex : ∀ (xs ys : List UInt8), xs.length = ys.length → (Go.Op.bytesLess xs ys = true ↔ lexLt (xs.map fun b => (b.toNat : Int) - 97) (ys.map fun b => (b.toNat : Int) - 97))
  | [], [], _ => by simp [Go.Op.bytesLess, lexLt]
  | [], _ :: _, h => by simp at h
  | _ :: _, [], h => by simp at h
  | x :: xs, y :: ys, h => by
    have ih := less_lex xs ys (by simpa using h)
    rw [List.map_cons, List.map_cons, Go.Op.bytesLess, lexLt, ← ih]
    have e1 : (x < y) ↔ ((x.toNat : Int) - 97 < (y.toNat : Int) - 97) := by rw [UInt8.lt_iff_toNat_lt]; omega
    have e2 : (x = y) ↔ ((x.toNat : Int) - 97 = (y.toNat : Int) - 97) := by rw [← UInt8.toNat_inj]; omega
    rw [Bool.or_eq_true, Bool.and_eq_true, decide_eq_true_iff, beq_iff_eq, e1, e2]
theorem before_iff {v w : ByteArray} : before v w = true ↔ within v 63 = true ∧ within w 63 = true ∧ sl (lts v) (lts w) := by
  unfold before sl
  rw [Bool.and_eq_true, Bool.and_eq_true, Bool.or_eq_true, Bool.and_eq_true, decide_eq_true_iff, decide_eq_true_iff, lts_length, lts_length]
  constructor
  · rintro ⟨h1, h2, h | ⟨h, h'⟩⟩
    · exact ⟨h1, h2, .inl h⟩
    · exact ⟨h1, h2, .inr ⟨h, (less_lex _ _ h).1 h'⟩⟩
  · rintro ⟨h1, h2, h | ⟨h, h'⟩⟩
    · exact ⟨h1, h2, .inl h⟩
    · exact ⟨h1, h2, .inr ⟨h, (less_lex _ _ h).2 h'⟩⟩
section
variable {a b : A}
theorem short_txt {w : List Int} (h : ∀ x ∈ w, 0 ≤ x ∧ x < 6) (hl : w.length ≤ 50000) : within (txt w) 63 = true := txt_within (by decide) (fun x hx => letters_mem (h x hx) (by rw [hs63]; exact decide_eq_true (h x hx))) hl
theorem at_first (hv : validA a = true) (q : Int) : IsFirst (letters a.al) (fun w => decide (run a 0 w = q)) (fAt a q) := by
  rw [fAt, if_pos hv]
  exact isFirst_A hv (zero_in hv) (fun x => decide (x = q))
theorem at_word {q : Int} {w : List Int} (hv : validA a = true) (h : fAt a q = some w) : (∀ x ∈ w, x ∈ letters a.al) ∧ run a 0 w = q ∧ w.length + 1 ≤ a.next.length := by
  have h1 := at_first hv q
  rw [h] at h1
  have h2 := h
  rw [fAt, if_pos hv] at h2
  exact ⟨h1.1, of_decide_eq_true h1.2.1, firstA_short hv (zero_in hv) h2⟩
theorem at_valid {q : Int} (h : (fAt a q).isSome = true) : validA a = true := by
  cases hv : validA a with
  | true => rfl
  | false => rw [fAt, if_neg (by rw [hv]; decide)] at h; cases h
theorem small_word {w : List Int} (hv : validA a = true) (h : w.length + 1 ≤ a.next.length) : w.length ≤ 50000 := by have := (validA_spec.1 hv).2.1; omega
theorem after_txt {w : List Int} (hv : validA a = true) (h : ∀ x ∈ w, x ∈ letters a.al) (hl : w.length ≤ 50000) : after a (txt w) = run a 0 w := by
  rw [after_run hv (txt_within (validA_spec.1 hv).1 h hl), lts_txt (over_six h)]
theorem at_self {w : List Int} (hv : validA a = true) (h : w ∈ ordw (goA a) 0 (letters a.al)) : fAt a (run a 0 w) = some w := by
  have hl : (ord (goA a) 0 (letters a.al)).length ≤ 200 := by have := ord1_le hv (zero_in hv); have := (validA_spec.1 hv).2.1; omega
  rw [fAt, if_pos hv]
  exact first_self (letters_sorted _) hl h
end
section
open Classical
variable {α : Type} {f : α → Int → α} {L : List Int} {G : α → Bool} {U : List α}
def Alike (f : α → Int → α) (L : List Int) (G : α → Bool) (k : Nat) (x y : α) : Prop := ∀ w : List Int, w.length < k → (∀ l ∈ w, l ∈ L) → G (nodeOf f x w) = G (nodeOf f y w)
theorem Alike.refl (k : Nat) (x : α) : Alike f L G k x x := fun _ _ _ => rfl
theorem Alike.symm {k : Nat} {x y : α} (h : Alike f L G k x y) : Alike f L G k y x := fun w h1 h2 => (h w h1 h2).symm
theorem Alike.trans {k : Nat} {x y z : α} (h : Alike f L G k x y) (h' : Alike f L G k y z) : Alike f L G k x z := fun w h1 h2 => (h w h1 h2).trans (h' w h1 h2)
end
section
variable {a b : A}
end
end Go.Proofs.Ytdejmfkpohgamaa
set_option linter.unusedSimpArgs false
set_option linter.unusedVariables false
namespace Go.Proofs.Ytdejmfkpohgamaa
def accW (a : A) (w : List Int) : Bool := accA a (run a 0 w)
section
variable {a b : A}
theorem same_iff (hC : cmp2 a b = true) : sameL a b = true ↔ ∀ v : List Int, (∀ x ∈ v, x ∈ letters a.al) → accW a v = accW b v := by
  have h := (isFirst_two hC (fun x y => x != y)).isNone
  rw [sameL, hC, Bool.true_and, Bool.not_eq_true']
  unfold fDif
  rw [h]
  constructor
  · intro hh v hv
    have : (accW a v != accW b v) = false := hh v hv
    simpa using this
  · intro hh v hv
    have := hh v hv
    show (accW a v != accW b v) = false
    rw [this]; simp
theorem accW_num {α : Type} [DecidableEq α] {al : Int} {f : α → Int → α} {s : α} {acc : α → Bool} (hal : 0 ≤ al ∧ al ≤ 63) (h : (ord f s (letters al)).length ≤ 200) {w : List Int} (hw : ∀ x ∈ w, x ∈ letters al) : accW (num al f s acc) w = acc (nodeOf f s w) := by
  have h1 := run_num (acc := acc) hal h w (q := s) ord_mem0 hw
  rw [ord_zero' h] at h1
  unfold accW accA
  rw [show ((0 : Nat) : Int) = 0 from rfl] at h1
  rw [h1.1]
  exact acc_num h1.2
theorem ord200 (hv : validA a = true) : (ord (goA a) 0 (letters a.al)).length ≤ 200 := by have := trim_len hv; have := (validA_spec.1 hv).2.1; omega
theorem accW_trim (hv : validA a = true) {v : List Int} (hx : ∀ x ∈ v, x ∈ letters a.al) : accW (trim a) v = accW a v := accW_num (validA_spec.1 hv).1 (ord200 hv) hx
theorem run_trim (hv : validA a = true) {v : List Int} (hx : ∀ x ∈ v, x ∈ letters a.al) : run (trim a) 0 v = ((ord (goA a) 0 (letters a.al)).idxOf (run a 0 v) : Int) ∧ run a 0 v ∈ ord (goA a) 0 (letters a.al) := by
  have h1 := run_num (acc := accA a) (validA_spec.1 hv).1 (ord200 hv) v (q := 0) ord_mem0 hx
  rw [ord_zero' (ord200 hv)] at h1
  exact h1
theorem cmp2_trim (hv : validA a = true) : cmp2 a (trim a) = true := cmp2_spec.2 ⟨hv, trim_valid hv, rfl⟩
theorem same_trim (hv : validA a = true) : sameL a (trim a) = true := (same_iff (cmp2_trim hv)).2 fun v hx => (accW_trim hv hx).symm
theorem trim_lenI (hv : validA a = true) : ((trim a).next.length : Int) ≤ a.next.length := by
  have := trim_len hv
  unfold trim
  rw [num_len]
  omega
theorem trim_at (hv : validA a = true) {i : Nat} (hi : i < (trim a).next.length) : ∃ w, (ordw (goA a) 0 (letters a.al))[i]? = some w ∧ fAt (trim a) i = some w ∧ fAt a (run a 0 w) = some w ∧ (∀ x ∈ w, x ∈ letters a.al) ∧ w.length ≤ 50000 := by
  have hl : (trim a).next.length = (ordw (goA a) 0 (letters a.al)).length := by unfold trim; rw [num_len, ordw_length]
  rw [hl] at hi
  have hw := List.getElem?_eq_getElem hi
  have hm : (ordw (goA a) 0 (letters a.al))[i] ∈ ordw (goA a) 0 (letters a.al) := List.getElem_mem hi
  have hs := at_self hv hm
  have ho := ordw_over (letters_sorted _) hm
  have hn : (ord (goA a) 0 (letters a.al))[i]? = some (run a 0 (ordw (goA a) 0 (letters a.al))[i]) := by
    rw [← ordw_map, List.getElem?_map, hw]; rfl
  refine ⟨_, hw, ?_, hs, ho, by have := (at_word hv hs).2.2; exact small_word hv this⟩
  have h1 := at_first (trim_valid hv) (i : Int)
  have h2 := at_first hv (run a 0 (ordw (goA a) 0 (letters a.al))[i])
  rw [hs] at h2
  refine IsFirst.uniq h1 h2 fun v hx => ?_
  have hr := run_trim hv hx
  show decide (run (trim a) 0 v = (i : Int)) = decide (run a 0 v = _)
  rw [hr.1, decide_eq_decide]
  constructor
  · intro h
    have h3 := getElem_idx hr.2
    rw [show (ord (goA a) 0 (letters a.al)).idxOf (run a 0 v) = i by omega, hn] at h3
    exact (Option.some.inj h3).symm
  · intro h
    rw [h, idx_getElem ord_nodup hn]
theorem trim_access (hv : validA a = true) {i : Int} (hi : 0 ≤ i ∧ i < (trim a).next.length) : (fAt (trim a) i).isSome = true := by
  obtain ⟨w, _, h, _⟩ := trim_at hv (i := i.toNat) (by omega)
  rw [Int.toNat_of_nonneg hi.1] at h
  rw [h]; rfl
def accTxt (a : A) (i : Int) : ByteArray := wtx (fAt (trim a) i)
theorem trim_order (hv : validA a = true) {i : Int} (hi : 0 ≤ i ∧ i < (trim a).next.length) : (fAt a (after a (accTxt a i))).isSome = true ∧ wtx (fAt a (after a (accTxt a i))) = accTxt a i ∧ (0 < i → before (accTxt a (i - 1)) (accTxt a i) = true) := by
  obtain ⟨w, hw, h, h1, ho, hl⟩ := trim_at hv (i := i.toNat) (by omega)
  rw [Int.toNat_of_nonneg hi.1] at h
  have e : accTxt a i = txt w := by rw [accTxt, h]; rfl
  rw [e, after_txt hv ho hl, h1]
  refine ⟨rfl, rfl, fun hp => ?_⟩
  obtain ⟨u, hu, h', _, hou, hlu⟩ := trim_at hv (i := (i - 1).toNat) (by omega)
  rw [Int.toNat_of_nonneg (by omega)] at h'
  rw [show accTxt a (i - 1) = txt u by rw [accTxt, h']; rfl]
  refine before_iff.2 ⟨short_txt (over_six hou) hlu, short_txt (over_six ho) hl, ?_⟩
  rw [lts_txt (over_six hou), lts_txt (over_six ho)]
  obtain ⟨l1, rfl⟩ := List.getElem?_eq_some_iff.1 hu
  obtain ⟨l2, rfl⟩ := List.getElem?_eq_some_iff.1 hw
  exact List.pairwise_iff_getElem.1 (ordw_sorted (letters_sorted _)) _ _ l1 l2 (by omega)
end
end Go.Proofs.Ytdejmfkpohgamaa
set_option linter.unusedSimpArgs false
set_option linter.unusedVariables false
namespace Go.Proofs.Ytdejmfkpohgamaa
section
variable {κ μ : Type} [DecidableEq κ] [DecidableEq μ] {xs : List κ}
def dd (xs : List κ) : List κ := addAll [] xs
end
section
variable {a : A}
end
end Go.Proofs.Ytdejmfkpohgamaa
set_option linter.unusedSimpArgs false
set_option linter.unusedVariables false
namespace Go.Proofs.Ytdejmfkpohgamaa
def rowQ (a : A) (cs : List Int) (q : Nat) : List Int := (a.next.getD q []).map fun t => cs.getD t.toNat 0
def quo (a : A) (cs : List Int) : A := ⟨a.al, (dd cs).map fun c => rowQ a cs (cs.idxOf c), (dd cs).map fun c => a.acc.getD (cs.idxOf c) false⟩
section
variable {a b : A}
end
section
variable {α β : Type} [DecidableEq α] [DecidableEq β] {f : α → Int → α} {s : α} {L : List Int} {f' : β → Int → β} {g : α → β}
def pick (f' : β → Int → β) (s' : β) (us : List (List Int)) (ws : List (List Int)) : List (List Int) := ws.foldl (fun us w => wadd f' s' us w) us
end
section
variable {a : A}
end
end Go.Proofs.Ytdejmfkpohgamaa
set_option linter.unusedSimpArgs false
set_option linter.unusedVariables false
namespace Go.Proofs.Ytdejmfkpohgamaa
open Go.RowKit
section
variable {P : Program} {N : Nat} {ops : Array Oper} {Q : Exit → Act → World → Prop} {rest : List Oper} {l : Slots} {w : World}
variable {d : Nat} {ty : TypeId} {pos : String} {after : Array Edge} {g : Option (Nat × Bool)}
theorem Still.lssS {xt yt : TypeId} {x y : Operand} {s t : ByteArray} (hx : ev l x = some (.string s)) (hy : ev l y = some (.string t)) : Still P N l ⟨some d, .binOp .lss xt x y yt, ty, pos, after, g⟩ (.bool (Go.Op.bytesLess s.data.toList t.data.toList)) w := fun a ha => by
  simp only [execOp, ha.ev hx, ha.ev hy, eqGuard, binOp_string_lss, ByteArray.toList_eq]
  simp
theorem Sq.lssS {xt yt : TypeId} {x y : Operand} {s t : ByteArray} (hg : On ops l g) (hN : Nat.blt d N = true) (hx : ev l x = some (.string s)) (hy : ev l y = some (.string t)) (h : Sq P N ops Q rest ((d, .bool (Go.Op.bytesLess s.data.toList t.data.toList)) :: l) w) : Sq P N ops Q (⟨some d, .binOp .lss xt x y yt, ty, pos, after, g⟩ :: rest) l w := .val hg rfl hN (Still.lssS hx hy) h
theorem Still.gtrS {xt yt : TypeId} {x y : Operand} {s t : ByteArray} (hx : ev l x = some (.string s)) (hy : ev l y = some (.string t)) : Still P N l ⟨some d, .binOp .gtr xt x y yt, ty, pos, after, g⟩ (.bool (!(Go.Op.bytesLess s.data.toList t.data.toList || s.data.toList == t.data.toList))) w := fun a ha => by
  simp only [execOp, ha.ev hx, ha.ev hy, eqGuard, binOp, Op.stringOp, ByteArray.toList_eq]
  simp
theorem Sq.gtrS {xt yt : TypeId} {x y : Operand} {s t : ByteArray} (hg : On ops l g) (hN : Nat.blt d N = true) (hx : ev l x = some (.string s)) (hy : ev l y = some (.string t)) (h : Sq P N ops Q rest ((d, .bool (!(Go.Op.bytesLess s.data.toList t.data.toList || s.data.toList == t.data.toList))) :: l) w) : Sq P N ops Q (⟨some d, .binOp .gtr xt x y yt, ty, pos, after, g⟩ :: rest) l w := .val hg rfl hN (Still.gtrS hx hy) h
end
def cmpI (x y : Int) : Int := if x < y then -1 else if x > y then 1 else 0
def cmpS (s t : ByteArray) : Int := if Go.Op.bytesLess s.data.toList t.data.toList = true then -1 else if (!(Go.Op.bytesLess s.data.toList t.data.toList || s.data.toList == t.data.toList)) = true then 1 else 0
def slx (s t : ByteArray) : Int := if cmpI s.size t.size ≠ 0 then cmpI s.size t.size else cmpS s t
theorem slx_lt (s t : ByteArray) : slx s t < 0 ↔ s.size < t.size ∨ s.size = t.size ∧ Go.Op.bytesLess s.data.toList t.data.toList = true := by
  unfold slx cmpI
  rcases Nat.lt_trichotomy s.size t.size with h | h | h
  · rw [if_pos (by omega : (s.size : Int) < t.size), if_pos (by decide)]
    exact ⟨fun _ => .inl h, fun _ => by decide⟩
  · rw [if_neg (by omega : ¬ (s.size : Int) < t.size), if_neg (by omega : ¬ (s.size : Int) > t.size), if_neg (by decide)]
    unfold cmpS
    cases hb : Go.Op.bytesLess s.data.toList t.data.toList with
    | true => rw [if_pos rfl]; exact ⟨fun _ => .inr ⟨h, rfl⟩, fun _ => by decide⟩
    | false =>
      rw [if_neg (by decide)]
      constructor
      · intro hc; split at hc <;> omega
      · rintro (h2 | ⟨_, h2⟩)
        · omega
        · cases h2
  · rw [if_neg (by omega : ¬ (s.size : Int) < t.size), if_pos (by omega : (s.size : Int) > t.size), if_pos (by decide)]
    constructor
    · intro hc; omega
    · rintro (h2 | ⟨h2, _⟩) <;> omega
theorem before_slx {v w : ByteArray} (h : within v 63 = true) (h' : within w 63 = true) : before v w = decide (slx v w < 0) := by
  rw [Bool.eq_iff_iff, decide_eq_true_iff, slx_lt]
  unfold before
  rw [h, h', Bool.true_and, Bool.true_and, Bool.or_eq_true, Bool.and_eq_true, decide_eq_true_iff, decide_eq_true_iff]
theorem before_no {v w : ByteArray} (h : within v 63 = false ∨ within w 63 = false) : before v w = false := by
  unfold before
  rcases h with h | h <;> rw [h] <;> simp
section
variable {a b : A}
theorem at_size {q : Int} : (txt ((fAt a q).getD [])).size ≤ 150 := by
  cases hd : fAt a q with
  | none => exact Nat.zero_le _
  | some w =>
    have := (at_word (at_valid (by rw [hd]; rfl)) hd).2.2
    have := (validA_spec.1 (at_valid (a := a) (q := q) (by rw [hd]; rfl))).2.1
    show (txt w).size ≤ 150
    rw [txt_size]
    omega
theorem bytes_same {s t : ByteArray} (h : s = t) : s.data.toList = t.data.toList := by rw [h]
end
end Go.Proofs.Ytdejmfkpohgamaa
set_option linter.unusedSimpArgs false
set_option linter.unusedVariables false
namespace Go.Proofs.Ytdejmfkpohgamaa
open Go.RowKit
set_option maxRecDepth 100000 in
theorem nanI_c (n : Int) (w0 : World) : Ret Try.prog 126 #[Value.int .i64 n] w0 (fun v w => v = .bool false ∧ w0 = w) := by
  refine Ret.of (args := [Value.int .i64 n]) Try.func126 rfl rfl rfl ?_
  rintro _ rfl
  show Cq _ _ _ _ [(0, Value.int .i64 n)] _
  refine Cq.seq ?_
  refine Cq.region ?_
  refine Sq.assign .plain rfl rfl ?_
  refine Sq.nil ?_
  refine Eq.next ?_
  refine Cq.seq ?_
  refine Cq.region ?_
  refine Sq.move .plain rfl rfl ?_
  refine Sq.move .plain rfl rfl ?_
  refine Sq.neq .plain rfl rfl rfl ?_
  refine Sq.isF (by omega) ?_
  refine Sq.assign .plain rfl rfl ?_
  refine Sq.nil ?_
  refine Eq.next ?_
  refine Cq.ret ?_
  refine Eq.ret1 rfl rfl ?_
  exact ⟨rfl, rfl⟩
set_option maxRecDepth 100000 in
theorem nanS_c (s : ByteArray) (w0 : World) : Ret Try.prog 127 #[Value.string s] w0 (fun v w => v = .bool false ∧ w0 = w) := by
  refine Ret.of (args := [Value.string s]) Try.func127 rfl rfl rfl ?_
  rintro _ rfl
  show Cq _ _ _ _ [(0, Value.string s)] _
  refine Cq.seq ?_
  refine Cq.region ?_
  refine Sq.assign .plain rfl rfl ?_
  refine Sq.nil ?_
  refine Eq.next ?_
  refine Cq.seq ?_
  refine Cq.region ?_
  refine Sq.move .plain rfl rfl ?_
  refine Sq.move .plain rfl rfl ?_
  refine Sq.neqS .plain rfl rfl rfl ?_
  refine Sq.isF (fun h => h rfl) ?_
  refine Sq.assign .plain rfl rfl ?_
  refine Sq.nil ?_
  refine Eq.next ?_
  refine Cq.ret ?_
  refine Eq.ret1 rfl rfl ?_
  exact ⟨rfl, rfl⟩
set_option maxRecDepth 100000 in
theorem cmpI_c (x y : Int) (w0 : World) : Ret Try.prog 108 #[Value.int .i64 x, Value.int .i64 y] w0 (fun v w => v = .int .i64 (cmpI x y) ∧ w0 = w) := by
  refine Ret.of (args := [Value.int .i64 x, Value.int .i64 y]) Try.func108 rfl rfl rfl ?_
  rintro _ rfl
  show Cq _ _ _ _ [(0, Value.int .i64 x), (1, Value.int .i64 y)] _
  refine Cq.seq ?_
  refine Cq.region ?_
  refine Sq.assign .plain rfl rfl ?_
  refine Sq.nil ?_
  refine Eq.next ?_
  refine Cq.seq ?_
  refine Cq.region ?_
  refine Sq.move .plain rfl rfl ?_
  refine Sq.call fn126 .plain rfl rfl (nanI_c _ _) ?_
  rintro _ _ ⟨rfl, rfl⟩
  refine Sq.assign .plain rfl rfl ?_
  refine Sq.nil ?_
  refine Eq.next ?_
  refine Cq.seq ?_
  refine Cq.region ?_
  refine Sq.move .plain rfl rfl ?_
  refine Sq.call fn126 .plain rfl rfl (nanI_c _ _) ?_
  rintro _ _ ⟨rfl, rfl⟩
  refine Sq.assign .plain rfl rfl ?_
  refine Sq.nil ?_
  refine Eq.next ?_
  refine Cq.seq ?_
  refine Cq.seq ?_
  refine Cq.region ?_
  refine Sq.move .plain rfl rfl ?_
  refine Sq.nil ?_
  refine Eq.next ?_
  refine Cq.els rfl ?_
  refine Cq.skip ?_
  refine Eq.next ?_
  refine Cq.seq ?_
  refine Cq.seq ?_
  refine Cq.region ?_
  refine Sq.move .plain rfl rfl ?_
  refine Sq.nil ?_
  refine Eq.next ?_
  refine Cq.els rfl ?_
  refine Cq.skip ?_
  refine Eq.next ?_
  refine Cq.seq ?_
  refine Cq.seq ?_
  refine Cq.region ?_
  refine Sq.move .plain rfl rfl ?_
  refine Sq.move .plain rfl rfl ?_
  refine Sq.lss .plain rfl rfl rfl ?_
  refine Sq.part (fun h1 => ?_) (fun h1 => ?_)
  · refine Sq.nil ?_
    refine Eq.next ?_
    refine Cq.thn rfl ?_
    refine Cq.seq ?_
    refine Cq.region ?_
    refine Sq.assign .plain rfl rfl ?_
    refine Sq.nil ?_
    refine Eq.next ?_
    refine Cq.ret ?_
    refine Eq.pastRet ?_
    refine Eq.ret1 rfl rfl ?_
    exact ⟨by unfold cmpI; first | rw [if_pos h1] | rw [if_neg h1, if_pos h2] | rw [if_neg h1, if_neg h2], rfl⟩
  refine Sq.nil ?_
  refine Eq.next ?_
  refine Cq.els rfl ?_
  refine Cq.skip ?_
  refine Eq.next ?_
  refine Cq.seq ?_
  refine Cq.seq ?_
  refine Cq.region ?_
  refine Sq.move .plain rfl rfl ?_
  refine Sq.move .plain rfl rfl ?_
  refine Sq.gtr .plain rfl rfl rfl ?_
  refine Sq.part (fun h2 => ?_) (fun h2 => ?_)
  · refine Sq.nil ?_
    refine Eq.next ?_
    refine Cq.thn rfl ?_
    refine Cq.seq ?_
    refine Cq.region ?_
    refine Sq.assign .plain rfl rfl ?_
    refine Sq.nil ?_
    refine Eq.next ?_
    refine Cq.ret ?_
    refine Eq.pastRet ?_
    refine Eq.ret1 rfl rfl ?_
    exact ⟨by unfold cmpI; first | rw [if_pos h1] | rw [if_neg h1, if_pos h2] | rw [if_neg h1, if_neg h2], rfl⟩
  refine Sq.nil ?_
  refine Eq.next ?_
  refine Cq.els rfl ?_
  refine Cq.skip ?_
  refine Eq.next ?_
  refine Cq.seq ?_
  refine Cq.region ?_
  refine Sq.assign .plain rfl rfl ?_
  refine Sq.nil ?_
  refine Eq.next ?_
  refine Cq.ret ?_
  refine Eq.ret1 rfl rfl ?_
  exact ⟨by unfold cmpI; first | rw [if_pos h1] | rw [if_neg h1, if_pos h2] | rw [if_neg h1, if_neg h2], rfl⟩
set_option maxRecDepth 100000 in
theorem cmpS_c (x y : ByteArray) (w0 : World) : Ret Try.prog 109 #[Value.string x, Value.string y] w0 (fun v w => v = .int .i64 (cmpS x y) ∧ w0 = w) := by
  refine Ret.of (args := [Value.string x, Value.string y]) Try.func109 rfl rfl rfl ?_
  rintro _ rfl
  show Cq _ _ _ _ [(0, Value.string x), (1, Value.string y)] _
  refine Cq.seq ?_
  refine Cq.region ?_
  refine Sq.assign .plain rfl rfl ?_
  refine Sq.nil ?_
  refine Eq.next ?_
  refine Cq.seq ?_
  refine Cq.region ?_
  refine Sq.move .plain rfl rfl ?_
  refine Sq.call fn127 .plain rfl rfl (nanS_c _ _) ?_
  rintro _ _ ⟨rfl, rfl⟩
  refine Sq.assign .plain rfl rfl ?_
  refine Sq.nil ?_
  refine Eq.next ?_
  refine Cq.seq ?_
  refine Cq.region ?_
  refine Sq.move .plain rfl rfl ?_
  refine Sq.call fn127 .plain rfl rfl (nanS_c _ _) ?_
  rintro _ _ ⟨rfl, rfl⟩
  refine Sq.assign .plain rfl rfl ?_
  refine Sq.nil ?_
  refine Eq.next ?_
  refine Cq.seq ?_
  refine Cq.seq ?_
  refine Cq.region ?_
  refine Sq.move .plain rfl rfl ?_
  refine Sq.nil ?_
  refine Eq.next ?_
  refine Cq.els rfl ?_
  refine Cq.skip ?_
  refine Eq.next ?_
  refine Cq.seq ?_
  refine Cq.seq ?_
  refine Cq.region ?_
  refine Sq.move .plain rfl rfl ?_
  refine Sq.nil ?_
  refine Eq.next ?_
  refine Cq.els rfl ?_
  refine Cq.skip ?_
  refine Eq.next ?_
  refine Cq.seq ?_
  refine Cq.seq ?_
  refine Cq.region ?_
  refine Sq.move .plain rfl rfl ?_
  refine Sq.move .plain rfl rfl ?_
  refine Sq.lssS .plain rfl rfl rfl ?_
  refine Sq.partB (fun h1 => ?_) (fun h1 => ?_)
  · refine Sq.nil ?_
    refine Eq.next ?_
    refine Cq.thn rfl ?_
    refine Cq.seq ?_
    refine Cq.region ?_
    refine Sq.assign .plain rfl rfl ?_
    refine Sq.nil ?_
    refine Eq.next ?_
    refine Cq.ret ?_
    refine Eq.pastRet ?_
    refine Eq.ret1 rfl rfl ?_
    exact ⟨by unfold cmpS; first | rw [if_pos h1] | rw [if_neg (by rw [h1]; decide), if_pos h2] | rw [if_neg (by rw [h1]; decide), if_neg (by rw [h2]; decide)], rfl⟩
  refine Sq.nil ?_
  refine Eq.next ?_
  refine Cq.els rfl ?_
  refine Cq.skip ?_
  refine Eq.next ?_
  refine Cq.seq ?_
  refine Cq.seq ?_
  refine Cq.region ?_
  refine Sq.move .plain rfl rfl ?_
  refine Sq.move .plain rfl rfl ?_
  refine Sq.gtrS .plain rfl rfl rfl ?_
  refine Sq.partB (fun h2 => ?_) (fun h2 => ?_)
  · refine Sq.nil ?_
    refine Eq.next ?_
    refine Cq.thn rfl ?_
    refine Cq.seq ?_
    refine Cq.region ?_
    refine Sq.assign .plain rfl rfl ?_
    refine Sq.nil ?_
    refine Eq.next ?_
    refine Cq.ret ?_
    refine Eq.pastRet ?_
    refine Eq.ret1 rfl rfl ?_
    exact ⟨by unfold cmpS; first | rw [if_pos h1] | rw [if_neg (by rw [h1]; decide), if_pos h2] | rw [if_neg (by rw [h1]; decide), if_neg (by rw [h2]; decide)], rfl⟩
  refine Sq.nil ?_
  refine Eq.next ?_
  refine Cq.els rfl ?_
  refine Cq.skip ?_
  refine Eq.next ?_
  refine Cq.seq ?_
  refine Cq.region ?_
  refine Sq.assign .plain rfl rfl ?_
  refine Sq.nil ?_
  refine Eq.next ?_
  refine Cq.ret ?_
  refine Eq.ret1 rfl rfl ?_
  exact ⟨by unfold cmpS; first | rw [if_pos h1] | rw [if_neg (by rw [h1]; decide), if_pos h2] | rw [if_neg (by rw [h1]; decide), if_neg (by rw [h2]; decide)], rfl⟩
set_option maxRecDepth 100000 in
theorem or2_c (w0 : World) (r : Value) (x y : Int) (hr : Ints w0 3 r [x, y]) : Ret Try.prog 107 #[r] w0 (fun v w => v = .int .i64 (if x ≠ 0 then x else y) ∧ Ext w0 w) := by
  have E := Ext.refl w0
  refine Ret.of (args := [r]) Try.func107 rfl rfl rfl ?_
  rintro _ rfl
  show Cq _ _ _ _ [(0, r)] _
  refine Cq.seq ?_
  refine Cq.region ?_
  refine Sq.assign .plain rfl rfl ?_
  refine Sq.nil ?_
  refine Eq.next ?_
  refine Cq.seq ?_
  refine Cq.region ?_
  refine Sq.assign .plain rfl rfl ?_
  refine Sq.nil ?_
  refine Eq.next ?_
  refine Cq.seq ?_
  refine Cq.seq ?_
  refine Cq.region ?_
  refine Sq.move .plain rfl rfl ?_
  refine Sq.lenInts (hr.ext E) .plain rfl und56 rfl ?_
  refine Sq.move .plain rfl rfl ?_
  refine Sq.nil ?_
  refine Eq.next ?_
  refine Cq.block ?_
  refine Cq.loop (fun nn w ls => ∃ (k : Int), ls = [(3, Value.int .i64 0), (6, r), (7, Value.int .i64 ((List.length ([x, y] : List Int) : Int))), (8, Value.int .i64 k)] ∧ (0 ≤ k ∧ k ≤ 2) ∧ (0 < k → x = 0) ∧ (1 < k → y = 0) ∧ Ext w0 w ∧ nn = (2 - k).toNat) _ _ ⟨0, rfl, by omega, by omega, by omega, E, rfl⟩ (.cons rfl (.cons rfl (.cons rfl (.cons rfl (.nil))))) ?_
  rintro nn wl1 ls ⟨k, rfl, hk, h0, h1, E, rfl⟩
  have hs1 := Below.size E
  have hl2 : (List.length ([x, y] : List Int) : Int) = 2 := rfl
  have hg0 : k = 0 → ([x, y] : List Int).getD k.toNat 0 = x := fun h => by rw [h]; rfl
  have hg1 : k = 1 → ([x, y] : List Int).getD k.toNat 0 = y := fun h => by rw [h]; rfl
  refine Cq.seq ?_
  refine Cq.region ?_
  refine Sq.lss .plain rfl rfl rfl ?_
  refine Sq.part (fun c2 => ?_) (fun c2 => ?_)
  · refine Sq.nil ?_
    refine Eq.next ?_
    refine Cq.seq ?_
    refine Cq.thn rfl ?_
    refine Cq.skip ?_
    refine Eq.next ?_
    refine Cq.seq ?_
    refine Cq.block ?_
    refine Cq.seq ?_
    refine Cq.region ?_
    refine Sq.idxInts sl56 one3 (hr.ext E) .plain rfl rfl rfl .plain rfl rfl (by omega) (by omega) ?_
    refine Sq.assign .plain rfl rfl ?_
    refine Sq.nil ?_
    refine Eq.next ?_
    refine Cq.seq ?_
    refine Cq.region ?_
    refine Sq.move .plain rfl rfl ?_
    refine Sq.move .plain rfl rfl ?_
    refine Sq.neq .plain rfl rfl rfl ?_
    refine Sq.part (fun hz => ?_) (fun hz => ?_)
    · refine Sq.nil ?_
      refine Eq.next ?_
      refine Cq.thn rfl ?_
      refine Cq.seq ?_
      refine Cq.region ?_
      refine Sq.move .plain rfl rfl ?_
      refine Sq.assign .plain rfl rfl ?_
      refine Sq.nil ?_
      refine Eq.next ?_
      refine Cq.ret ?_
      refine Eq.outRet ?_
      refine Eq.pastRet ?_
      refine Eq.pastRet ?_
      refine Eq.outRet ?_
      refine Eq.pastRet ?_
      refine Eq.ret1 rfl rfl ?_
      exact ⟨by
                           congr 1
                           rcases (by omega : k = 0 ∨ k = 1) with h | h
                           · rw [hg0 h] at hz ⊢
                             rw [if_pos hz]
                           · rw [hg1 h] at hz ⊢
                             rw [if_neg (by have := h0 (by omega); omega)], E⟩
    refine Sq.nil ?_
    refine Eq.next ?_
    refine Cq.els rfl ?_
    refine Cq.skip ?_
    refine Eq.end ?_
    refine Eq.next ?_
    refine Cq.region ?_
    refine Sq.add .plain rfl rfl rfl (by omega) ?_
    refine Sq.move .plain rfl rfl ?_
    refine Sq.nil ?_
    refine Eq.round _ _ ⟨k + 1, rfl, by omega, by omega, by omega, E, rfl⟩ (by omega) (.cons rfl (.cons rfl (.cons rfl (.cons rfl (.nil)))))
  refine Sq.nil ?_
  refine Eq.next ?_
  refine Cq.seq ?_
  refine Cq.els rfl ?_
  refine Cq.exit ?_
  refine Eq.past ?_
  refine Eq.past ?_
  refine Eq.hit ?_
  refine Eq.next ?_
  refine Cq.seq ?_
  refine Cq.region ?_
  refine Sq.move .plain rfl rfl ?_
  refine Sq.assign .plain rfl rfl ?_
  refine Sq.nil ?_
  refine Eq.next ?_
  refine Cq.ret ?_
  refine Eq.ret1 rfl rfl ?_
  exact ⟨by congr 1; split <;> omega, E⟩
set_option maxRecDepth 100000 in
theorem shortlex_c (s t : ByteArray) (w0 : World) : Ret Try.prog 83 #[Value.string s, Value.string t] w0 (fun v w => v = .int .i64 (slx s t) ∧ Ext w0 w) := by
  have E := Ext.refl w0
  refine Ret.of (args := [Value.string s, Value.string t]) Try.func83 rfl rfl rfl ?_
  rintro _ rfl
  show Cq _ _ _ _ [(0, Value.string s), (1, Value.string t)] _
  refine Cq.seq ?_
  refine Cq.region ?_
  refine Sq.assign .plain rfl rfl ?_
  refine Sq.nil ?_
  refine Eq.next ?_
  refine Cq.seq ?_
  refine Cq.region ?_
  refine Sq.move .plain rfl rfl ?_
  refine Sq.lenStr .plain rfl und9 rfl ?_
  refine Sq.move .plain rfl rfl ?_
  refine Sq.lenStr .plain rfl und9 rfl ?_
  refine Sq.call fn108 .plain rfl rfl (cmpI_c (ByteArray.size s : Int) (ByteArray.size t : Int) _) ?_
  rintro _ _ ⟨rfl, rfl⟩
  refine Sq.move .plain rfl rfl ?_
  refine Sq.move .plain rfl rfl ?_
  refine Sq.call fn109 .plain rfl rfl (cmpS_c s t _) ?_
  rintro _ _ ⟨rfl, rfl⟩
  refine Sq.lit sl56 rfl rfl .plain rfl rfl (one_cons rfl (one_cons rfl one_nil)) (fun b1 w2 e3 hlo4 ho5 _ => ?_)
  replace ho5 := ho5 w0.heap.size (Nat.le_refl _)
  have hs7 := Below.size e3
  replace E := E.trans e3
  refine Sq.call fn107 .plain rfl rfl (or2_c _ _ _ _ (Own.row ho5)) ?_
  rintro _ w9 ⟨rfl, e10⟩
  have hs11 := Below.size E
  have hs12 := Below.size e10
  replace E := E.trans e10
  refine Sq.assign .plain rfl rfl ?_
  refine Sq.nil ?_
  refine Eq.next ?_
  refine Cq.ret ?_
  refine Eq.ret1 rfl rfl ?_
  exact ⟨rfl, E⟩
set_option maxRecDepth 100000 in
theorem before_c (s t : ByteArray) (w0 : World) : Ret Try.prog 40 #[Value.string s, Value.string t] w0 (fun v w => v = .bool (before s t) ∧ Ext w0 w) := by
  have E := Ext.refl w0
  refine Ret.of (args := [Value.string s, Value.string t]) Try.func40 rfl rfl rfl ?_
  rintro _ rfl
  show Cq _ _ _ _ [(0, Value.string s), (1, Value.string t)] _
  refine Cq.seq ?_
  refine Cq.region ?_
  refine Sq.assign .plain rfl rfl ?_
  refine Sq.nil ?_
  refine Eq.next ?_
  refine Cq.seq ?_
  refine Cq.region ?_
  refine Sq.move .plain rfl rfl ?_
  refine Sq.call fn70 .plain rfl rfl (wordValid_c s _) ?_
  rintro _ _ ⟨rfl, rfl⟩
  refine Sq.partB (fun h1 => ?_) (fun h1 => ?_)
  · refine Sq.move .plain rfl rfl ?_
    refine Sq.move (.met rfl rfl rfl) rfl rfl ?_
    refine Sq.call fn70 (.met rfl rfl rfl) rfl rfl (wordValid_c t _) ?_
    rintro _ _ ⟨rfl, rfl⟩
    refine Sq.partB (fun h2 => ?_) (fun h2 => ?_)
    · refine Sq.pickT .plain rfl rfl rfl ?_
      refine Sq.move .plain rfl rfl ?_
      refine Sq.move (.met rfl rfl rfl) rfl rfl ?_
      refine Sq.move (.met rfl rfl rfl) rfl rfl ?_
      refine Sq.call fn83 (.met rfl rfl rfl) rfl rfl (shortlex_c s t _) ?_
      rintro _ w2 ⟨rfl, e3⟩
      have hs4 := Below.size E
      have hs5 := Below.size e3
      replace E := E.trans e3
      refine Sq.lss (.met rfl rfl rfl) rfl rfl rfl ?_
      refine Sq.pickT .plain rfl rfl rfl ?_
      refine Sq.assign .plain rfl rfl ?_
      refine Sq.nil ?_
      refine Eq.next ?_
      refine Cq.ret ?_
      refine Eq.ret1 rfl rfl ?_
      exact ⟨by rw [before_slx h1 h2], E⟩
    refine Sq.pickT .plain rfl rfl rfl ?_
    refine Sq.move .plain rfl rfl ?_
    refine Sq.off rfl rfl rfl rfl rfl rfl ?_
    refine Sq.off rfl rfl rfl rfl rfl rfl ?_
    refine Sq.off rfl rfl rfl rfl rfl rfl ?_
    refine Sq.off rfl rfl rfl rfl rfl rfl ?_
    refine Sq.pickF .plain rfl rfl rfl ?_
    refine Sq.assign .plain rfl rfl ?_
    refine Sq.nil ?_
    refine Eq.next ?_
    refine Cq.ret ?_
    refine Eq.ret1 rfl rfl ?_
    exact ⟨by rw [before_no (by first | exact .inl h1 | exact .inr h2)], E⟩
  refine Sq.move .plain rfl rfl ?_
  refine Sq.off rfl rfl rfl rfl rfl rfl ?_
  refine Sq.off rfl rfl rfl rfl rfl rfl ?_
  refine Sq.pickF .plain rfl rfl rfl ?_
  refine Sq.move .plain rfl rfl ?_
  refine Sq.off rfl rfl rfl rfl rfl rfl ?_
  refine Sq.off rfl rfl rfl rfl rfl rfl ?_
  refine Sq.off rfl rfl rfl rfl rfl rfl ?_
  refine Sq.off rfl rfl rfl rfl rfl rfl ?_
  refine Sq.pickF .plain rfl rfl rfl ?_
  refine Sq.assign .plain rfl rfl ?_
  refine Sq.nil ?_
  refine Eq.next ?_
  refine Cq.ret ?_
  refine Eq.ret1 rfl rfl ?_
  exact ⟨by rw [before_no (by first | exact .inl h1 | exact .inr h2)], E⟩
end Go.Proofs.Ytdejmfkpohgamaa
set_option linter.unusedSimpArgs false
set_option linter.unusedVariables false
namespace Go.Proofs.Ytdejmfkpohgamaa
open Go.RowKit
set_option maxRecDepth 100000 in
theorem letterByte_c (x : Int) (hx : 0 ≤ x ∧ x ≤ 100) (w0 : World) : Ret Try.prog 131 #[Value.int .i64 x] w0 (fun v w => v = .int .u8 (97 + x) ∧ w0 = w) := by
  refine Ret.of (args := [Value.int .i64 x]) Try.func131 rfl rfl rfl ?_
  rintro _ rfl
  show Cq _ _ _ _ [(0, Value.int .i64 x)] _
  refine Cq.seq ?_
  refine Cq.region ?_
  refine Sq.assign .plain rfl rfl ?_
  refine Sq.nil ?_
  refine Eq.next ?_
  refine Cq.seq ?_
  refine Cq.region ?_
  refine Sq.move .plain rfl rfl ?_
  refine Sq.add .plain rfl rfl rfl (by omega) ?_
  refine Sq.conv8 conv3_5 .plain rfl rfl (by omega) ?_
  refine Sq.assign .plain rfl rfl ?_
  refine Sq.nil ?_
  refine Eq.next ?_
  refine Cq.ret ?_
  refine Eq.ret1 rfl rfl ?_
  exact ⟨rfl, rfl⟩
set_option maxRecDepth 100000 in
theorem reverse_c (w0 : World) (B : Nat) (r : Value) (xs : List UInt8) (ho : Own w0 B 5 r (xs.map fun b => Value.int .u8 (b.toNat : Int))) (hl : xs.length ≤ 1000) : Ret Try.prog 132 #[r] w0 (fun v w => v = .tuple #[] ∧ Own w B 5 r (xs.reverse.map fun b => Value.int .u8 (b.toNat : Int)) ∧ w0.grownBy w r.ownBlock) := by
  have hgo := World.grownBy.refl w0 r.ownBlock
  refine Ret.of (args := [r]) Try.func132 rfl rfl rfl ?_
  rintro _ rfl
  show Cq _ _ _ _ [(0, r)] _
  refine Cq.seq ?_
  refine Cq.region ?_
  refine Sq.move .plain rfl rfl ?_
  refine Sq.lenBytes (Own.row ho) .plain rfl und22 rfl ?_
  refine Sq.sub .plain rfl rfl rfl (by omega) ?_
  refine Sq.assign .plain rfl rfl ?_
  refine Sq.assign .plain rfl rfl ?_
  refine Sq.nil ?_
  refine Eq.next ?_
  refine Cq.block ?_
  rw [show ((xs.length : Int) - 1) = (xs.length : Int) - 1 - 0 by omega]
  refine Cq.loop (fun nn w ls => ∃ (i : Int), ∃ (ys : List UInt8), ls = [(0, r), (2, Value.int .i64 i), (3, Value.int .i64 ((xs.length : Int) - 1 - i))] ∧ (0 ≤ i ∧ i ≤ xs.length) ∧ Own w B 5 r (ys.map fun b => Value.int .u8 (b.toNat : Int)) ∧ RevAt xs i.toNat ys ∧ World.grownBy w0 w r.ownBlock ∧ nn = ((xs.length : Int) - i).toNat) _ _ ⟨0, _, rfl, by omega, ho, RevAt.zero xs, hgo, rfl⟩ (.cons rfl (.cons rfl (.cons rfl (.nil)))) ?_
  rintro nn wl1 ls ⟨i, ys, rfl, hi, ho, hr, hgo, rfl⟩
  have hyl := hr.1
  refine Cq.seq ?_
  refine Cq.seq ?_
  refine Cq.region ?_
  refine Sq.move .plain rfl rfl ?_
  refine Sq.move .plain rfl rfl ?_
  refine Sq.lss .plain rfl rfl rfl ?_
  refine Sq.part (fun c1 => ?_) (fun c1 => ?_)
  · refine Sq.nil ?_
    refine Eq.next ?_
    refine Cq.thn rfl ?_
    refine Cq.skip ?_
    refine Eq.next ?_
    refine Cq.seq ?_
    refine Cq.block ?_
    refine Cq.drawS 14 (fun w' => World.grownBy w0 w' r.ownBlock) mixed (hgo) (fun w2 e3 hS => ?_)
    clear hS
    have hs4 := Below.size e3
    replace hgo := grown_trans hgo (Ext.to_grown e3 _)
    replace ho := ho.ext e3
    have ho_w2 := ho
    refine Gq.st 0 rfl (by kernel_rfl) rfl .plain rfl (fun _ _ _ h => h) hgo (fun w' x => Still.move rfl) ?_
    refine Gq.st 1 rfl (by kernel_rfl) rfl .plain rfl (fun _ _ _ h => h) hgo (fun w' x => Still.move rfl) ?_
    refine Gq.st 2 rfl (by kernel_rfl) rfl .plain rfl (fun _ _ _ h => h) hgo (fun w' x => Still.move rfl) ?_
    refine Gq.st 3 rfl (by kernel_rfl) rfl .plain rfl (fun _ _ _ h => h) hgo (fun w' x => Still.move rfl) ?_
    refine Gq.st 4 rfl (by kernel_rfl) rfl .plain rfl (fun _ _ _ h => h) hgo (fun w' x => Still.move rfl) ?_
    refine Gq.st 5 rfl (by kernel_rfl) rfl .plain rfl (fun _ _ _ h => h) hgo (fun w' x => Still.move rfl) ?_
    refine Gq.st 8 rfl (by kernel_rfl) rfl .plain rfl (fun _ _ _ h => h) hgo (fun w' x => Still.move rfl) ?_
    refine Gq.st 9 rfl (by kernel_rfl) rfl .plain rfl (fun _ _ _ h => h) hgo (fun w' x => Still.move rfl) ?_
    refine Gq.two 6 10 rfl rfl (by kernel_rfl) ?_ ?_
    · obtain ⟨p5, hp6⟩ := Bytes.at (Own.row ho) (i := ((xs.length : Int) - 1 - i)) (by omega) (by omega)
      refine Sq.val .plain rfl rfl (Still.at' sl22 hp6 rfl rfl) ?_
      refine Sq.nil ?_
      refine Eq.goes (fun _ => hgo) ?_
      refine Gq.two 7 10 rfl rfl (by kernel_rfl) ?_ ?_
      · refine Sq.val .plain rfl rfl (Still.loadA one5 rfl hp6.1) ?_
        refine Sq.nil ?_
        refine Eq.goes (fun _ => hgo) ?_
        refine Gq.one 10 rfl (by kernel_rfl) ?_
        obtain ⟨p7, hp8⟩ := Bytes.at (Own.row ho) (i := i) (by omega) (by omega)
        refine Sq.val .plain rfl rfl (Still.at' sl22 hp8 rfl rfl) ?_
        refine Sq.nil ?_
        refine Eq.goes (fun _ => hgo) ?_
        refine Gq.one 11 rfl (by kernel_rfl) ?_
        refine Sq.val .plain rfl rfl (Still.loadA one5 rfl hp8.1) ?_
        refine Sq.nil ?_
        refine Eq.goes (fun _ => hgo) ?_
        obtain ⟨p9, hp10_w2⟩ := Bytes.at (Own.row ho_w2) (i := i) (by omega) (by omega)
        have hp10o := AtO.of ho_w2 hp10_w2
        refine Gq.st 12 rfl (by kernel_rfl) rfl .plain rfl (fun _ _ _ h => h) hgo (fun w' x => Still.at' sl22 hp10_w2 rfl rfl) ?_
        refine Gq.one 13 rfl (by kernel_rfl) ?_
        refine Sq.storeO one5 ho hp10o .plain rfl rfl rfl (fun w11 g12 ho13 => ?_)
        have hs14 := World.grownBy.size g12
        replace hgo := grown_trans hgo g12
        replace ho := ho13
        refine Sq.nil ?_
        refine Eq.goes (fun _ => hgo) ?_
        refine Gq.one 14 rfl (by kernel_rfl) ?_
        obtain ⟨p15, hp16o⟩ := Own.at ho (i := ((xs.length : Int) - 1 - i)) (by omega) (by first | (simp only [List.length_map]; omega) | (simp; omega))
        refine Sq.atO sl22 hp16o .plain rfl rfl rfl ?_
        refine Sq.nil ?_
        refine Eq.goes (fun h => absurd h (by decide)) ?_
        refine Gq.one 15 rfl (by kernel_rfl) ?_
        refine Sq.storeO one5 ho hp16o .plain rfl rfl rfl (fun w17 g18 ho19 => ?_)
        have hs20 := World.grownBy.size g18
        replace hgo := grown_trans hgo g18
        replace ho := ho19
        refine Sq.nil ?_
        refine Eq.goes (fun h => absurd h (by decide)) ?_
        refine Gq.done (by kernel_rfl) ?_
        refine Eq.end ?_
        refine Eq.next ?_
        refine Cq.region ?_
        refine Sq.move .plain rfl rfl ?_
        refine Sq.add .plain rfl rfl rfl (by omega) ?_
        refine Sq.move .plain rfl rfl ?_
        refine Sq.sub .plain rfl rfl rfl (by omega) ?_
        refine Sq.assign .plain rfl rfl ?_
        refine Sq.assign .plain rfl rfl ?_
        refine Sq.nil ?_
        have e1 := toNat_succ hi.1
        have e2 : (((xs.length : Int) - 1 - i) - 1) = (xs.length : Int) - 1 - (i + 1) := by omega
        have e3 := hr.step (by omega)
        have e4 : ((xs.length : Int) - 1 - i).toNat = xs.length - 1 - i.toNat := by omega
        rw [e2]
        refine Eq.round _ _ ⟨i + 1, _, rfl, by omega, Own.setU2 ho, by rw [e1, e4]; exact e3, hgo, rfl⟩ (by omega) (.cons rfl (.cons rfl (.cons rfl (.nil))))
      obtain ⟨p21, hp22⟩ := Bytes.at (Own.row ho) (i := i) (by omega) (by omega)
      refine Sq.val .plain rfl rfl (Still.at' sl22 hp22 rfl rfl) ?_
      refine Sq.nil ?_
      refine Eq.goes (fun _ => hgo) ?_
      refine Gq.two 7 11 rfl rfl (by kernel_rfl) ?_ ?_
      · refine Sq.val .plain rfl rfl (Still.loadA one5 rfl hp6.1) ?_
        refine Sq.nil ?_
        refine Eq.goes (fun _ => hgo) ?_
        refine Gq.one 11 rfl (by kernel_rfl) ?_
        refine Sq.val .plain rfl rfl (Still.loadA one5 rfl hp22.1) ?_
        refine Sq.nil ?_
        refine Eq.goes (fun _ => hgo) ?_
        obtain ⟨p23, hp24_w2⟩ := Bytes.at (Own.row ho_w2) (i := i) (by omega) (by omega)
        have hp24o := AtO.of ho_w2 hp24_w2
        refine Gq.st 12 rfl (by kernel_rfl) rfl .plain rfl (fun _ _ _ h => h) hgo (fun w' x => Still.at' sl22 hp24_w2 rfl rfl) ?_
        refine Gq.one 13 rfl (by kernel_rfl) ?_
        refine Sq.storeO one5 ho hp24o .plain rfl rfl rfl (fun w25 g26 ho27 => ?_)
        have hs28 := World.grownBy.size g26
        replace hgo := grown_trans hgo g26
        replace ho := ho27
        refine Sq.nil ?_
        refine Eq.goes (fun _ => hgo) ?_
        refine Gq.one 14 rfl (by kernel_rfl) ?_
        obtain ⟨p29, hp30o⟩ := Own.at ho (i := ((xs.length : Int) - 1 - i)) (by omega) (by first | (simp only [List.length_map]; omega) | (simp; omega))
        refine Sq.atO sl22 hp30o .plain rfl rfl rfl ?_
        refine Sq.nil ?_
        refine Eq.goes (fun h => absurd h (by decide)) ?_
        refine Gq.one 15 rfl (by kernel_rfl) ?_
        refine Sq.storeO one5 ho hp30o .plain rfl rfl rfl (fun w31 g32 ho33 => ?_)
        have hs34 := World.grownBy.size g32
        replace hgo := grown_trans hgo g32
        replace ho := ho33
        refine Sq.nil ?_
        refine Eq.goes (fun h => absurd h (by decide)) ?_
        refine Gq.done (by kernel_rfl) ?_
        refine Eq.end ?_
        refine Eq.next ?_
        refine Cq.region ?_
        refine Sq.move .plain rfl rfl ?_
        refine Sq.add .plain rfl rfl rfl (by omega) ?_
        refine Sq.move .plain rfl rfl ?_
        refine Sq.sub .plain rfl rfl rfl (by omega) ?_
        refine Sq.assign .plain rfl rfl ?_
        refine Sq.assign .plain rfl rfl ?_
        refine Sq.nil ?_
        have e1 := toNat_succ hi.1
        have e2 : (((xs.length : Int) - 1 - i) - 1) = (xs.length : Int) - 1 - (i + 1) := by omega
        have e3 := hr.step (by omega)
        have e4 : ((xs.length : Int) - 1 - i).toNat = xs.length - 1 - i.toNat := by omega
        rw [e2]
        refine Eq.round _ _ ⟨i + 1, _, rfl, by omega, Own.setU2 ho, by rw [e1, e4]; exact e3, hgo, rfl⟩ (by omega) (.cons rfl (.cons rfl (.cons rfl (.nil))))
      refine Sq.val .plain rfl rfl (Still.loadA one5 rfl hp22.1) ?_
      refine Sq.nil ?_
      refine Eq.goes (fun _ => hgo) ?_
      refine Gq.one 7 rfl (by kernel_rfl) ?_
      refine Sq.val .plain rfl rfl (Still.loadA one5 rfl hp6.1) ?_
      refine Sq.nil ?_
      refine Eq.goes (fun _ => hgo) ?_
      obtain ⟨p35, hp36_w2⟩ := Bytes.at (Own.row ho_w2) (i := i) (by omega) (by omega)
      have hp36o := AtO.of ho_w2 hp36_w2
      refine Gq.st 12 rfl (by kernel_rfl) rfl .plain rfl (fun _ _ _ h => h) hgo (fun w' x => Still.at' sl22 hp36_w2 rfl rfl) ?_
      refine Gq.one 13 rfl (by kernel_rfl) ?_
      refine Sq.storeO one5 ho hp36o .plain rfl rfl rfl (fun w37 g38 ho39 => ?_)
      have hs40 := World.grownBy.size g38
      replace hgo := grown_trans hgo g38
      replace ho := ho39
      refine Sq.nil ?_
      refine Eq.goes (fun _ => hgo) ?_
      refine Gq.one 14 rfl (by kernel_rfl) ?_
      obtain ⟨p41, hp42o⟩ := Own.at ho (i := ((xs.length : Int) - 1 - i)) (by omega) (by first | (simp only [List.length_map]; omega) | (simp; omega))
      refine Sq.atO sl22 hp42o .plain rfl rfl rfl ?_
      refine Sq.nil ?_
      refine Eq.goes (fun h => absurd h (by decide)) ?_
      refine Gq.one 15 rfl (by kernel_rfl) ?_
      refine Sq.storeO one5 ho hp42o .plain rfl rfl rfl (fun w43 g44 ho45 => ?_)
      have hs46 := World.grownBy.size g44
      replace hgo := grown_trans hgo g44
      replace ho := ho45
      refine Sq.nil ?_
      refine Eq.goes (fun h => absurd h (by decide)) ?_
      refine Gq.done (by kernel_rfl) ?_
      refine Eq.end ?_
      refine Eq.next ?_
      refine Cq.region ?_
      refine Sq.move .plain rfl rfl ?_
      refine Sq.add .plain rfl rfl rfl (by omega) ?_
      refine Sq.move .plain rfl rfl ?_
      refine Sq.sub .plain rfl rfl rfl (by omega) ?_
      refine Sq.assign .plain rfl rfl ?_
      refine Sq.assign .plain rfl rfl ?_
      refine Sq.nil ?_
      have e1 := toNat_succ hi.1
      have e2 : (((xs.length : Int) - 1 - i) - 1) = (xs.length : Int) - 1 - (i + 1) := by omega
      have e3 := hr.step (by omega)
      have e4 : ((xs.length : Int) - 1 - i).toNat = xs.length - 1 - i.toNat := by omega
      rw [e2]
      refine Eq.round _ _ ⟨i + 1, _, rfl, by omega, Own.setU2 ho, by rw [e1, e4]; exact e3, hgo, rfl⟩ (by omega) (.cons rfl (.cons rfl (.cons rfl (.nil))))
    obtain ⟨p47, hp48⟩ := Bytes.at (Own.row ho) (i := i) (by omega) (by omega)
    refine Sq.val .plain rfl rfl (Still.at' sl22 hp48 rfl rfl) ?_
    refine Sq.nil ?_
    refine Eq.goes (fun _ => hgo) ?_
    refine Gq.two 6 11 rfl rfl (by kernel_rfl) ?_ ?_
    · obtain ⟨p49, hp50⟩ := Bytes.at (Own.row ho) (i := ((xs.length : Int) - 1 - i)) (by omega) (by omega)
      refine Sq.val .plain rfl rfl (Still.at' sl22 hp50 rfl rfl) ?_
      refine Sq.nil ?_
      refine Eq.goes (fun _ => hgo) ?_
      refine Gq.two 7 11 rfl rfl (by kernel_rfl) ?_ ?_
      · refine Sq.val .plain rfl rfl (Still.loadA one5 rfl hp50.1) ?_
        refine Sq.nil ?_
        refine Eq.goes (fun _ => hgo) ?_
        refine Gq.one 11 rfl (by kernel_rfl) ?_
        refine Sq.val .plain rfl rfl (Still.loadA one5 rfl hp48.1) ?_
        refine Sq.nil ?_
        refine Eq.goes (fun _ => hgo) ?_
        obtain ⟨p51, hp52_w2⟩ := Bytes.at (Own.row ho_w2) (i := i) (by omega) (by omega)
        have hp52o := AtO.of ho_w2 hp52_w2
        refine Gq.st 12 rfl (by kernel_rfl) rfl .plain rfl (fun _ _ _ h => h) hgo (fun w' x => Still.at' sl22 hp52_w2 rfl rfl) ?_
        refine Gq.one 13 rfl (by kernel_rfl) ?_
        refine Sq.storeO one5 ho hp52o .plain rfl rfl rfl (fun w53 g54 ho55 => ?_)
        have hs56 := World.grownBy.size g54
        replace hgo := grown_trans hgo g54
        replace ho := ho55
        refine Sq.nil ?_
        refine Eq.goes (fun _ => hgo) ?_
        refine Gq.one 14 rfl (by kernel_rfl) ?_
        obtain ⟨p57, hp58o⟩ := Own.at ho (i := ((xs.length : Int) - 1 - i)) (by omega) (by first | (simp only [List.length_map]; omega) | (simp; omega))
        refine Sq.atO sl22 hp58o .plain rfl rfl rfl ?_
        refine Sq.nil ?_
        refine Eq.goes (fun h => absurd h (by decide)) ?_
        refine Gq.one 15 rfl (by kernel_rfl) ?_
        refine Sq.storeO one5 ho hp58o .plain rfl rfl rfl (fun w59 g60 ho61 => ?_)
        have hs62 := World.grownBy.size g60
        replace hgo := grown_trans hgo g60
        replace ho := ho61
        refine Sq.nil ?_
        refine Eq.goes (fun h => absurd h (by decide)) ?_
        refine Gq.done (by kernel_rfl) ?_
        refine Eq.end ?_
        refine Eq.next ?_
        refine Cq.region ?_
        refine Sq.move .plain rfl rfl ?_
        refine Sq.add .plain rfl rfl rfl (by omega) ?_
        refine Sq.move .plain rfl rfl ?_
        refine Sq.sub .plain rfl rfl rfl (by omega) ?_
        refine Sq.assign .plain rfl rfl ?_
        refine Sq.assign .plain rfl rfl ?_
        refine Sq.nil ?_
        have e1 := toNat_succ hi.1
        have e2 : (((xs.length : Int) - 1 - i) - 1) = (xs.length : Int) - 1 - (i + 1) := by omega
        have e3 := hr.step (by omega)
        have e4 : ((xs.length : Int) - 1 - i).toNat = xs.length - 1 - i.toNat := by omega
        rw [e2]
        refine Eq.round _ _ ⟨i + 1, _, rfl, by omega, Own.setU2 ho, by rw [e1, e4]; exact e3, hgo, rfl⟩ (by omega) (.cons rfl (.cons rfl (.cons rfl (.nil))))
      refine Sq.val .plain rfl rfl (Still.loadA one5 rfl hp48.1) ?_
      refine Sq.nil ?_
      refine Eq.goes (fun _ => hgo) ?_
      refine Gq.one 7 rfl (by kernel_rfl) ?_
      refine Sq.val .plain rfl rfl (Still.loadA one5 rfl hp50.1) ?_
      refine Sq.nil ?_
      refine Eq.goes (fun _ => hgo) ?_
      obtain ⟨p63, hp64_w2⟩ := Bytes.at (Own.row ho_w2) (i := i) (by omega) (by omega)
      have hp64o := AtO.of ho_w2 hp64_w2
      refine Gq.st 12 rfl (by kernel_rfl) rfl .plain rfl (fun _ _ _ h => h) hgo (fun w' x => Still.at' sl22 hp64_w2 rfl rfl) ?_
      refine Gq.one 13 rfl (by kernel_rfl) ?_
      refine Sq.storeO one5 ho hp64o .plain rfl rfl rfl (fun w65 g66 ho67 => ?_)
      have hs68 := World.grownBy.size g66
      replace hgo := grown_trans hgo g66
      replace ho := ho67
      refine Sq.nil ?_
      refine Eq.goes (fun _ => hgo) ?_
      refine Gq.one 14 rfl (by kernel_rfl) ?_
      obtain ⟨p69, hp70o⟩ := Own.at ho (i := ((xs.length : Int) - 1 - i)) (by omega) (by first | (simp only [List.length_map]; omega) | (simp; omega))
      refine Sq.atO sl22 hp70o .plain rfl rfl rfl ?_
      refine Sq.nil ?_
      refine Eq.goes (fun h => absurd h (by decide)) ?_
      refine Gq.one 15 rfl (by kernel_rfl) ?_
      refine Sq.storeO one5 ho hp70o .plain rfl rfl rfl (fun w71 g72 ho73 => ?_)
      have hs74 := World.grownBy.size g72
      replace hgo := grown_trans hgo g72
      replace ho := ho73
      refine Sq.nil ?_
      refine Eq.goes (fun h => absurd h (by decide)) ?_
      refine Gq.done (by kernel_rfl) ?_
      refine Eq.end ?_
      refine Eq.next ?_
      refine Cq.region ?_
      refine Sq.move .plain rfl rfl ?_
      refine Sq.add .plain rfl rfl rfl (by omega) ?_
      refine Sq.move .plain rfl rfl ?_
      refine Sq.sub .plain rfl rfl rfl (by omega) ?_
      refine Sq.assign .plain rfl rfl ?_
      refine Sq.assign .plain rfl rfl ?_
      refine Sq.nil ?_
      have e1 := toNat_succ hi.1
      have e2 : (((xs.length : Int) - 1 - i) - 1) = (xs.length : Int) - 1 - (i + 1) := by omega
      have e3 := hr.step (by omega)
      have e4 : ((xs.length : Int) - 1 - i).toNat = xs.length - 1 - i.toNat := by omega
      rw [e2]
      refine Eq.round _ _ ⟨i + 1, _, rfl, by omega, Own.setU2 ho, by rw [e1, e4]; exact e3, hgo, rfl⟩ (by omega) (.cons rfl (.cons rfl (.cons rfl (.nil))))
    refine Sq.val .plain rfl rfl (Still.loadA one5 rfl hp48.1) ?_
    refine Sq.nil ?_
    refine Eq.goes (fun _ => hgo) ?_
    refine Gq.one 6 rfl (by kernel_rfl) ?_
    obtain ⟨p75, hp76⟩ := Bytes.at (Own.row ho) (i := ((xs.length : Int) - 1 - i)) (by omega) (by omega)
    refine Sq.val .plain rfl rfl (Still.at' sl22 hp76 rfl rfl) ?_
    refine Sq.nil ?_
    refine Eq.goes (fun _ => hgo) ?_
    refine Gq.one 7 rfl (by kernel_rfl) ?_
    refine Sq.val .plain rfl rfl (Still.loadA one5 rfl hp76.1) ?_
    refine Sq.nil ?_
    refine Eq.goes (fun _ => hgo) ?_
    obtain ⟨p77, hp78_w2⟩ := Bytes.at (Own.row ho_w2) (i := i) (by omega) (by omega)
    have hp78o := AtO.of ho_w2 hp78_w2
    refine Gq.st 12 rfl (by kernel_rfl) rfl .plain rfl (fun _ _ _ h => h) hgo (fun w' x => Still.at' sl22 hp78_w2 rfl rfl) ?_
    refine Gq.one 13 rfl (by kernel_rfl) ?_
    refine Sq.storeO one5 ho hp78o .plain rfl rfl rfl (fun w79 g80 ho81 => ?_)
    have hs82 := World.grownBy.size g80
    replace hgo := grown_trans hgo g80
    replace ho := ho81
    refine Sq.nil ?_
    refine Eq.goes (fun _ => hgo) ?_
    refine Gq.one 14 rfl (by kernel_rfl) ?_
    obtain ⟨p83, hp84o⟩ := Own.at ho (i := ((xs.length : Int) - 1 - i)) (by omega) (by first | (simp only [List.length_map]; omega) | (simp; omega))
    refine Sq.atO sl22 hp84o .plain rfl rfl rfl ?_
    refine Sq.nil ?_
    refine Eq.goes (fun h => absurd h (by decide)) ?_
    refine Gq.one 15 rfl (by kernel_rfl) ?_
    refine Sq.storeO one5 ho hp84o .plain rfl rfl rfl (fun w85 g86 ho87 => ?_)
    have hs88 := World.grownBy.size g86
    replace hgo := grown_trans hgo g86
    replace ho := ho87
    refine Sq.nil ?_
    refine Eq.goes (fun h => absurd h (by decide)) ?_
    refine Gq.done (by kernel_rfl) ?_
    refine Eq.end ?_
    refine Eq.next ?_
    refine Cq.region ?_
    refine Sq.move .plain rfl rfl ?_
    refine Sq.add .plain rfl rfl rfl (by omega) ?_
    refine Sq.move .plain rfl rfl ?_
    refine Sq.sub .plain rfl rfl rfl (by omega) ?_
    refine Sq.assign .plain rfl rfl ?_
    refine Sq.assign .plain rfl rfl ?_
    refine Sq.nil ?_
    have e1 := toNat_succ hi.1
    have e2 : (((xs.length : Int) - 1 - i) - 1) = (xs.length : Int) - 1 - (i + 1) := by omega
    have e3 := hr.step (by omega)
    have e4 : ((xs.length : Int) - 1 - i).toNat = xs.length - 1 - i.toNat := by omega
    rw [e2]
    refine Eq.round _ _ ⟨i + 1, _, rfl, by omega, Own.setU2 ho, by rw [e1, e4]; exact e3, hgo, rfl⟩ (by omega) (.cons rfl (.cons rfl (.cons rfl (.nil))))
  refine Sq.nil ?_
  refine Eq.next ?_
  refine Cq.els rfl ?_
  refine Cq.exit ?_
  refine Eq.past ?_
  refine Eq.past ?_
  refine Eq.hit ?_
  refine Eq.fall0 rfl ?_
  exact ⟨rfl, by rw [← hr.done (by omega)]; exact ho, hgo⟩
end Go.Proofs.Ytdejmfkpohgamaa
set_option linter.unusedSimpArgs false
set_option linter.unusedVariables false
namespace Go.Proofs.Ytdejmfkpohgamaa
open Go.RowKit
set_option maxRecDepth 100000 in
theorem pathWord_c (w0 : World) (B : Nat) (tv : Value) (rs : List (Int × Int × Value)) (f : Int → Int → Int) (s : Int) (ws : List (List Int)) (hW : Wid w0 B 118 3 tv (rows3 rs)) (hSt : Trail w0 3 f s ws rs) (wd : List Int) (hwd : ws[ws.length - 1]? = some wd) (hwl : wd.length ≤ 1000) (hsl : ws.length ≤ 1000) : Ret Try.prog 117 #[tv] w0 (fun v w => v = .string (txt wd) ∧ Ext w0 w) := by
  have E := Ext.refl w0
  have hwn := (List.getElem?_eq_some_iff.1 hwd).1
  have hrl := hSt.len
  refine Ret.of (args := [tv]) Try.func117 rfl rfl rfl ?_
  rintro _ rfl
  show Cq _ _ _ _ [(0, tv)] _
  refine Cq.seq ?_
  refine Cq.region ?_
  refine Sq.assign .plain rfl rfl ?_
  refine Sq.nil ?_
  refine Eq.next ?_
  refine Cq.seq ?_
  refine Cq.region ?_
  refine Sq.assign .plain rfl rfl ?_
  refine Sq.nil ?_
  refine Eq.next ?_
  refine Cq.seq ?_
  refine Cq.seq ?_
  refine Cq.region ?_
  refine Sq.move .plain rfl rfl ?_
  refine Sq.lenWid hW .plain rfl und116 rfl ?_
  rw [rows3_length]
  refine Sq.sub .plain rfl rfl rfl (by omega) ?_
  refine Sq.assign .plain rfl rfl ?_
  refine Sq.nil ?_
  refine Eq.next ?_
  refine Cq.block ?_
  refine Cq.loop (fun nn w ls => ∃ (j : Int), ∃ (u : List Int), ∃ (t : List Int), ∃ (ov : Value), ls = [(0, tv), (3, ov), (4, Value.int .i64 j)] ∧ (0 ≤ j) ∧ ws[j.toNat]? = some u ∧ wd = u ++ t ∧ Own w w0.heap.size 5 ov ((txb t.reverse).map fun b => Value.int .u8 (b.toNat : Int)) ∧ Ext w0 w ∧ Wid w B 118 3 tv (rows3 rs) ∧ nn = u.length) _ _ ⟨(List.length rs : Int) - 1, wd, [], _, rfl, by omega, by rw [show ((List.length rs : Int) - 1).toNat = ws.length - 1 by omega]; exact hwd, by simp, Own.nil _ _ _, E, hW, rfl⟩ (.cons rfl (.cons rfl (.cons rfl (.nil)))) ?_
  rintro nn wl1 ls ⟨j, u, t, ov, rfl, hj, hu, hut, ho, E, hW, rfl⟩
  have hs1 := Below.size E
  obtain ⟨p, l, fv, hr, hlk, hfv⟩ := hSt.row _ _ hu
  have hlt := (List.getElem?_eq_some_iff.1 hr).1
  have htl : t.length ≤ 1000 := by rw [hut, List.length_append] at hwl; omega
  have htx : (txb t.reverse).length = t.length := by simp [txb]
  refine Cq.seq ?_
  refine Cq.seq ?_
  refine Cq.region ?_
  refine Sq.move .plain rfl rfl ?_
  refine Sq.move .plain rfl rfl ?_
  obtain ⟨gq2, kq2, hvq2, hlq2, haq2, hbq2, hcq2⟩ := Wid.triple hW (i := j) (by omega) hr
  refine Sq.val .plain rfl rfl (Still.ixV slw116 hvq2 rfl rfl (by omega)) ?_
  refine Sq.fieldAddr fld118_0 .plain rfl rfl ?_
  refine Sq.val .plain rfl rfl (Still.load one3 rfl haq2) ?_
  refine Sq.geq .plain rfl rfl rfl ?_
  refine Sq.part (fun hp => ?_) (fun hp => ?_)
  · refine Sq.nil ?_
    refine Eq.next ?_
    refine Cq.thn rfl ?_
    refine Cq.skip ?_
    refine Eq.next ?_
    refine Cq.seq ?_
    refine Cq.block ?_
    refine Cq.region ?_
    obtain ⟨u2, hu2, hp0, hu3⟩ : ∃ u2, u = u2 ++ [l] ∧ 0 ≤ p ∧ ws[p.toNat]? = some u2 := hlk.resolve_left (fun h => by have := h.2; omega)
    have hll := hSt.lets u (List.mem_of_getElem? hu) l (by rw [hu2]; simp)
    refine Sq.move .plain rfl rfl ?_
    refine Sq.move .plain rfl rfl ?_
    refine Sq.move .plain rfl rfl ?_
    obtain ⟨gq3, kq3, hvq3, hlq3, haq3, hbq3, hcq3⟩ := Wid.triple hW (i := j) (by omega) hr
    refine Sq.val .plain rfl rfl (Still.ixV slw116 hvq3 rfl rfl (by omega)) ?_
    refine Sq.fieldAddr fld118_1 .plain rfl rfl ?_
    refine Sq.val .plain rfl rfl (Still.load one3 rfl hbq3) ?_
    refine Sq.call fn131 .plain rfl rfl (letterByte_c l (by omega) _) ?_
    rintro _ _ ⟨rfl, rfl⟩
    refine Sq.app1 sl22 ho (by omega) (by first | omega | (rw [List.length_map]; omega)) .plain rfl rfl rfl rfl rfl rfl rfl (fun v4 w5 ho7 g6 _ => ?_)
    have hs8 := g6.size
    replace E := E.owned ho g6 (by omega)
    replace hW := hW.owned ho g6 (by decide)
    refine Sq.assign .plain rfl rfl ?_
    refine Sq.nil ?_
    refine Eq.end ?_
    refine Eq.next ?_
    refine Cq.region ?_
    refine Sq.move .plain rfl rfl ?_
    refine Sq.move .plain rfl rfl ?_
    obtain ⟨gq9, kq9, hvq9, hlq9, haq9, hbq9, hcq9⟩ := Wid.triple hW (i := j) (by omega) hr
    refine Sq.val .plain rfl rfl (Still.ixV slw116 hvq9 rfl rfl (by omega)) ?_
    refine Sq.fieldAddr fld118_0 .plain rfl rfl ?_
    refine Sq.val .plain rfl rfl (Still.load one3 rfl haq9) ?_
    refine Sq.assign .plain rfl rfl ?_
    refine Sq.nil ?_
    refine Eq.round _ _ ⟨p, u2, l :: t, _, rfl, hp0, hu3, by rw [hut, hu2]; simp, Own.snocT ho7 hll, E, hW, rfl⟩ (by rw [hu2, List.length_append]; simp) (.cons rfl (.cons rfl (.cons rfl (.nil))))
  refine Sq.nil ?_
  refine Eq.next ?_
  refine Cq.els rfl ?_
  refine Cq.exit ?_
  refine Eq.past ?_
  refine Eq.past ?_
  refine Eq.hit ?_
  refine Eq.next ?_
  refine Cq.seq ?_
  refine Cq.region ?_
  refine Sq.move .plain rfl rfl ?_
  refine Sq.call fn132 .plain rfl rfl (reverse_c _ _ _ _ ho (by omega)) ?_
  rintro _ w10 ⟨rfl, ho12, g11⟩
  have hs13 := World.grownBy.size g11
  replace E := E.owned ho g11 (by omega)
  replace ho := ho12
  refine Sq.nil ?_
  refine Eq.next ?_
  refine Cq.seq ?_
  refine Cq.region ?_
  refine Sq.move .plain rfl rfl ?_
  refine Sq.val .plain rfl rfl (Still.text und22 und8_22 und9 (Own.row ho) rfl) ?_
  refine Sq.assign .plain rfl rfl ?_
  refine Sq.nil ?_
  refine Eq.next ?_
  refine Cq.ret ?_
  refine Eq.ret1 rfl rfl ?_
  rcases hlk with ⟨rfl, _⟩ | ⟨_, _, h0, _⟩
  · exact ⟨by rw [txb_rev, hut]; rfl, E⟩
  exact absurd h0 (by omega)
end Go.Proofs.Ytdejmfkpohgamaa
set_option linter.unusedSimpArgs false
set_option linter.unusedVariables false
namespace Go.Proofs.Ytdejmfkpohgamaa
open Go.RowKit
set_option maxRecDepth 100000 in
theorem visit_c (w0 wb : World) (B bs bt bg n : Nat) (gv nv : Value) (f : Int → Int → Int) (s : Int) (ws : List (List Int)) (D : Int → Prop) (G : Int → Bool) (hclo : GClo Try.prog wb gv D G) (hM : SMem wb w0 3 4 24 118 116 73 B bs bt bg gv n f s ws) (p l q : Int) (v0 : List Int) (hq : q = nodeOf f s v0) (hx : Ints w0 3 nv [q]) (hl : Link ws p l v0) (hv0 : ∀ x ∈ v0, 0 ≤ x ∧ x < 6) (hD : D q) (hqn : 0 ≤ q ∧ q < n) (hwl : ws.length ≤ 1000) : Ret Try.prog 116 #[Value.int .i64 p, Value.int .i64 l, nv, Value.pointer (some ⟨bs, 0, none⟩), Value.pointer (some ⟨bg, 0, none⟩), Value.pointer (some ⟨bt, 0, none⟩)] w0 (fun v w => v = .bool (!decide (q ∈ (ws.map (nodeOf f s))) && G q) ∧ SMem wb w 3 4 24 118 116 73 B bs bt bg gv n f s (wadd f s ws v0)) := by
  obtain ⟨sv, tv, rs, hSb, hSeen, hTb, hW, hSt, hGb, E, hB0, hB1, hB2, hB3⟩ := hM
  obtain ⟨kg, fg, cg, hgv, hFg, hgoal⟩ := hclo
  have hrl := hSt.len
  have hwb := Below.size E
  have hne1 := hSb.ne hTb (by decide)
  have hne2 := hGb.ne hTb (by decide)
  have hne3 := hGb.ne hSb (by decide)
  refine Ret.of (args := [Value.int .i64 p, Value.int .i64 l, nv, Value.pointer (some ⟨bs, 0, none⟩), Value.pointer (some ⟨bg, 0, none⟩), Value.pointer (some ⟨bt, 0, none⟩)]) Try.func116 rfl rfl rfl ?_
  rintro _ rfl
  show Cq _ _ _ _ [(0, Value.int .i64 p), (1, Value.int .i64 l), (2, nv), (3, Value.pointer (some ⟨bs, 0, none⟩)), (4, Value.pointer (some ⟨bg, 0, none⟩)), (5, Value.pointer (some ⟨bt, 0, none⟩))] _
  refine Cq.seq ?_
  refine Cq.region ?_
  refine Sq.assign .plain rfl rfl ?_
  refine Sq.nil ?_
  refine Eq.next ?_
  refine Cq.seq ?_
  refine Cq.region ?_
  refine Sq.assign .plain rfl rfl ?_
  refine Sq.nil ?_
  refine Eq.next ?_
  refine Cq.seq ?_
  refine Cq.region ?_
  refine Sq.assign .plain rfl rfl ?_
  refine Sq.nil ?_
  refine Eq.next ?_
  refine Cq.seq ?_
  refine Cq.seq ?_
  refine Cq.region ?_
  refine Sq.move .plain rfl rfl ?_
  refine Sq.lenInts hx .plain rfl und56 rfl ?_
  refine Sq.move .plain rfl rfl ?_
  refine Sq.nil ?_
  refine Eq.next ?_
  refine Cq.block ?_
  refine Cq.loop (fun nn w ls => ∃ (k : Int), ∃ (ov : Value), ∃ (xs : List Int), ∃ (ms : List Int), ∃ (bv : Bool), ls = [(0, Value.int .i64 p), (1, Value.int .i64 l), (3, Value.pointer (some ⟨bs, 0, none⟩)), (4, Value.pointer (some ⟨bg, 0, none⟩)), (5, Value.pointer (some ⟨bt, 0, none⟩)), (10, ov), (11, Value.bool bv), (14, nv), (15, Value.int .i64 ((List.length ([q] : List Int) : Int))), (16, Value.int .i64 k)] ∧ (0 ≤ k ∧ k ≤ 1) ∧ (w0.heap.size ≤ w.heap.size) ∧ Own w B 4 sv ((seenOf n ms).map Value.bool) ∧ ms = (if k = 0 then (ws.map (nodeOf f s)) else addNode (ws.map (nodeOf f s)) q) ∧ (k = 0 → ov = .slice none 0 0) ∧ Own w w0.heap.size 3 ov (xs.map (Value.int .i64)) ∧ xs = (if k = 0 ∨ q ∈ (ws.map (nodeOf f s)) then [] else [q]) ∧ bv = (decide (k = 1) && (!decide (q ∈ (ws.map (nodeOf f s))) && G q)) ∧ Ext wb w ∧ Blk w bs 24 [sv] ∧ Blk w bg 73 [gv] ∧ Blk w bt 116 [tv] ∧ Wid w B 118 3 tv (rows3 rs) ∧ Ints w 3 nv [q] ∧ Trail w 3 f s ws rs ∧ nn = (1 - k).toNat) _ _ ⟨0, _, [], _, _, rfl, by omega, Nat.le_refl _, hSeen, rfl, fun _ => rfl, Own.nil _ _ _, rfl, rfl, E, hSb, hGb, hTb, hW, hx, hSt, rfl⟩ (.cons rfl (.cons rfl (.cons rfl (.cons rfl (.cons rfl (.cons rfl (.cons rfl (.cons rfl (.cons rfl (.cons rfl (.nil))))))))))) ?_
  rintro nn wl1 ls ⟨k, ov, xs, ms, bv, rfl, hk, hsz, hSeen, hms, hov, ho, hxs, hbv, E, hSb, hGb, hTb, hW, hx, hSt, rfl⟩
  have hs1 := Below.size E
  have hsl := seenOf_length n ms
  have hl1 : (List.length ([q] : List Int) : Int) = 1 := rfl
  refine Cq.seq ?_
  refine Cq.region ?_
  refine Sq.lss .plain rfl rfl rfl ?_
  refine Sq.part (fun c2 => ?_) (fun c2 => ?_)
  · refine Sq.nil ?_
    refine Eq.next ?_
    refine Cq.seq ?_
    refine Cq.thn rfl ?_
    refine Cq.skip ?_
    refine Eq.next ?_
    refine Cq.seq ?_
    refine Cq.block ?_
    refine Cq.seq ?_
    refine Cq.region ?_
    have hk0 : k = 0 := by omega
    obtain rfl := hov hk0
    have hms0 : ms = (ws.map (nodeOf f s)) := by rw [hms, if_pos hk0]
    have hk1 : ([q] : List Int).getD k.toNat 0 = q := by rw [hk0]; rfl
    refine Sq.idxInts sl56 one3 hx .plain rfl rfl rfl .plain rfl rfl (by omega) (by simp only [List.length_singleton]; omega) ?_
    rw [hk1]
    refine Sq.assign .plain rfl rfl ?_
    refine Sq.nil ?_
    refine Eq.next ?_
    refine Cq.seq ?_
    refine Cq.region ?_
    refine Sq.loadB one24 .plain rfl rfl hSb rfl ?_
    refine Sq.move .plain rfl rfl ?_
    refine Sq.idxBools sl24 one4 (Own.row hSeen) .plain rfl rfl rfl .plain rfl rfl (by omega) (by omega) ?_
    refine Sq.partB (fun hse => ?_) (fun hse => ?_)
    · refine Sq.notT .plain rfl rfl ?_
      refine Sq.nil ?_
      refine Eq.next ?_
      refine Cq.els rfl ?_
      refine Cq.skip ?_
      refine Eq.end ?_
      refine Eq.next ?_
      refine Cq.region ?_
      refine Sq.add .plain rfl rfl rfl (by omega) ?_
      refine Sq.move .plain rfl rfl ?_
      refine Sq.nil ?_
      have hnin : q ∈ (ws.map (nodeOf f s)) := by rw [seenOf_at hqn, hms0] at hse; simpa using hse
      refine Eq.round _ _ ⟨k + 1, _, [], _, _, rfl, by omega, by omega, hSeen, by rw [if_neg (by omega), addNode_T hnin, hms0], fun h => absurd h (by omega), Own.nil _ _ _, by rw [if_pos (.inr hnin)], by rw [hbv]; simp [hk0, hnin], E, hSb, hGb, hTb, hW, hx, hSt, rfl⟩ (by omega) (.cons rfl (.cons rfl (.cons rfl (.cons rfl (.cons rfl (.cons rfl (.cons rfl (.cons rfl (.cons rfl (.cons rfl (.nil)))))))))))
    refine Sq.notF .plain rfl rfl ?_
    refine Sq.nil ?_
    refine Eq.next ?_
    refine Cq.thn rfl ?_
    refine Cq.seq ?_
    refine Cq.region ?_
    refine Sq.loadB one24 .plain rfl rfl hSb rfl ?_
    refine Sq.move .plain rfl rfl ?_
    obtain ⟨p3, hp4o⟩ := Own.at hSeen (i := q) (by omega) (by first | (simp only [List.length_map]; omega) | (simp; omega))
    refine Sq.atO sl24 hp4o .plain rfl rfl rfl ?_
    refine Sq.storeO one4 hSeen hp4o .plain rfl rfl rfl (fun w5 g6 ho7 => ?_)
    have hs8 := World.grownBy.size g6
    replace E := E.owned hSeen g6 (by omega)
    replace hSb := hSb.owned hSeen g6 (by decide)
    replace hGb := hGb.owned hSeen g6 (by decide)
    replace hTb := hTb.owned hSeen g6 (by decide)
    replace hW := hW.owned hSeen g6 (by decide)
    replace hx := hx.owned hSeen g6 (by decide)
    replace hSt := hSt.owned hSeen g6 (by decide)
    replace hSeen := ho7
    refine Sq.nil ?_
    refine Eq.next ?_
    refine Cq.seq ?_
    refine Cq.region ?_
    refine Sq.move .plain rfl rfl ?_
    refine Sq.move .plain rfl rfl ?_
    refine Sq.lit sl56 rfl rfl .plain rfl rfl (one_cons rfl one_nil) (fun b9 w10 e11 hlo12 ho13 hk14 => ?_)
    have hs15 := Below.size e11
    replace E := E.trans e11
    replace hSb := hSb.ext e11
    replace hGb := hGb.ext e11
    replace hTb := hTb.ext e11
    replace hW := hW.ext e11
    replace hx := hx.ext e11
    replace hSt := hSt.ext e11
    replace hSeen := hSeen.ext e11
    refine Sq.app1F sl56 (Own.nil _ w0.heap.size 3) (by simp) (by omega) (by simp) hk14 rfl .plain rfl rfl rfl (fun v16 w17 ho19 g18 _ _ => ?_)
    have e20 := Ext.of_grown g18
    have hs21 := Below.size e20
    replace E := E.trans e20
    replace hSb := hSb.ext e20
    replace hGb := hGb.ext e20
    replace hTb := hTb.ext e20
    replace hW := hW.ext e20
    replace hx := hx.ext e20
    replace hSt := hSt.ext e20
    replace hSeen := hSeen.ext e20
    refine Sq.assign .plain rfl rfl ?_
    refine Sq.nil ?_
    refine Eq.next ?_
    refine Cq.region ?_
    refine Sq.move .plain rfl rfl ?_
    refine Sq.beF (by rw [hbv, hk0]; rfl) ?_
    refine Sq.move .plain rfl rfl ?_
    refine Sq.loadB one73 (.met rfl rfl rfl) rfl rfl hGb rfl ?_
    refine Sq.move (.met rfl rfl rfl) rfl rfl ?_
    refine Sq.callC hFg (.met rfl rfl rfl) rfl (by rw [← hgv]; rfl) rfl (hgoal _ q E hD) ?_
    rintro _ w22 ⟨rfl, e23⟩
    have hs24 := Below.size e23
    replace E := E.trans e23
    replace hSb := hSb.ext e23
    replace hGb := hGb.ext e23
    replace hTb := hTb.ext e23
    replace hW := hW.ext e23
    replace hx := hx.ext e23
    replace hSt := hSt.ext e23
    replace hSeen := hSeen.ext e23
    replace ho19 := ho19.ext e23
    refine Sq.pickF .plain rfl rfl rfl ?_
    refine Sq.assign .plain rfl rfl ?_
    refine Sq.partB (fun hgq => ?_) (fun hgq => ?_)
    · refine Sq.nil ?_
      refine Eq.end ?_
      refine Eq.next ?_
      refine Cq.region ?_
      refine Sq.add .plain rfl rfl rfl (by omega) ?_
      refine Sq.move .plain rfl rfl ?_
      refine Sq.nil ?_
      have hnin : q ∉ (ws.map (nodeOf f s)) := by rw [seenOf_at hqn, hms0] at hse; simpa using hse
      refine Eq.round _ _ ⟨k + 1, _, [q], _, _, rfl, by omega, by omega, by rw [← seenOf_set hqn.1, List.map_set]; exact hSeen, by rw [if_neg (by omega), addNode_F hnin, hms0], fun h => absurd h (by omega), by simpa using ho19, by rw [if_neg (by rintro (h | h); omega; exact hnin h)], by simp [hk0, hnin, hgq], E, hSb, hGb, hTb, hW, hx, hSt, rfl⟩ (by omega) (.cons rfl (.cons rfl (.cons rfl (.cons rfl (.cons rfl (.cons rfl (.cons rfl (.cons rfl (.cons rfl (.cons rfl (.nil)))))))))))
    refine Sq.nil ?_
    refine Eq.end ?_
    refine Eq.next ?_
    refine Cq.region ?_
    refine Sq.add .plain rfl rfl rfl (by omega) ?_
    refine Sq.move .plain rfl rfl ?_
    refine Sq.nil ?_
    have hnin : q ∉ (ws.map (nodeOf f s)) := by rw [seenOf_at hqn, hms0] at hse; simpa using hse
    refine Eq.round _ _ ⟨k + 1, _, [q], _, _, rfl, by omega, by omega, by rw [← seenOf_set hqn.1, List.map_set]; exact hSeen, by rw [if_neg (by omega), addNode_F hnin, hms0], fun h => absurd h (by omega), by simpa using ho19, by rw [if_neg (by rintro (h | h); omega; exact hnin h)], by simp [hk0, hnin, hgq], E, hSb, hGb, hTb, hW, hx, hSt, rfl⟩ (by omega) (.cons rfl (.cons rfl (.cons rfl (.cons rfl (.cons rfl (.cons rfl (.cons rfl (.cons rfl (.cons rfl (.cons rfl (.nil)))))))))))
  refine Sq.nil ?_
  refine Eq.next ?_
  refine Cq.seq ?_
  refine Cq.els rfl ?_
  refine Cq.exit ?_
  refine Eq.past ?_
  refine Eq.past ?_
  refine Eq.hit ?_
  refine Eq.next ?_
  refine Cq.seq ?_
  refine Cq.seq ?_
  refine Cq.region ?_
  have hkk : k = 1 := by omega
  refine Sq.move .plain rfl rfl ?_
  refine Sq.lenInts (Own.row ho) .plain rfl und56 rfl ?_
  refine Sq.gtr .plain rfl rfl rfl ?_
  refine Sq.part (fun hfr => ?_) (fun hfr => ?_)
  · refine Sq.nil ?_
    refine Eq.next ?_
    refine Cq.thn rfl ?_
    refine Cq.region ?_
    have hnin : q ∉ (ws.map (nodeOf f s)) := fun h => by rw [hxs, if_pos (.inr h)] at hfr; exact absurd hfr (by decide)
    have hx1 : (xs.map (Value.int .i64)) = [q].map (Value.int .i64) := by rw [hxs, if_neg (by rintro (h | h); omega; exact hnin h)]
    refine Sq.loadB one116 .plain rfl rfl hTb rfl ?_
    refine Sq.move .plain rfl rfl ?_
    refine Sq.move .plain rfl rfl ?_
    refine Sq.move .plain rfl rfl ?_
    refine Sq.build st118 rfl rfl .plain rfl rfl (one_cons rfl (one_cons rfl (one_cons (Row.one (Own.row ho)) one_nil))) rfl ?_
    refine Sq.litW slw116 rfl rfl (by decide) .plain rfl (rows := [[Value.int .i64 p, Value.int .i64 l, ov]]) rfl (fun r hr => by rw [List.mem_singleton.1 hr]; exact ⟨rfl, one_cons rfl (one_cons rfl (one_cons (Row.one (Own.row ho)) one_nil))⟩) (fun b25 w26 e27 hlo28 hw29 hk30 => ?_)
    have hs35 := Below.size e27
    replace E := E.trans e27
    replace hSb := hSb.ext e27
    replace hGb := hGb.ext e27
    replace hTb := hTb.ext e27
    replace hW := hW.ext e27
    replace hSt := hSt.ext e27
    replace hSeen := hSeen.ext e27
    replace ho := ho.ext e27
    refine Sq.appS slw116 hW (by omega) (by rw [rows3_length]; omega) (r := [Value.int .i64 p, Value.int .i64 l, ov]) hk30 ⟨rfl, one_cons rfl (one_cons rfl (one_cons (Row.one (Own.row ho)) one_nil))⟩ .plain rfl rfl rfl (fun v31 w32 hW34 g33 _ _ => ?_)
    have hs36 := World.grownBy.size g33
    replace E := E.wid hW g33 (by omega)
    replace hSb := hSb.wid hW g33 (by decide)
    replace hGb := hGb.wid hW g33 (by decide)
    replace hTb := hTb.wid hW g33 (by decide)
    replace hSt := hSt.wid hW g33 (by decide)
    replace hSeen := hSeen.wid hW g33 (by decide)
    replace ho := ho.wid hW g33 (by decide)
    replace hW : Wid w32 B 118 3 v31 (rows3 (rs ++ [(p, l, ov)])) := by rw [rows3_snoc]; exact hW34
    refine Sq.store one116 .plain rfl rfl (Wid.one hW) hTb (by simp) (fun w37 g38 hB39 => ?_)
    have hs40 := World.grownBy.size g38
    replace E := E.grown g38 (fun k hk => by injection hk with hk; subst hk; omega)
    replace hSb := hSb.grown g38 (by intro h; injection h with h; omega)
    replace hGb := hGb.grown g38 (by intro h; injection h with h; omega)
    replace hW := hW.stored g38 hTb (by decide)
    replace hSt := hSt.stored g38 hTb (by decide)
    replace hSeen := hSeen.stored g38 hTb (by decide)
    replace ho := ho.stored g38 hTb (by decide)
    replace hTb := hB39
    refine Sq.nil ?_
    refine Eq.next ?_
    refine Cq.seq ?_
    refine Cq.region ?_
    refine Sq.move .plain rfl rfl ?_
    refine Sq.assign .plain rfl rfl ?_
    refine Sq.nil ?_
    refine Eq.next ?_
    refine Cq.ret ?_
    refine Eq.ret1 rfl rfl ?_
    have hq2 := hq
    have hn2 : nodeOf f s v0 ∉ (ws.map (nodeOf f s)) := by rw [← hq]; exact hnin
    refine ⟨by rw [hbv]; simp [hkk, hnin], ?_⟩
    rw [wadd_F hn2]
    rw [hms, if_neg (by omega), addNode_F hnin] at hSeen
    exact ⟨sv, _, _, hSb, by rw [List.map_append, List.map_cons, List.map_nil, ← hq]; exact hSeen, hTb, hW, hSt.snoc hl (by rw [← hq]; show Row _ _ _ ([q].map (Value.int .i64)); rw [← hx1]; exact Own.row ho) hv0, hGb, E, by omega, by omega, by omega, by omega⟩
  refine Sq.nil ?_
  refine Eq.next ?_
  refine Cq.els rfl ?_
  refine Cq.skip ?_
  refine Eq.next ?_
  refine Cq.seq ?_
  refine Cq.region ?_
  have hnin : q ∈ (ws.map (nodeOf f s)) := Classical.byContradiction fun h => hfr (by rw [hxs, if_neg (by rintro (h' | h'); omega; exact h h')]; show (0 : Int) < 1; decide)
  refine Sq.move .plain rfl rfl ?_
  refine Sq.assign .plain rfl rfl ?_
  refine Sq.nil ?_
  refine Eq.next ?_
  refine Cq.ret ?_
  refine Eq.ret1 rfl rfl ?_
  have hn2 : nodeOf f s v0 ∈ (ws.map (nodeOf f s)) := by rw [← hq]; exact hnin
  refine ⟨by rw [hbv]; simp [hkk, hnin], ?_⟩
  rw [wadd_T hn2]
  rw [hms, if_neg (by omega), addNode_T hnin] at hSeen
  exact ⟨sv, _, _, hSb, hSeen, hTb, hW, hSt, hGb, E, by omega, by omega, by omega, by omega⟩
end Go.Proofs.Ytdejmfkpohgamaa
set_option linter.unusedSimpArgs false
set_option linter.unusedVariables false
namespace Go.Proofs.Ytdejmfkpohgamaa
open Go.RowKit
set_option maxRecDepth 100000 in
theorem firstPath_c (w0 : World) (nI : Int) (n : Nat) (s : Int) (L : List Int) (sv0 lv fv gv : Value) (f : Int → Int → Int) (G : Int → Bool) (D : Int → Prop) (hnI : nI = n) (hs0 : Ints w0 3 sv0 [s]) (hx : Ints w0 3 lv L) (hLl : L.length ≤ 100) (hL : ∀ x ∈ L, 0 ≤ x ∧ x < 6) (hD0 : D s) (hD : ∀ q, D q → ∀ x ∈ L, D (f q x)) (hDn : ∀ q, D q → 0 ≤ q ∧ q < n) (hn : n ≤ 150) (hclo : NClo Try.prog w0 3 fv D f) (hgo : GClo Try.prog w0 gv D G) : Ret Try.prog 95 #[Value.int .i64 nI, sv0, lv, fv, gv] w0 (fun v w => v = .tuple #[.string (txt ((firstOf f s L G).getD [])), .bool (firstOf f s L G).isSome] ∧ Ext w0 w) := by
  have E := Ext.refl w0
  have hgo2 := hgo
  obtain ⟨kg, fg, cg, hgv0, hFg0, hgoal0⟩ := hgo2
  obtain ⟨kf, fnf, cf, hfv0, hFn, hcall⟩ := hclo
  have hbw := bfsw_range (f := f) (s := s) (L := L) hD0 hD hDn
  refine Ret.of (args := [Value.int .i64 nI, sv0, lv, fv, gv]) Try.func95 rfl rfl rfl ?_
  rintro _ rfl
  show Cq _ _ _ _ [(0, Value.int .i64 nI), (1, sv0), (2, lv), (3, fv), (4, gv)] _
  refine Cq.seq ?_
  refine Cq.region ?_
  refine Sq.box1 .plain rfl rfl (by rw [hgv0]; rfl) (fun b1 w2 e3 hB4 hlo5 => ?_)
  have hd6 := Nat.le_trans (Below.size E) hlo5
  have hs7 := Below.size e3
  replace E := E.trans e3
  refine Sq.assign .plain rfl rfl ?_
  refine Sq.assign .plain rfl rfl ?_
  refine Sq.nil ?_
  refine Eq.next ?_
  refine Cq.seq ?_
  refine Cq.region ?_
  refine Sq.move .plain rfl rfl ?_
  refine Sq.make sl24 .plain rfl rfl rfl rfl (by omega) (fun b8 w9 e10 hlo11 hB12 => ?_)
  replace hB12 := hB12 w2.heap.size (Nat.le_refl _)
  have hs13 := Below.size e10
  replace E := E.trans e10
  replace hB4 := hB4.ext e10
  refine Sq.alloc1 zero24 rfl .plain rfl (fun b14 w15 e16 hB17 hlo18 => ?_)
  have hd19 := Nat.le_trans (Below.size E) hlo18
  have hd20 := Nat.lt_of_lt_of_le hB4.lt hlo18
  have hs21 := Below.size e16
  replace E := E.trans e16
  replace hB4 := hB4.ext e16
  replace hB12 := hB12.ext e16
  refine Sq.store one24 .plain rfl rfl (Row.one (Own.row hB12)) hB17 (by simp) (fun w22 g23 hB24 => ?_)
  have hs25 := World.grownBy.size g23
  replace E := E.grown g23 (fun k hk => by injection hk with hk; subst hk; omega)
  replace hB4 := hB4.grown g23 (by intro h; injection h with h; omega)
  replace hB12 := hB12.stored g23 hB17 (by decide)
  replace hB17 := hB24
  refine Sq.nil ?_
  refine Eq.next ?_
  refine Cq.seq ?_
  refine Cq.region ?_
  refine Sq.alloc1 zero116 rfl .plain rfl (fun b26 w27 e28 hB29 hlo30 => ?_)
  have hd31 := Nat.le_trans (Below.size E) hlo30
  have hd32 := Nat.lt_of_lt_of_le hB4.lt hlo30
  have hd33 := Nat.lt_of_lt_of_le hB17.lt hlo30
  have hs34 := Below.size e28
  replace E := E.trans e28
  replace hB4 := hB4.ext e28
  replace hB12 := hB12.ext e28
  replace hB17 := hB17.ext e28
  refine Sq.nil ?_
  refine Eq.next ?_
  refine Cq.seq ?_
  refine Cq.region ?_
  refine Sq.makeFunc .plain rfl rfl ?_
  refine Sq.assign .plain rfl rfl ?_
  refine Sq.nil ?_
  refine Eq.next ?_
  refine Cq.seq ?_
  refine Cq.seq ?_
  refine Cq.region ?_
  refine Sq.move .plain rfl rfl ?_
  refine Sq.move .plain rfl rfl ?_
  have hM : SMem w0 w27 3 4 24 118 116 73 w2.heap.size b14 b26 b1 gv n f s [] := ⟨_, _, [], hB17, Own.seen0 (seen_n (by omega) hB12), hB29, Wid.nil _ _ _ _, Trail.nil _ _ _ _, hB4, E, by omega, by omega, by omega, by omega⟩
  refine Sq.callC fn116 .plain rfl rfl rfl (visit_c _ _ _ _ _ _ _ _ _ f s _ D G hgo hM _ _ s [] rfl (hs0.ext E) (.inl ⟨rfl, rfl⟩) (by simp) hD0 (hDn _ hD0) (by simp)) ?_
  rintro _ w35 ⟨rfl, hM'⟩
  clear hM
  have hM := hM'
  clear hM'
  replace E := SMem.base hM
  have hs37 := Below.size E
  refine Sq.partB (fun hg0 => ?_) (fun hg0 => ?_)
  · refine Sq.nil ?_
    refine Eq.next ?_
    refine Cq.thn rfl ?_
    refine Cq.seq ?_
    refine Cq.region ?_
    refine Sq.assign .plain rfl rfl ?_
    refine Sq.assign .plain rfl rfl ?_
    refine Sq.nil ?_
    refine Eq.next ?_
    refine Cq.ret ?_
    refine Eq.pastRet ?_
    refine Eq.ret2 rfl rfl rfl ?_
    have e1 := first_here (f := f) (L := L) (by simpa using hg0 : G s = true)
    exact ⟨by rw [e1]; rfl, E⟩
  refine Sq.nil ?_
  refine Eq.next ?_
  refine Cq.els rfl ?_
  refine Cq.skip ?_
  refine Eq.next ?_
  refine Cq.seq ?_
  refine Cq.seq ?_
  refine Cq.region ?_
  refine Sq.assign .plain rfl rfl ?_
  refine Sq.nil ?_
  refine Eq.next ?_
  refine Cq.block ?_
  have hw0 : wadd f s [] [] = bfsw f s L 0 := wadd_F (by simp)
  rw [hw0] at hM
  refine Cq.loop (fun nn w ls => ∃ (i : Int), ls = [(2, lv), (3, fv), (13, Value.pointer (some ⟨b26, 0, none⟩)), (14, Value.func (.func 116) #[] #[Value.pointer (some ⟨b14, 0, none⟩), Value.pointer (some ⟨b1, 0, none⟩), Value.pointer (some ⟨b26, 0, none⟩)]), (15, Value.int .i64 i)] ∧ (0 ≤ i ∧ i ≤ (List.length (bfsw f s L i.toNat) : Int)) ∧ SMem w0 w 3 4 24 118 116 73 w2.heap.size b14 b26 b1 gv n f s (bfsw f s L i.toNat) ∧ (∀ v ∈ (bfsw f s L i.toNat), G (nodeOf f s v) = false) ∧ Ext w0 w ∧ nn = (151 - i).toNat) _ _ ⟨0, rfl, ⟨by omega, by show (0 : Int) ≤ ((1 : Nat) : Int); omega⟩, hM, (fun v hv => by rw [show v = [] by simpa [bfsw] using hv]; simpa [nodeOf] using hg0), E, rfl⟩ (.cons rfl (.cons rfl (.cons rfl (.cons rfl (.cons rfl (.nil)))))) ?_
  rintro nn wl1 ls ⟨i, rfl, hi, hM, hG, E, rfl⟩
  have hs38 := Below.size E
  have hbl := hbw i.toNat
  have hbl1 := hbw (i.toNat + 1)
  refine Cq.seq ?_
  refine Cq.seq ?_
  refine Cq.region ?_
  refine Sq.move .plain rfl rfl ?_
  have M39 := hM
  obtain ⟨svM39, tvM39, rsM39, _, _, hTM39, hWM39, hSM39, _⟩ := M39
  refine Sq.loadB one116 .plain rfl rfl hTM39 rfl ?_
  refine Sq.lenWid hWM39 .plain rfl und116 rfl ?_
  rw [rows3_length, hSM39.len]
  refine Sq.lss .plain rfl rfl rfl ?_
  refine Sq.part (fun c40 => ?_) (fun c40 => ?_)
  · refine Sq.nil ?_
    refine Eq.next ?_
    refine Cq.thn rfl ?_
    refine Cq.skip ?_
    refine Eq.next ?_
    refine Cq.seq ?_
    refine Cq.block ?_
    refine Cq.seq ?_
    refine Cq.region ?_
    refine Sq.move .plain rfl rfl ?_
    refine Sq.lenInts (hx.ext E) .plain rfl und56 rfl ?_
    refine Sq.move .plain rfl rfl ?_
    refine Sq.nil ?_
    refine Eq.next ?_
    refine Cq.block ?_
    obtain ⟨u, hu⟩ : ∃ u, (bfsw f s L i.toNat)[i.toNat]? = some u := ⟨_, List.getElem?_eq_getElem (by omega)⟩
    have hDu : D (nodeOf f s u) := nodeOf_in hD0 hD _ _ (List.mem_of_getElem? hu)
    have hul := bfsw_lets (f := f) (s := s) (i := i.toNat) hL u (List.mem_of_getElem? hu)
    refine Cq.loop (fun nn w ls => ∃ (k : Int), ls = [(2, lv), (3, fv), (13, Value.pointer (some ⟨b26, 0, none⟩)), (14, Value.func (.func 116) #[] #[Value.pointer (some ⟨b14, 0, none⟩), Value.pointer (some ⟨b1, 0, none⟩), Value.pointer (some ⟨b26, 0, none⟩)]), (15, Value.int .i64 i), (33, lv), (34, Value.int .i64 (List.length L : Int)), (35, Value.int .i64 k)] ∧ (0 ≤ k ∧ k ≤ L.length) ∧ SMem w0 w 3 4 24 118 116 73 w2.heap.size b14 b26 b1 gv n f s (wmid f s L i.toNat u k.toNat) ∧ (∀ v ∈ (wmid f s L i.toNat u k.toNat), G (nodeOf f s v) = false) ∧ Ext w0 w ∧ nn = ((L.length : Int) - k).toNat) _ _ ⟨0, rfl, by omega, hM, hG, E, rfl⟩ (.cons rfl (.cons rfl (.cons rfl (.cons rfl (.cons rfl (.cons rfl (.cons rfl (.cons rfl (.nil))))))))) ?_
    rintro nn wl2 ls ⟨k, rfl, hk, hM, hG, E, rfl⟩
    have hs41 := Below.size E
    have hmh := (wmid_last (f := f) (s := s) (L := L) (k := k.toNat) hu).length_le
    have hum : (wmid f s L i.toNat u k.toNat)[i.toNat]? = some u := by
      obtain ⟨t, ht⟩ := wmid_more (f := f) (s := s) (L := L) i.toNat u k.toNat
      rw [← ht, List.getElem?_append_left (List.getElem?_eq_some_iff.1 hu).1]; exact hu
    refine Cq.seq ?_
    refine Cq.region ?_
    refine Sq.lss .plain rfl rfl rfl ?_
    refine Sq.part (fun c42 => ?_) (fun c42 => ?_)
    · refine Sq.nil ?_
      refine Eq.next ?_
      refine Cq.seq ?_
      refine Cq.thn rfl ?_
      refine Cq.skip ?_
      refine Eq.next ?_
      refine Cq.seq ?_
      refine Cq.block ?_
      refine Cq.seq ?_
      refine Cq.region ?_
      refine Sq.idxInts sl56 one3 (hx.ext E) .plain rfl rfl rfl .plain rfl rfl (by omega) (by omega) ?_
      refine Sq.assign .plain rfl rfl ?_
      refine Sq.nil ?_
      refine Eq.next ?_
      refine Cq.seq ?_
      refine Cq.region ?_
      refine Sq.assign .plain rfl rfl ?_
      refine Sq.nil ?_
      refine Eq.next ?_
      refine Cq.seq ?_
      refine Cq.seq ?_
      refine Cq.region ?_
      have M43 := hM
      obtain ⟨svM43, tvM43, rsM43, _, _, hTM43, hWM43, hSM43, _⟩ := M43
      obtain ⟨pp, ll, fvv, hr, hlk, hfv⟩ := hSM43.row _ _ hum
      have hlt := (List.getElem?_eq_some_iff.1 hr).1
      refine Sq.loadB one116 .plain rfl rfl hTM43 rfl ?_
      refine Sq.move .plain rfl rfl ?_
      obtain ⟨gq44, kq44, hvq44, hlq44, haq44, hbq44, hcq44⟩ := Wid.triple hWM43 (i := i) (by omega) hr
      refine Sq.val .plain rfl rfl (Still.ixV slw116 hvq44 rfl rfl (by omega)) ?_
      refine Sq.fieldAddr fld118_2 .plain rfl rfl ?_
      refine Sq.val .plain rfl rfl (Still.load one56 rfl hcq44) ?_
      refine Sq.lenInts hfv .plain rfl und56 rfl ?_
      refine Sq.move .plain rfl rfl ?_
      refine Sq.nil ?_
      refine Eq.next ?_
      refine Cq.block ?_
      have hXm : (L.getD k.toNat 0) ∈ L := getD_mem (by omega)
      have hXr := hL _ hXm
      have hlu : ∀ x ∈ u ++ [(L.getD k.toNat 0)], 0 ≤ x ∧ x < 6 := by
        intro x hx
        rcases List.mem_append.1 hx with h | h
        · exact hul x h
        · rw [List.mem_singleton.1 h]; exact hXr
      have hul2 : u.length ≤ 150 := by have := bfsw_lenw hu; omega
      have hone : (List.length ([(nodeOf f s u)] : List Int) : Int) = 1 := rfl
      refine Cq.loop (fun nn w ls => ∃ (j : Int), ∃ (rv : Value), ls = [(2, lv), (3, fv), (13, Value.pointer (some ⟨b26, 0, none⟩)), (14, Value.func (.func 116) #[] #[Value.pointer (some ⟨b14, 0, none⟩), Value.pointer (some ⟨b1, 0, none⟩), Value.pointer (some ⟨b26, 0, none⟩)]), (15, Value.int .i64 i), (17, Value.int .i64 (L.getD k.toNat 0)), (18, rv), (33, lv), (34, Value.int .i64 (List.length L : Int)), (35, Value.int .i64 k), (43, fvv), (44, Value.int .i64 ((List.length ([(nodeOf f s u)] : List Int) : Int))), (45, Value.int .i64 j)] ∧ (0 ≤ j ∧ j ≤ 1) ∧ (j = 0 → rv = .slice none 0 0) ∧ (j = 1 → Ints w 3 rv [f (nodeOf f s u) (L.getD k.toNat 0)]) ∧ Ext w0 w ∧ Ints w 3 fvv [(nodeOf f s u)] ∧ SMem w0 w 3 4 24 118 116 73 w2.heap.size b14 b26 b1 gv n f s (wmid f s L i.toNat u k.toNat) ∧ nn = (1 - j).toNat) _ _ ⟨0, _, rfl, by omega, fun _ => rfl, fun h => absurd h (by decide), E, hfv, hM, rfl⟩ (.cons rfl (.cons rfl (.cons rfl (.cons rfl (.cons rfl (.cons rfl (.cons rfl (.cons rfl (.cons rfl (.cons rfl (.cons rfl (.cons rfl (.cons rfl (.nil)))))))))))))) ?_
      rintro nn wl3 ls ⟨j, rv, rfl, hj, hrv, hrr, E, hfv, hM, rfl⟩
      have hs45 := Below.size E
      refine Cq.seq ?_
      refine Cq.region ?_
      refine Sq.lss .plain rfl rfl rfl ?_
      refine Sq.part (fun c46 => ?_) (fun c46 => ?_)
      · refine Sq.nil ?_
        refine Eq.next ?_
        refine Cq.seq ?_
        refine Cq.thn rfl ?_
        refine Cq.skip ?_
        refine Eq.next ?_
        refine Cq.seq ?_
        refine Cq.block ?_
        refine Cq.seq ?_
        refine Cq.region ?_
        have hj0 : j = 0 := by omega
        obtain rfl := hrv hj0
        have hj1 : ([(nodeOf f s u)] : List Int).getD j.toNat 0 = (nodeOf f s u) := by rw [hj0]; rfl
        refine Sq.idxInts sl56 one3 hfv .plain rfl rfl rfl .plain rfl rfl (by omega) (by simp only [List.length_singleton]; omega) ?_
        rw [hj1]
        refine Sq.assign .plain rfl rfl ?_
        refine Sq.nil ?_
        refine Eq.next ?_
        refine Cq.region ?_
        refine Sq.move .plain rfl rfl ?_
        refine Sq.move .plain rfl rfl ?_
        refine Sq.move .plain rfl rfl ?_
        refine Sq.move .plain rfl rfl ?_
        refine Sq.callC hFn .plain rfl (by rw [← hfv0]; rfl) rfl (hcall _ _ _ E hDu hXr) ?_
        rintro vw47 w47 ⟨ho48, e49⟩
        have hs50 := Below.size e49
        replace E := E.trans e49
        replace hfv := hfv.ext e49
        replace hM := hM.ext e49
        refine Sq.assign .plain rfl rfl ?_
        refine Sq.nil ?_
        refine Eq.end ?_
        refine Eq.next ?_
        refine Cq.region ?_
        refine Sq.add .plain rfl rfl rfl (by omega) ?_
        refine Sq.move .plain rfl rfl ?_
        refine Sq.nil ?_
        refine Eq.round _ _ ⟨j + 1, _, rfl, by omega, fun h => absurd h (by omega), fun _ => Own.row ho48, E, hfv, hM, rfl⟩ (by omega) (.cons rfl (.cons rfl (.cons rfl (.cons rfl (.cons rfl (.cons rfl (.cons rfl (.cons rfl (.cons rfl (.cons rfl (.cons rfl (.cons rfl (.cons rfl (.nil))))))))))))))
      refine Sq.nil ?_
      refine Eq.next ?_
      refine Cq.seq ?_
      refine Cq.els rfl ?_
      refine Cq.exit ?_
      refine Eq.past ?_
      refine Eq.past ?_
      refine Eq.hit ?_
      refine Eq.next ?_
      refine Cq.seq ?_
      refine Cq.region ?_
      refine Sq.move .plain rfl rfl ?_
      refine Sq.move .plain rfl rfl ?_
      refine Sq.move .plain rfl rfl ?_
      refine Sq.move .plain rfl rfl ?_
      refine Sq.callC fn116 .plain rfl rfl rfl (visit_c _ _ _ _ _ _ _ _ _ f s _ D G hgo hM i (L.getD k.toNat 0) _ (u ++ [(L.getD k.toNat 0)]) (nodeOf_snoc ..).symm (hrr (by omega)) (.inr ⟨u, rfl, hi.1, hum⟩) hlu (hD _ hDu _ hXm) (hDn _ (hD _ hDu _ hXm)) (by omega)) ?_
      rintro _ w51 ⟨rfl, hM'⟩
      clear hM
      have hM := hM'
      clear hM'
      replace E := SMem.base hM
      have hs53 := Below.size E
      refine Sq.partB (fun hfd => ?_) (fun hfd => ?_)
      · refine Sq.nil ?_
        refine Eq.next ?_
        refine Cq.thn rfl ?_
        refine Cq.seq ?_
        refine Cq.region ?_
        have hnew : nodeOf f s (u ++ [(L.getD k.toNat 0)]) ∉ (wmid f s L i.toNat u k.toNat).map (nodeOf f s) ∧ G (nodeOf f s (u ++ [(L.getD k.toNat 0)])) = true := by rw [nodeOf_snoc]; simpa using hfd
        rw [wadd_F hnew.1] at hM
        have M54 := hM
        obtain ⟨svM54, tvM54, rsM54, _, _, hTM54, hWM54, hSM54, _⟩ := M54
        refine Sq.loadB one116 .plain rfl rfl hTM54 rfl ?_
        refine Sq.call fn117 .plain rfl rfl (pathWord_c _ _ _ _ f s _ hWM54 hSM54 (u ++ [(L.getD k.toNat 0)]) (by rw [List.length_append, List.length_singleton, Nat.add_sub_cancel, List.getElem?_append_right (Nat.le_refl _), Nat.sub_self]; rfl) (by rw [List.length_append, List.length_singleton]; omega) (by rw [List.length_append, List.length_singleton]; omega)) ?_
        rintro _ w55 ⟨rfl, e56⟩
        have hs57 := Below.size e56
        replace E := E.trans e56
        refine Sq.assign .plain rfl rfl ?_
        refine Sq.assign .plain rfl rfl ?_
        refine Sq.nil ?_
        refine Eq.next ?_
        refine Cq.ret ?_
        refine Eq.outRet ?_
        refine Eq.pastRet ?_
        refine Eq.pastRet ?_
        refine Eq.outRet ?_
        refine Eq.outRet ?_
        refine Eq.pastRet ?_
        refine Eq.pastRet ?_
        refine Eq.outRet ?_
        refine Eq.pastRet ?_
        refine Eq.ret2 rfl rfl rfl ?_
        have e1 := first_found hu (by omega) (by omega) hG hnew.1 hnew.2
        exact ⟨by rw [e1]; rfl, E⟩
      refine Sq.nil ?_
      refine Eq.next ?_
      refine Cq.els rfl ?_
      refine Cq.skip ?_
      refine Eq.end ?_
      refine Eq.next ?_
      refine Cq.region ?_
      refine Sq.add .plain rfl rfl rfl (by omega) ?_
      refine Sq.move .plain rfl rfl ?_
      refine Sq.nil ?_
      have e2 := toNat_succ hk.1
      have e5 := wmid_succ (f := f) (s := s) (i := i.toNat) (u := u) (k := k.toNat) (L := L) (by omega)
      refine Eq.round _ _ ⟨k + 1, rfl, by omega, by rw [e2, e5]; exact hM, by rw [e2, e5]; exact wadd_miss hG (by rw [nodeOf_snoc]; exact hfd), E, rfl⟩ (by omega) (.cons rfl (.cons rfl (.cons rfl (.cons rfl (.cons rfl (.cons rfl (.cons rfl (.cons rfl (.nil)))))))))
    refine Sq.nil ?_
    refine Eq.next ?_
    refine Cq.seq ?_
    refine Cq.els rfl ?_
    refine Cq.exit ?_
    refine Eq.past ?_
    refine Eq.past ?_
    refine Eq.hit ?_
    refine Eq.end ?_
    refine Eq.next ?_
    refine Cq.region ?_
    refine Sq.move .plain rfl rfl ?_
    refine Sq.add .plain rfl rfl rfl (by omega) ?_
    refine Sq.assign .plain rfl rfl ?_
    refine Sq.nil ?_
    have e1 := toNat_succ hi.1
    have e3 := wmid_done (k := k.toNat) (by omega) hu
    have e4 := (bfsw_prefix1 (f := f) (s := s) (L := L) i.toNat).length_le
    refine Eq.round _ _ ⟨i + 1, rfl, by rw [e1]; omega, by rw [e1, ← e3]; exact hM, by rw [e1, ← e3]; exact hG, E, rfl⟩ (by omega) (.cons rfl (.cons rfl (.cons rfl (.cons rfl (.cons rfl (.nil))))))
  refine Sq.nil ?_
  refine Eq.next ?_
  refine Cq.els rfl ?_
  refine Cq.exit ?_
  refine Eq.past ?_
  refine Eq.past ?_
  refine Eq.hit ?_
  refine Eq.next ?_
  refine Cq.seq ?_
  refine Cq.region ?_
  refine Sq.assign .plain rfl rfl ?_
  refine Sq.assign .plain rfl rfl ?_
  refine Sq.nil ?_
  refine Eq.next ?_
  refine Cq.ret ?_
  refine Eq.ret2 rfl rfl rfl ?_
  have e1 := first_missed (f := f) (s := s) (L := L) (G := G) (i := i.toNat) (by omega) (by omega) hG
  exact ⟨by rw [e1]; rfl, E⟩
end Go.Proofs.Ytdejmfkpohgamaa
set_option linter.unusedSimpArgs false
set_option linter.unusedVariables false
namespace Go.Proofs.Ytdejmfkpohgamaa
open Go.RowKit
set_option maxRecDepth 100000 in
theorem ff1_c (w0 : World) (q x : Int) (a : A) (bt b : Nat) (xs : List Int) (hB : Blk w0 bt 57 [Value.slice (some ⟨b, 0, none⟩) a.next.length a.next.length]) (hT : Blk w0 b 62 (xs.map (Value.int .i64))) (hTab : Tab a xs) (hq : 0 ≤ q ∧ q < a.next.length) (hx : 0 ≤ x ∧ x < 6) : Ret Try.prog 96 #[Value.int .i64 q, Value.int .i64 x, Value.slice none 0 0, Value.pointer (some ⟨bt, 0, none⟩)] w0 (fun v w => Own w w0.heap.size 3 v [Value.int .i64 (goA a q x)] ∧ Ext w0 w) := by
  have E := Ext.refl w0
  refine Ret.of (args := [Value.int .i64 q, Value.int .i64 x, Value.slice none 0 0, Value.pointer (some ⟨bt, 0, none⟩)]) Try.func96 rfl rfl rfl ?_
  rintro _ rfl
  show Cq _ _ _ _ [(0, Value.int .i64 q), (1, Value.int .i64 x), (2, Value.slice none 0 0), (3, Value.pointer (some ⟨bt, 0, none⟩))] _
  refine Cq.seq ?_
  refine Cq.region ?_
  refine Sq.assign .plain rfl rfl ?_
  refine Sq.nil ?_
  refine Eq.next ?_
  refine Cq.seq ?_
  refine Cq.region ?_
  refine Sq.move .plain rfl rfl ?_
  refine Sq.loadB one57 .plain rfl rfl hB rfl ?_
  refine Sq.move .plain rfl rfl ?_
  refine Sq.move .plain rfl rfl ?_
  refine Sq.val .plain rfl rfl (Still.ixS slk57 rfl rfl (by omega) (by omega)) ?_
  refine Sq.val .plain rfl rfl (Still.ixA ar62 rfl rfl (by omega) (by omega)) ?_
  refine Sq.val .plain rfl rfl (Still.loadB one3 rfl hT (by rw [Nat.zero_add, List.getElem?_map, hTab.2 q x (by first | omega | assumption) (by omega)]; rfl)) ?_
  refine Sq.app1 sl56 (Own.nil w0 (w0.heap.size) 3) (by omega) (by simp) .plain rfl rfl rfl rfl rfl rfl rfl (fun v1 w2 ho4 g3 _ => ?_)
  have hs5 := g3.size
  replace E := E.owned (Own.nil w0 (w0.heap.size) 3) g3 (by omega)
  refine Sq.assign .plain rfl rfl ?_
  refine Sq.nil ?_
  refine Eq.next ?_
  refine Cq.ret ?_
  refine Eq.ret1 rfl rfl ?_
  exact ⟨by simpa using ho4, E⟩
set_option maxRecDepth 100000 in
theorem aw1_c (w0 : World) (q s : Int) (b : Nat) (hB : Blk w0 b 3 [Value.int .i64 s]) : Ret Try.prog 81 #[Value.int .i64 q, Value.pointer (some ⟨b, 0, none⟩)] w0 (fun v w => v = .bool (decide (q = s)) ∧ w0 = w) := by
  refine Ret.of (args := [Value.int .i64 q, Value.pointer (some ⟨b, 0, none⟩)]) Try.func81 rfl rfl rfl ?_
  rintro _ rfl
  show Cq _ _ _ _ [(0, Value.int .i64 q), (1, Value.pointer (some ⟨b, 0, none⟩))] _
  refine Cq.seq ?_
  refine Cq.region ?_
  refine Sq.assign .plain rfl rfl ?_
  refine Sq.nil ?_
  refine Eq.next ?_
  refine Cq.seq ?_
  refine Cq.region ?_
  refine Sq.move .plain rfl rfl ?_
  refine Sq.loadB one3 .plain rfl rfl hB rfl ?_
  refine Sq.eql .plain rfl rfl rfl ?_
  refine Sq.assign .plain rfl rfl ?_
  refine Sq.nil ?_
  refine Eq.next ?_
  refine Cq.ret ?_
  refine Eq.ret1 rfl rfl ?_
  exact ⟨rfl, rfl⟩
set_option maxRecDepth 100000 in
theorem do1_c (w0 : World) (x y : Bool) : Ret Try.prog 106 #[Value.bool x, Value.bool y] w0 (fun v w => v = .bool (x != y) ∧ w0 = w) := by
  refine Ret.of (args := [Value.bool x, Value.bool y]) Try.func106 rfl rfl rfl ?_
  rintro _ rfl
  show Cq _ _ _ _ [(0, Value.bool x), (1, Value.bool y)] _
  refine Cq.seq ?_
  refine Cq.region ?_
  refine Sq.assign .plain rfl rfl ?_
  refine Sq.nil ?_
  refine Eq.next ?_
  refine Cq.seq ?_
  refine Cq.region ?_
  refine Sq.move .plain rfl rfl ?_
  refine Sq.move .plain rfl rfl ?_
  refine Sq.neqB und4 .plain rfl rfl rfl ?_
  refine Sq.assign .plain rfl rfl ?_
  refine Sq.nil ?_
  refine Eq.next ?_
  refine Cq.ret ?_
  refine Eq.ret1 rfl rfl ?_
  exact ⟨by cases x <;> cases y <;> rfl, rfl⟩
set_option maxRecDepth 100000 in
theorem firstFrom_c (w0 : World) (a : A) (nx ac : Value) (hnx : Rows w0 56 3 nx a.next) (hac : Bools w0 4 ac a.acc) (hv : validA a = true) (gv : Value) (G : Int → Bool) (hgo : GClo Try.prog w0 gv (fun q => 0 ≤ q ∧ q < (a.next.length : Int)) G) : Ret Try.prog 63 #[Value.agg #[Value.int .i64 a.al, nx, ac], gv] w0 (fun v w => v = resW (firstA a 0 G) ∧ Ext w0 w) := by
  have E := Ext.refl w0
  have hal := (validA_spec.1 hv).1
  refine Ret.of (args := [Value.agg #[Value.int .i64 a.al, nx, ac], gv]) Try.func63 rfl rfl rfl ?_
  rintro _ rfl
  show Cq _ _ _ _ [(0, Value.agg #[Value.int .i64 a.al, nx, ac]), (1, gv)] _
  refine Cq.seq ?_
  refine Cq.region ?_
  refine Sq.box .plain rfl rfl (fun b1 w2 e3 hB4 hlo5 => ?_)
  have hd6 := Nat.le_trans (Below.size E) hlo5
  have hs7 := Below.size e3
  replace E := E.trans e3
  refine Sq.assign .plain rfl rfl ?_
  refine Sq.assign .plain rfl rfl ?_
  refine Sq.nil ?_
  refine Eq.next ?_
  refine Cq.seq ?_
  refine Cq.region ?_
  refine Sq.loadAgg agg26 .plain rfl rfl hB4 rfl ?_
  have hd16 := hB4.lt
  refine Sq.call fn48 .plain rfl rfl (tableOf_c _ a _ _ (hnx.ext E) (hac.ext E) hv) ?_
  rintro _ w9 ⟨⟨b11, xs12, rfl, hlo13, hT14, hTab15⟩, e10⟩
  have hs17 := Below.size E
  have hs18 := Below.size e10
  replace E := E.trans e10
  replace hB4 := hB4.ext e10
  refine Sq.alloc1 zero57 rfl .plain rfl (fun b19 w20 e21 hB22 hlo23 => ?_)
  have hd24 := Nat.le_trans (Below.size E) hlo23
  have hd25 := Nat.lt_of_lt_of_le hB4.lt hlo23
  have hd26 := Nat.lt_of_lt_of_le hT14.lt hlo23
  have hs27 := Below.size e21
  replace E := E.trans e21
  replace hB4 := hB4.ext e21
  replace hT14 := hT14.ext e21
  refine Sq.store one57 .plain rfl rfl rfl hB22 (by simp) (fun w28 g29 hB30 => ?_)
  have hs31 := World.grownBy.size g29
  replace E := E.grown g29 (fun k hk => by injection hk with hk; subst hk; omega)
  replace hB4 := hB4.grown g29 (by intro h; injection h with h; omega)
  replace hT14 := hT14.grown g29 (by intro h; injection h with h; omega)
  replace hB22 := hB30
  refine Sq.nil ?_
  refine Eq.next ?_
  refine Cq.seq ?_
  refine Cq.drawS 11 (fun w' => Blk w' b1 26 [Value.int .i64 a.al, nx, ac] ∧ Blk w' b19 57 [Value.slice (some ⟨b11, 0, none⟩) a.next.length a.next.length] ∧ Blk w' b11 62 (xs12.map (Value.int .i64)) ∧ Ext w0 w') mixed (⟨hB4, hB22, hT14, E⟩) (fun w32 e33 hS => ?_)
  clear hS
  have hs34 := Below.size e33
  replace E := E.trans e33
  replace hB4 := hB4.ext e33
  replace hT14 := hT14.ext e33
  replace hB22 := hB22.ext e33
  refine Gq.st 0 rfl (by kernel_rfl) rfl .plain rfl (fun _ _ _ h => h) ⟨hB4, hB22, hT14, E⟩ (fun w' x => Still.loadB one57 rfl x.2.1 rfl) ?_
  refine Gq.st 1 rfl (by kernel_rfl) rfl .plain rfl (fun _ _ _ h => h) ⟨hB4, hB22, hT14, E⟩ (fun w' x => Still.len und57 rfl) ?_
  refine Gq.st 3 rfl (by kernel_rfl) rfl .plain rfl (fun _ _ _ h => h) ⟨hB4, hB22, hT14, E⟩ (fun w' x => Still.fieldAddr fld26_0 rfl) ?_
  refine Gq.st 4 rfl (by kernel_rfl) rfl .plain rfl (fun _ _ _ h => h) ⟨hB4, hB22, hT14, E⟩ (fun w' x => Still.loadB one3 rfl x.1 rfl) ?_
  refine Gq.st 6 rfl (by kernel_rfl) rfl .plain rfl (fun _ _ _ h => h) ⟨hB4, hB22, hT14, E⟩ (fun w' x => Still.makeFunc rfl) ?_
  refine Gq.st 7 rfl (by kernel_rfl) rfl .plain rfl (fun _ _ _ h => h) ⟨hB4, hB22, hT14, E⟩ (fun w' x => Still.move rfl) ?_
  refine Gq.two 2 5 rfl rfl (by kernel_rfl) ?_ ?_
  · refine Sq.lit sl56 rfl rfl .plain rfl rfl (one_cons rfl one_nil) (fun b35 w36 e37 hlo38 ho39 _ => ?_)
    replace ho39 := ho39 w32.heap.size (Nat.le_refl _)
    have hs41 := Below.size e37
    replace E := E.trans e37
    replace hB4 := hB4.ext e37
    replace hT14 := hT14.ext e37
    replace hB22 := hB22.ext e37
    refine Sq.nil ?_
    refine Eq.goes (fun _ => ⟨hB4, hB22, hT14, E⟩) ?_
    refine Gq.one 5 rfl (by kernel_rfl) ?_
    have hd46 := hB4.lt
    have hd47 := hT14.lt
    have hd48 := hB22.lt
    refine Sq.call fn50 .plain rfl rfl (lettersOf_c a.al (by omega) _) ?_
    rintro v42 w43 ⟨hl45, e44⟩
    have hs49 := Below.size E
    have hs50 := Below.size e44
    replace E := E.trans e44
    replace hB4 := hB4.ext e44
    replace hT14 := hT14.ext e44
    replace hB22 := hB22.ext e44
    replace ho39 := ho39.ext e44
    refine Sq.nil ?_
    refine Eq.goes (fun _ => ⟨hB4, hB22, hT14, E⟩) ?_
    refine Gq.one 8 rfl (by kernel_rfl) ?_
    have hd53 := hB4.lt
    have hd54 := hT14.lt
    have hd55 := hB22.lt
    have hvs := validA_spec.1 hv
    have hlet := letters_len6 a.al
    refine Sq.call fn95 .plain rfl rfl (firstPath_c _ (List.length a.next : Int) a.next.length 0 (letters a.al) _ _ _ _ (goA a) G (fun q => 0 ≤ q ∧ q < (a.next.length : Int)) rfl (Own.row ho39) (Own.row hl45) (by omega) (fun x hx => ⟨(mem_letters hx).1, (mem_letters hx).2.1⟩) (zero_in hv) (fun q hq x hx => goA_in hv hq ⟨(mem_letters hx).1, (mem_letters hx).2.1⟩) (fun q hq => hq) (by omega) ⟨96, _, [Value.pointer (some ⟨b19, 0, none⟩)], rfl, fn96, fun w q x hx hq hxx => ff1_c w q x a _ _ _ (hB22.ext hx) (hT14.ext hx) hTab15 hq hxx⟩ (GClo.up hgo E)) ?_
    rintro _ w51 ⟨rfl, e52⟩
    have hs56 := Below.size E
    have hs57 := Below.size e52
    replace E := E.trans e52
    replace hB4 := hB4.ext e52
    replace hT14 := hT14.ext e52
    replace hB22 := hB22.ext e52
    refine Sq.nil ?_
    refine Eq.goes (fun _ => ⟨hB4, hB22, hT14, E⟩) ?_
    refine Gq.st 9 rfl (by kernel_rfl) rfl .plain rfl (fun _ _ _ h => h) ⟨hB4, hB22, hT14, E⟩ (fun w' x => Still.extract rfl rfl) ?_
    refine Gq.st 10 rfl (by kernel_rfl) rfl .plain rfl (fun _ _ _ h => h) ⟨hB4, hB22, hT14, E⟩ (fun w' x => Still.extract rfl rfl) ?_
    refine Gq.one 11 rfl (by kernel_rfl) ?_
    refine Sq.assign .plain rfl rfl ?_
    refine Sq.nil ?_
    refine Eq.goes (fun h => absurd h (by decide)) ?_
    refine Gq.one 12 rfl (by kernel_rfl) ?_
    refine Sq.assign .plain rfl rfl ?_
    refine Sq.nil ?_
    refine Eq.goes (fun h => absurd h (by decide)) ?_
    refine Gq.done (by kernel_rfl) ?_
    refine Eq.next ?_
    refine Cq.ret ?_
    refine Eq.ret2 rfl rfl rfl ?_
    exact ⟨rfl, E⟩
  have hd62 := hB4.lt
  have hd63 := hT14.lt
  have hd64 := hB22.lt
  refine Sq.call fn50 .plain rfl rfl (lettersOf_c a.al (by omega) _) ?_
  rintro v58 w59 ⟨hl61, e60⟩
  have hs65 := Below.size E
  have hs66 := Below.size e60
  replace E := E.trans e60
  replace hB4 := hB4.ext e60
  replace hT14 := hT14.ext e60
  replace hB22 := hB22.ext e60
  refine Sq.nil ?_
  refine Eq.goes (fun _ => ⟨hB4, hB22, hT14, E⟩) ?_
  refine Gq.one 2 rfl (by kernel_rfl) ?_
  refine Sq.lit sl56 rfl rfl .plain rfl rfl (one_cons rfl one_nil) (fun b67 w68 e69 hlo70 ho71 _ => ?_)
  replace ho71 := ho71 w59.heap.size (Nat.le_refl _)
  have hs73 := Below.size e69
  replace E := E.trans e69
  replace hB4 := hB4.ext e69
  replace hT14 := hT14.ext e69
  replace hB22 := hB22.ext e69
  replace hl61 := hl61.ext e69
  refine Sq.nil ?_
  refine Eq.goes (fun _ => ⟨hB4, hB22, hT14, E⟩) ?_
  refine Gq.one 8 rfl (by kernel_rfl) ?_
  have hd76 := hB4.lt
  have hd77 := hT14.lt
  have hd78 := hB22.lt
  have hvs := validA_spec.1 hv
  have hlet := letters_len6 a.al
  refine Sq.call fn95 .plain rfl rfl (firstPath_c _ (List.length a.next : Int) a.next.length 0 (letters a.al) _ _ _ _ (goA a) G (fun q => 0 ≤ q ∧ q < (a.next.length : Int)) rfl (Own.row ho71) (Own.row hl61) (by omega) (fun x hx => ⟨(mem_letters hx).1, (mem_letters hx).2.1⟩) (zero_in hv) (fun q hq x hx => goA_in hv hq ⟨(mem_letters hx).1, (mem_letters hx).2.1⟩) (fun q hq => hq) (by omega) ⟨96, _, [Value.pointer (some ⟨b19, 0, none⟩)], rfl, fn96, fun w q x hx hq hxx => ff1_c w q x a _ _ _ (hB22.ext hx) (hT14.ext hx) hTab15 hq hxx⟩ (GClo.up hgo E)) ?_
  rintro _ w74 ⟨rfl, e75⟩
  have hs79 := Below.size E
  have hs80 := Below.size e75
  replace E := E.trans e75
  replace hB4 := hB4.ext e75
  replace hT14 := hT14.ext e75
  replace hB22 := hB22.ext e75
  refine Sq.nil ?_
  refine Eq.goes (fun _ => ⟨hB4, hB22, hT14, E⟩) ?_
  refine Gq.st 9 rfl (by kernel_rfl) rfl .plain rfl (fun _ _ _ h => h) ⟨hB4, hB22, hT14, E⟩ (fun w' x => Still.extract rfl rfl) ?_
  refine Gq.st 10 rfl (by kernel_rfl) rfl .plain rfl (fun _ _ _ h => h) ⟨hB4, hB22, hT14, E⟩ (fun w' x => Still.extract rfl rfl) ?_
  refine Gq.one 11 rfl (by kernel_rfl) ?_
  refine Sq.assign .plain rfl rfl ?_
  refine Sq.nil ?_
  refine Eq.goes (fun h => absurd h (by decide)) ?_
  refine Gq.one 12 rfl (by kernel_rfl) ?_
  refine Sq.assign .plain rfl rfl ?_
  refine Sq.nil ?_
  refine Eq.goes (fun h => absurd h (by decide)) ?_
  refine Gq.done (by kernel_rfl) ?_
  refine Eq.next ?_
  refine Cq.ret ?_
  refine Eq.ret2 rfl rfl rfl ?_
  exact ⟨rfl, E⟩
end Go.Proofs.Ytdejmfkpohgamaa
set_option linter.unusedSimpArgs false
set_option linter.unusedVariables false
namespace Go.Proofs.Ytdejmfkpohgamaa
open Go.RowKit
set_option maxRecDepth 100000 in
theorem fb1_c (w0 : World) (q y0 : Int) (a b : A) (bs bn bt b1 b2 : Nat) (xs ys : List Int) (hS : Blk w0 bs 57 [Value.slice (some ⟨b1, 0, none⟩) a.next.length a.next.length]) (hN : Blk w0 bn 3 [Value.int .i64 (List.length b.next : Int)]) (hT : Blk w0 bt 57 [Value.slice (some ⟨b2, 0, none⟩) b.next.length b.next.length]) (h1 : Blk w0 b1 62 (xs.map (Value.int .i64))) (h2 : Blk w0 b2 62 (ys.map (Value.int .i64))) (hTab : Tab a xs) (hTab' : Tab b ys) (hv : validA a = true) (hv' : validA b = true) (hq : InP a b q) (hx : 0 ≤ y0 ∧ y0 < 6) : Ret Try.prog 102 #[Value.int .i64 q, Value.int .i64 y0, Value.slice none 0 0, Value.pointer (some ⟨bs, 0, none⟩), Value.pointer (some ⟨bn, 0, none⟩), Value.pointer (some ⟨bt, 0, none⟩)] w0 (fun v w => Own w w0.heap.size 3 v [Value.int .i64 (fP a b q y0)] ∧ Ext w0 w) := by
  have E := Ext.refl w0
  have hz := zero_in hv'
  have hz2 := (validA_spec.1 hv').2.1
  have hdv : (0 ≤ q / (List.length b.next : Int) ∧ q / (List.length b.next : Int) < (a.next.length : Int)) ∧ 0 ≤ q % (List.length b.next : Int) ∧ q % (List.length b.next : Int) < (List.length b.next : Int) := inP_div hv' hq
  have hmu := fP_mul hv hv' hq hx
  have hg2 : 0 ≤ goA b (q % (List.length b.next : Int)) y0 ∧ goA b (q % (List.length b.next : Int)) y0 < b.next.length := goA_in hv' hdv.2 hx
  have hqb : 0 ≤ q ∧ q ≤ 144 := ⟨hq.1, by have h8 := hq.2; have h9 := le144 hv hv'; omega⟩
  refine Ret.of (args := [Value.int .i64 q, Value.int .i64 y0, Value.slice none 0 0, Value.pointer (some ⟨bs, 0, none⟩), Value.pointer (some ⟨bn, 0, none⟩), Value.pointer (some ⟨bt, 0, none⟩)]) Try.func102 rfl rfl rfl ?_
  rintro _ rfl
  show Cq _ _ _ _ [(0, Value.int .i64 q), (1, Value.int .i64 y0), (2, Value.slice none 0 0), (3, Value.pointer (some ⟨bs, 0, none⟩)), (4, Value.pointer (some ⟨bn, 0, none⟩)), (5, Value.pointer (some ⟨bt, 0, none⟩))] _
  refine Cq.seq ?_
  refine Cq.region ?_
  refine Sq.assign .plain rfl rfl ?_
  refine Sq.nil ?_
  refine Eq.next ?_
  refine Cq.seq ?_
  refine Cq.drawS 22 (fun w' => Blk w' bs 57 [Value.slice (some ⟨b1, 0, none⟩) a.next.length a.next.length] ∧ Blk w' bn 3 [Value.int .i64 (List.length b.next : Int)] ∧ Blk w' bt 57 [Value.slice (some ⟨b2, 0, none⟩) b.next.length b.next.length] ∧ Blk w' b1 62 (xs.map (Value.int .i64)) ∧ Blk w' b2 62 (ys.map (Value.int .i64)) ∧ Ext w0 w') mixed (⟨hS, hN, hT, h1, h2, E⟩) (fun w1 e2 hS => ?_)
  clear hS
  have hs3 := Below.size e2
  replace E := E.trans e2
  replace hS := hS.ext e2
  replace hN := hN.ext e2
  replace hT := hT.ext e2
  replace h1 := h1.ext e2
  replace h2 := h2.ext e2
  refine Gq.st 0 rfl (by kernel_rfl) rfl .plain rfl (fun _ _ _ h => h) ⟨hS, hN, hT, h1, h2, E⟩ (fun w' x => Still.move rfl) ?_
  refine Gq.st 1 rfl (by kernel_rfl) rfl .plain rfl (fun _ _ _ h => h) ⟨hS, hN, hT, h1, h2, E⟩ (fun w' x => Still.loadB one57 rfl x.1 rfl) ?_
  refine Gq.st 2 rfl (by kernel_rfl) rfl .plain rfl (fun _ _ _ h => h) ⟨hS, hN, hT, h1, h2, E⟩ (fun w' x => Still.move rfl) ?_
  refine Gq.st 3 rfl (by kernel_rfl) rfl .plain rfl (fun _ _ _ h => h) ⟨hS, hN, hT, h1, h2, E⟩ (fun w' x => Still.loadB one3 rfl x.2.1 rfl) ?_
  refine Gq.st 4 rfl (by kernel_rfl) rfl .plain rfl (fun _ _ _ h => h) ⟨hS, hN, hT, h1, h2, E⟩ (fun w' x => Still.quo rfl rfl (by omega)) ?_
  refine Gq.st 5 rfl (by kernel_rfl) rfl .plain rfl (fun _ _ _ h => h) ⟨hS, hN, hT, h1, h2, E⟩ (fun w' x => Still.move rfl) ?_
  refine Gq.st 6 rfl (by kernel_rfl) rfl .plain rfl (fun _ _ _ h => h) ⟨hS, hN, hT, h1, h2, E⟩ (fun w' x => Still.ixS slk57 rfl rfl (by omega) (by omega)) ?_
  refine Gq.st 7 rfl (by kernel_rfl) rfl .plain rfl (fun _ _ _ h => h) ⟨hS, hN, hT, h1, h2, E⟩ (fun w' x => Still.ixA ar62 rfl rfl (by omega) (by omega)) ?_
  refine Gq.st 8 rfl (by kernel_rfl) rfl .plain rfl (fun _ _ _ h => h) ⟨hS, hN, hT, h1, h2, E⟩ (fun w' x => Still.loadB one3 rfl x.2.2.2.1 (by rw [Nat.zero_add, List.getElem?_map, hTab.2 (q / (List.length b.next : Int)) y0 (by first | omega | assumption) (by omega)]; rfl)) ?_
  refine Gq.st 9 rfl (by kernel_rfl) rfl .plain rfl (fun _ _ _ h => h) ⟨hS, hN, hT, h1, h2, E⟩ (fun w' x => Still.loadB one3 rfl x.2.1 rfl) ?_
  refine Gq.st 10 rfl (by kernel_rfl) rfl .plain rfl (fun _ _ _ h => h) ⟨hS, hN, hT, h1, h2, E⟩ (fun w' x => Still.mul rfl rfl (by omega)) ?_
  refine Gq.st 11 rfl (by kernel_rfl) rfl .plain rfl (fun _ _ _ h => h) ⟨hS, hN, hT, h1, h2, E⟩ (fun w' x => Still.loadB one57 rfl x.2.2.1 rfl) ?_
  refine Gq.st 12 rfl (by kernel_rfl) rfl .plain rfl (fun _ _ _ h => h) ⟨hS, hN, hT, h1, h2, E⟩ (fun w' x => Still.move rfl) ?_
  refine Gq.st 13 rfl (by kernel_rfl) rfl .plain rfl (fun _ _ _ h => h) ⟨hS, hN, hT, h1, h2, E⟩ (fun w' x => Still.loadB one3 rfl x.2.1 rfl) ?_
  refine Gq.st 14 rfl (by kernel_rfl) rfl .plain rfl (fun _ _ _ h => h) ⟨hS, hN, hT, h1, h2, E⟩ (fun w' x => Still.rem rfl rfl (by omega)) ?_
  refine Gq.st 15 rfl (by kernel_rfl) rfl .plain rfl (fun _ _ _ h => h) ⟨hS, hN, hT, h1, h2, E⟩ (fun w' x => Still.move rfl) ?_
  refine Gq.st 16 rfl (by kernel_rfl) rfl .plain rfl (fun _ _ _ h => h) ⟨hS, hN, hT, h1, h2, E⟩ (fun w' x => Still.ixS slk57 rfl rfl (by omega) (by omega)) ?_
  refine Gq.st 17 rfl (by kernel_rfl) rfl .plain rfl (fun _ _ _ h => h) ⟨hS, hN, hT, h1, h2, E⟩ (fun w' x => Still.ixA ar62 rfl rfl (by omega) (by omega)) ?_
  refine Gq.st 18 rfl (by kernel_rfl) rfl .plain rfl (fun _ _ _ h => h) ⟨hS, hN, hT, h1, h2, E⟩ (fun w' x => Still.loadB one3 rfl x.2.2.2.2.1 (by rw [Nat.zero_add, List.getElem?_map, hTab'.2 (q % (List.length b.next : Int)) y0 (by first | omega | assumption) (by omega)]; rfl)) ?_
  refine Gq.st 19 rfl (by kernel_rfl) rfl .plain rfl (fun _ _ _ h => h) ⟨hS, hN, hT, h1, h2, E⟩ (fun w' x => Still.add rfl rfl (by omega)) ?_
  refine Gq.one 20 rfl (by kernel_rfl) ?_
  refine Sq.lit sl56 rfl rfl .plain rfl rfl (one_cons rfl one_nil) (fun b4 w5 e6 hlo7 ho8 _ => ?_)
  replace ho8 := ho8 w1.heap.size (Nat.le_refl _)
  have hs10 := Below.size e6
  replace E := E.trans e6
  replace hS := hS.ext e6
  replace hN := hN.ext e6
  replace hT := hT.ext e6
  replace h1 := h1.ext e6
  replace h2 := h2.ext e6
  refine Sq.nil ?_
  refine Eq.goes (fun _ => ⟨hS, hN, hT, h1, h2, E⟩) ?_
  refine Gq.one 21 rfl (by kernel_rfl) ?_
  refine Sq.app sl56 (Own.nil w5 (w0.heap.size) 3) (by omega) (Own.row ho8) (one_cons rfl one_nil) (by simp) .plain rfl rfl rfl rfl (fun v11 w12 ho14 g13 => ?_)
  have hs15 := g13.size
  have e16 := Ext.of_grown g13
  have hs17 := Below.size e16
  replace E := E.trans e16
  replace hS := hS.ext e16
  replace hN := hN.ext e16
  replace hT := hT.ext e16
  replace h1 := h1.ext e16
  replace h2 := h2.ext e16
  refine Sq.nil ?_
  refine Eq.goes (fun _ => ⟨hS, hN, hT, h1, h2, E⟩) ?_
  refine Gq.one 22 rfl (by kernel_rfl) ?_
  refine Sq.assign .plain rfl rfl ?_
  refine Sq.nil ?_
  refine Eq.goes (fun h => absurd h (by decide)) ?_
  refine Gq.done (by kernel_rfl) ?_
  refine Eq.next ?_
  refine Cq.ret ?_
  refine Eq.ret1 rfl rfl ?_
  exact ⟨by simpa [fP] using ho14, E⟩
set_option maxRecDepth 100000 in
theorem fb2_c (w0 : World) (q : Int) (a b : A) (nx ac nx' ac' gv : Value) (g : Bool → Bool → Bool) (bg ba bn bb : Nat) (hG : Blk w0 bg 85 [gv]) (hA : Blk w0 ba 26 [Value.int .i64 a.al, nx, ac]) (hN : Blk w0 bn 3 [Value.int .i64 (List.length b.next : Int)]) (hB : Blk w0 bb 26 [Value.int .i64 b.al, nx', ac']) (hac : Bools w0 4 ac a.acc) (hac' : Bools w0 4 ac' b.acc) (hgo : BClo Try.prog w0 gv g) (hv : validA a = true) (hv' : validA b = true) (hq : InP a b q) : Ret Try.prog 103 #[Value.int .i64 q, Value.pointer (some ⟨bg, 0, none⟩), Value.pointer (some ⟨ba, 0, none⟩), Value.pointer (some ⟨bn, 0, none⟩), Value.pointer (some ⟨bb, 0, none⟩)] w0 (fun v w => v = .bool (g (accA a (q / (List.length b.next : Int))) (accA b (q % (List.length b.next : Int)))) ∧ Ext w0 w) := by
  have E := Ext.refl w0
  obtain ⟨kg, fg, cg, hgv, hFg, hgoal⟩ := hgo
  have hz := zero_in hv'
  have hz1 := (validA_spec.1 hv).2
  have hz2 := (validA_spec.1 hv').2
  have hdv : (0 ≤ q / (List.length b.next : Int) ∧ q / (List.length b.next : Int) < (a.next.length : Int)) ∧ 0 ≤ q % (List.length b.next : Int) ∧ q % (List.length b.next : Int) < (List.length b.next : Int) := inP_div hv' hq
  have hqb : 0 ≤ q ∧ q ≤ 144 := ⟨hq.1, by have h8 := hq.2; have h9 := le144 hv hv'; omega⟩
  refine Ret.of (args := [Value.int .i64 q, Value.pointer (some ⟨bg, 0, none⟩), Value.pointer (some ⟨ba, 0, none⟩), Value.pointer (some ⟨bn, 0, none⟩), Value.pointer (some ⟨bb, 0, none⟩)]) Try.func103 rfl rfl rfl ?_
  rintro _ rfl
  show Cq _ _ _ _ [(0, Value.int .i64 q), (1, Value.pointer (some ⟨bg, 0, none⟩)), (2, Value.pointer (some ⟨ba, 0, none⟩)), (3, Value.pointer (some ⟨bn, 0, none⟩)), (4, Value.pointer (some ⟨bb, 0, none⟩))] _
  refine Cq.seq ?_
  refine Cq.region ?_
  refine Sq.assign .plain rfl rfl ?_
  refine Sq.nil ?_
  refine Eq.next ?_
  refine Cq.seq ?_
  obtain ⟨phpA, hpA⟩ := Bools.at hac (i := q / (List.length b.next : Int)) (by omega) (by omega)
  obtain ⟨phpB, hpB⟩ := Bools.at hac' (i := q % (List.length b.next : Int)) (by omega) (by omega)
  refine Cq.drawS 16 (fun w' => Blk w' bg 85 [gv] ∧ Blk w' ba 26 [Value.int .i64 a.al, nx, ac] ∧ Blk w' bn 3 [Value.int .i64 (List.length b.next : Int)] ∧ Blk w' bb 26 [Value.int .i64 b.al, nx', ac'] ∧ At w' 4 ac (q / (List.length b.next : Int)) phpA (.bool (a.acc.getD (q / (List.length b.next : Int)).toNat false)) ∧ At w' 4 ac' (q % (List.length b.next : Int)) phpB (.bool (b.acc.getD (q % (List.length b.next : Int)).toNat false)) ∧ Ext w0 w') mixed (⟨hG, hA, hN, hB, hpA, hpB, E⟩) (fun w1 e2 hS => ?_)
  clear hS
  have hs3 := Below.size e2
  replace E := E.trans e2
  replace hG := hG.ext e2
  replace hA := hA.ext e2
  replace hN := hN.ext e2
  replace hB := hB.ext e2
  replace hpA := hpA.ext e2
  replace hpB := hpB.ext e2
  refine Gq.st 0 rfl (by kernel_rfl) rfl .plain rfl (fun _ _ _ h => h) ⟨hG, hA, hN, hB, hpA, hpB, E⟩ (fun w' x => Still.loadB one85 rfl x.1 rfl) ?_
  refine Gq.st 1 rfl (by kernel_rfl) rfl .plain rfl (fun _ _ _ h => h) ⟨hG, hA, hN, hB, hpA, hpB, E⟩ (fun w' x => Still.fieldAddr fld26_2 rfl) ?_
  refine Gq.st 2 rfl (by kernel_rfl) rfl .plain rfl (fun _ _ _ h => h) ⟨hG, hA, hN, hB, hpA, hpB, E⟩ (fun w' x => Still.loadB one24 rfl x.2.1 rfl) ?_
  refine Gq.st 3 rfl (by kernel_rfl) rfl .plain rfl (fun _ _ _ h => h) ⟨hG, hA, hN, hB, hpA, hpB, E⟩ (fun w' x => Still.move rfl) ?_
  refine Gq.st 4 rfl (by kernel_rfl) rfl .plain rfl (fun _ _ _ h => h) ⟨hG, hA, hN, hB, hpA, hpB, E⟩ (fun w' x => Still.loadB one3 rfl x.2.2.1 rfl) ?_
  refine Gq.st 5 rfl (by kernel_rfl) rfl .plain rfl (fun _ _ _ h => h) ⟨hG, hA, hN, hB, hpA, hpB, E⟩ (fun w' x => Still.quo rfl rfl (by omega)) ?_
  refine Gq.st 6 rfl (by kernel_rfl) rfl .plain rfl (fun _ _ _ h => h) ⟨hG, hA, hN, hB, hpA, hpB, E⟩ (fun w' x => Still.at' sl24 hpA rfl rfl) ?_
  refine Gq.st 7 rfl (by kernel_rfl) rfl .plain rfl (fun _ _ _ h => h) ⟨hG, hA, hN, hB, hpA, hpB, E⟩ (fun w' x => Still.loadA one4 rfl (x.2.2.2.2.1).1) ?_
  refine Gq.st 8 rfl (by kernel_rfl) rfl .plain rfl (fun _ _ _ h => h) ⟨hG, hA, hN, hB, hpA, hpB, E⟩ (fun w' x => Still.fieldAddr fld26_2 rfl) ?_
  refine Gq.st 9 rfl (by kernel_rfl) rfl .plain rfl (fun _ _ _ h => h) ⟨hG, hA, hN, hB, hpA, hpB, E⟩ (fun w' x => Still.loadB one24 rfl x.2.2.2.1 rfl) ?_
  refine Gq.st 10 rfl (by kernel_rfl) rfl .plain rfl (fun _ _ _ h => h) ⟨hG, hA, hN, hB, hpA, hpB, E⟩ (fun w' x => Still.move rfl) ?_
  refine Gq.st 11 rfl (by kernel_rfl) rfl .plain rfl (fun _ _ _ h => h) ⟨hG, hA, hN, hB, hpA, hpB, E⟩ (fun w' x => Still.loadB one3 rfl x.2.2.1 rfl) ?_
  refine Gq.st 12 rfl (by kernel_rfl) rfl .plain rfl (fun _ _ _ h => h) ⟨hG, hA, hN, hB, hpA, hpB, E⟩ (fun w' x => Still.rem rfl rfl (by omega)) ?_
  refine Gq.st 13 rfl (by kernel_rfl) rfl .plain rfl (fun _ _ _ h => h) ⟨hG, hA, hN, hB, hpA, hpB, E⟩ (fun w' x => Still.at' sl24 hpB rfl rfl) ?_
  refine Gq.st 14 rfl (by kernel_rfl) rfl .plain rfl (fun _ _ _ h => h) ⟨hG, hA, hN, hB, hpA, hpB, E⟩ (fun w' x => Still.loadA one4 rfl (x.2.2.2.2.2.1).1) ?_
  refine Gq.one 15 rfl (by kernel_rfl) ?_
  refine Sq.callC hFg .plain rfl (by rw [← hgv]; rfl) rfl (hgoal _ _ _ E) ?_
  rintro _ w4 ⟨rfl, e5⟩
  have hs6 := Below.size e5
  replace E := E.trans e5
  replace hG := hG.ext e5
  replace hA := hA.ext e5
  replace hN := hN.ext e5
  replace hB := hB.ext e5
  replace hpA := hpA.ext e5
  replace hpB := hpB.ext e5
  refine Sq.nil ?_
  refine Eq.goes (fun _ => ⟨hG, hA, hN, hB, hpA, hpB, E⟩) ?_
  refine Gq.one 16 rfl (by kernel_rfl) ?_
  refine Sq.assign .plain rfl rfl ?_
  refine Sq.nil ?_
  refine Eq.goes (fun h => absurd h (by decide)) ?_
  refine Gq.done (by kernel_rfl) ?_
  refine Eq.next ?_
  refine Cq.ret ?_
  refine Eq.ret1 rfl rfl ?_
  exact ⟨rfl, E⟩
set_option maxHeartbeats 1000000 in
set_option maxRecDepth 100000 in
theorem firstOfBoth_c (w0 : World) (a b : A) (nx ac nx' ac' : Value) (hnx : Rows w0 56 3 nx a.next) (hac : Bools w0 4 ac a.acc) (hnx' : Rows w0 56 3 nx' b.next) (hac' : Bools w0 4 ac' b.acc) (gv : Value) (g : Bool → Bool → Bool) (hgo : BClo Try.prog w0 gv g) (i0 j0 : Int) (hv : validA a = true) (hv' : validA b = true) (hp : In2 a b (i0, j0)) : Ret Try.prog 77 #[Value.agg #[Value.int .i64 a.al, nx, ac], Value.agg #[Value.int .i64 b.al, nx', ac'], Value.int .i64 i0, Value.int .i64 j0, gv] w0 (fun v w => v = resW (firstAB a b (i0, j0) g) ∧ Ext w0 w) := by
  have E := Ext.refl w0
  have hal := (validA_spec.1 hv).1
  have h144 := le144 hv hv'
  have hz1 := (validA_spec.1 hv).2
  have hz2 := (validA_spec.1 hv').2
  have hp1 := hp.1
  have hp2 := hp.2
  simp only at hp1 hp2
  have hee := inP_enc (p := (i0, j0)) hp
  unfold InP enc2 at hee
  simp only at hee
  have hm1 := mul144 hv hv'
  have hm2 := (Int.mul_nonneg (a := i0) (b := (List.length b.next : Int)) (by omega) (by omega))
  refine Ret.of (args := [Value.agg #[Value.int .i64 a.al, nx, ac], Value.agg #[Value.int .i64 b.al, nx', ac'], Value.int .i64 i0, Value.int .i64 j0, gv]) Try.func77 rfl rfl rfl ?_
  rintro _ rfl
  show Cq _ _ _ _ [(0, Value.agg #[Value.int .i64 a.al, nx, ac]), (1, Value.agg #[Value.int .i64 b.al, nx', ac']), (2, Value.int .i64 i0), (3, Value.int .i64 j0), (4, gv)] _
  refine Cq.seq ?_
  refine Cq.region ?_
  refine Sq.box .plain rfl rfl (fun b1 w2 e3 hB4 hlo5 => ?_)
  have hd6 := Nat.le_trans (Below.size E) hlo5
  have hs7 := Below.size e3
  replace E := E.trans e3
  refine Sq.box .plain rfl rfl (fun b8 w9 e10 hB11 hlo12 => ?_)
  have hd13 := Nat.le_trans (Below.size E) hlo12
  have hd14 := Nat.lt_of_lt_of_le hB4.lt hlo12
  have hs15 := Below.size e10
  replace E := E.trans e10
  replace hB4 := hB4.ext e10
  refine Sq.box1 .plain rfl rfl (BClo.one hgo) (fun b16 w17 e18 hB19 hlo20 => ?_)
  have hd21 := Nat.le_trans (Below.size E) hlo20
  have hd22 := Nat.lt_of_lt_of_le hB4.lt hlo20
  have hd23 := Nat.lt_of_lt_of_le hB11.lt hlo20
  have hs24 := Below.size e18
  replace E := E.trans e18
  replace hB4 := hB4.ext e18
  replace hB11 := hB11.ext e18
  refine Sq.assign .plain rfl rfl ?_
  refine Sq.assign .plain rfl rfl ?_
  refine Sq.nil ?_
  refine Eq.next ?_
  refine Cq.seq ?_
  refine Cq.cut (fun ls w => ∃ (c8 : Nat), ∃ (c9 : Nat), ∃ (t1 : Nat), ∃ (t2 : Nat), ∃ (xs : List Int), ∃ (ys0 : List Int), ls = [(2, Value.int .i64 i0), (3, Value.int .i64 j0), (5, Value.pointer (some ⟨b1, 0, none⟩)), (6, Value.pointer (some ⟨b8, 0, none⟩)), (9, Value.pointer (some ⟨b16, 0, none⟩)), (12, Value.pointer (some ⟨c8, 0, none⟩)), (13, Value.pointer (some ⟨c9, 0, none⟩))] ∧ Blk w c8 57 [Value.slice (some ⟨t1, 0, none⟩) a.next.length a.next.length] ∧ Blk w c9 57 [Value.slice (some ⟨t2, 0, none⟩) b.next.length b.next.length] ∧ Blk w t1 62 (xs.map (Value.int .i64)) ∧ Blk w t2 62 (ys0.map (Value.int .i64)) ∧ Tab a xs ∧ Tab b ys0 ∧ (b1 < c8 ∧ b1 < c9 ∧ b1 < t1 ∧ b1 < t2 ∧ b8 < c8 ∧ b8 < c9 ∧ b8 < t1 ∧ b8 < t2 ∧ b16 < c8 ∧ b16 < c9 ∧ b16 < t1 ∧ b16 < t2) ∧ Ext w0 w ∧ Blk w b1 26 [Value.int .i64 a.al, nx, ac] ∧ Blk w b8 26 [Value.int .i64 b.al, nx', ac'] ∧ Blk w b16 85 [gv]) ?_ ?_
  · refine Cq.drawS 7 (fun w' => Blk w' b1 26 [Value.int .i64 a.al, nx, ac] ∧ Blk w' b8 26 [Value.int .i64 b.al, nx', ac']) mixed (⟨hB4, hB11⟩) (fun w25 e26 hS => ?_)
    clear hS
    have hs27 := Below.size e26
    replace E := E.trans e26
    replace hB4 := hB4.ext e26
    replace hB11 := hB11.ext e26
    replace hB19 := hB19.ext e26
    refine Gq.st 0 rfl (by kernel_rfl) rfl .plain rfl (fun _ _ _ h => h) ⟨hB4, hB11⟩ (fun w' x => Still.loadAgg agg26 rfl x.1 rfl) ?_
    refine Gq.st 2 rfl (by kernel_rfl) rfl .plain rfl (fun _ _ _ h => h) ⟨hB4, hB11⟩ (fun w' x => Still.loadAgg agg26 rfl x.2 rfl) ?_
    refine Gq.three 1 4 5 rfl rfl rfl (by kernel_rfl) ?_ ?_ ?_
    · have hd36 := hB4.lt
      have hd37 := hB11.lt
      have hd38 := hB19.lt
      refine Sq.call fn48 .plain rfl rfl (tableOf_c _ a _ _ (hnx.ext E) (hac.ext E) hv) ?_
      rintro _ w29 ⟨⟨b31, xs32, rfl, hlo33, hT34, hTab35⟩, e30⟩
      have hs39 := Below.size E
      have hs40 := Below.size e30
      replace E := E.trans e30
      replace hB4 := hB4.ext e30
      replace hB11 := hB11.ext e30
      replace hB19 := hB19.ext e30
      refine Sq.nil ?_
      refine Eq.goes (fun _ => ⟨hB4, hB11⟩) ?_
      refine Gq.three 3 4 5 rfl rfl rfl (by kernel_rfl) ?_ ?_ ?_
      · have hd49 := hB4.lt
        have hd50 := hB11.lt
        have hd51 := hB19.lt
        have hd52 := hT34.lt
        refine Sq.call fn48 .plain rfl rfl (tableOf_c _ b _ _ (hnx'.ext E) (hac'.ext E) hv') ?_
        rintro _ w42 ⟨⟨b44, xs45, rfl, hlo46, hT47, hTab48⟩, e43⟩
        have hs53 := Below.size E
        have hs54 := Below.size e43
        replace E := E.trans e43
        replace hB4 := hB4.ext e43
        replace hB11 := hB11.ext e43
        replace hB19 := hB19.ext e43
        replace hT34 := hT34.ext e43
        refine Sq.nil ?_
        refine Eq.goes (fun _ => ⟨hB4, hB11⟩) ?_
        refine Gq.two 4 5 rfl rfl (by kernel_rfl) ?_ ?_
        · refine Sq.alloc1 zero57 rfl .plain rfl (fun b55 w56 e57 hB58 hlo59 => ?_)
          have hd60 := Nat.le_trans (Below.size E) hlo59
          have hd61 := Nat.lt_of_lt_of_le hB4.lt hlo59
          have hd62 := Nat.lt_of_lt_of_le hB11.lt hlo59
          have hd63 := Nat.lt_of_lt_of_le hB19.lt hlo59
          have hd64 := Nat.lt_of_lt_of_le hT34.lt hlo59
          have hd65 := Nat.lt_of_lt_of_le hT47.lt hlo59
          have hs66 := Below.size e57
          replace E := E.trans e57
          replace hB4 := hB4.ext e57
          replace hB11 := hB11.ext e57
          replace hB19 := hB19.ext e57
          replace hT34 := hT34.ext e57
          replace hT47 := hT47.ext e57
          refine Sq.nil ?_
          refine Eq.goes (fun _ => ⟨hB4, hB11⟩) ?_
          refine Gq.one 5 rfl (by kernel_rfl) ?_
          refine Sq.alloc1 zero57 rfl .plain rfl (fun b67 w68 e69 hB70 hlo71 => ?_)
          have hd72 := Nat.le_trans (Below.size E) hlo71
          have hd73 := Nat.lt_of_lt_of_le hB4.lt hlo71
          have hd74 := Nat.lt_of_lt_of_le hB11.lt hlo71
          have hd75 := Nat.lt_of_lt_of_le hB19.lt hlo71
          have hd76 := Nat.lt_of_lt_of_le hT34.lt hlo71
          have hd77 := Nat.lt_of_lt_of_le hT47.lt hlo71
          have hd78 := Nat.lt_of_lt_of_le hB58.lt hlo71
          have hs79 := Below.size e69
          replace E := E.trans e69
          replace hB4 := hB4.ext e69
          replace hB11 := hB11.ext e69
          replace hB19 := hB19.ext e69
          replace hT34 := hT34.ext e69
          replace hT47 := hT47.ext e69
          replace hB58 := hB58.ext e69
          refine Sq.nil ?_
          refine Eq.goes (fun _ => ⟨hB4, hB11⟩) ?_
          refine Gq.one 6 rfl (by kernel_rfl) ?_
          refine Sq.store one57 .plain rfl rfl rfl hB58 (by simp) (fun w80 g81 hB82 => ?_)
          have hs83 := World.grownBy.size g81
          replace E := E.grown g81 (fun k hk => by injection hk with hk; subst hk; omega)
          replace hB4 := hB4.grown g81 (by intro h; injection h with h; omega)
          replace hB11 := hB11.grown g81 (by intro h; injection h with h; omega)
          replace hB19 := hB19.grown g81 (by intro h; injection h with h; omega)
          replace hT34 := hT34.grown g81 (by intro h; injection h with h; omega)
          replace hT47 := hT47.grown g81 (by intro h; injection h with h; omega)
          replace hB70 := hB70.grown g81 (by intro h; injection h with h; omega)
          replace hB58 := hB82
          refine Sq.nil ?_
          refine Eq.goes (fun _ => ⟨hB4, hB11⟩) ?_
          refine Gq.one 7 rfl (by kernel_rfl) ?_
          refine Sq.store one57 .plain rfl rfl rfl hB70 (by simp) (fun w84 g85 hB86 => ?_)
          have hs87 := World.grownBy.size g85
          replace E := E.grown g85 (fun k hk => by injection hk with hk; subst hk; omega)
          replace hB4 := hB4.grown g85 (by intro h; injection h with h; omega)
          replace hB11 := hB11.grown g85 (by intro h; injection h with h; omega)
          replace hB19 := hB19.grown g85 (by intro h; injection h with h; omega)
          replace hT34 := hT34.grown g85 (by intro h; injection h with h; omega)
          replace hT47 := hT47.grown g85 (by intro h; injection h with h; omega)
          replace hB58 := hB58.grown g85 (by intro h; injection h with h; omega)
          replace hB70 := hB86
          refine Sq.nil ?_
          refine Eq.goes (fun h => absurd h (by decide)) ?_
          refine Gq.done (by kernel_rfl) ?_
          refine Eq.left _ ⟨b55, b67, _, _, _, _, rfl, hB58, hB70, hT34, hT47, hTab35, hTab48, by omega, E, hB4, hB11, hB19⟩ (.cons rfl (.cons rfl (.cons rfl (.cons rfl (.cons rfl (.cons rfl (.cons rfl (.nil))))))))
        refine Sq.alloc1 zero57 rfl .plain rfl (fun b88 w89 e90 hB91 hlo92 => ?_)
        have hd93 := Nat.le_trans (Below.size E) hlo92
        have hd94 := Nat.lt_of_lt_of_le hB4.lt hlo92
        have hd95 := Nat.lt_of_lt_of_le hB11.lt hlo92
        have hd96 := Nat.lt_of_lt_of_le hB19.lt hlo92
        have hd97 := Nat.lt_of_lt_of_le hT34.lt hlo92
        have hd98 := Nat.lt_of_lt_of_le hT47.lt hlo92
        have hs99 := Below.size e90
        replace E := E.trans e90
        replace hB4 := hB4.ext e90
        replace hB11 := hB11.ext e90
        replace hB19 := hB19.ext e90
        replace hT34 := hT34.ext e90
        replace hT47 := hT47.ext e90
        refine Sq.nil ?_
        refine Eq.goes (fun _ => ⟨hB4, hB11⟩) ?_
        refine Gq.one 4 rfl (by kernel_rfl) ?_
        refine Sq.alloc1 zero57 rfl .plain rfl (fun b100 w101 e102 hB103 hlo104 => ?_)
        have hd105 := Nat.le_trans (Below.size E) hlo104
        have hd106 := Nat.lt_of_lt_of_le hB4.lt hlo104
        have hd107 := Nat.lt_of_lt_of_le hB11.lt hlo104
        have hd108 := Nat.lt_of_lt_of_le hB19.lt hlo104
        have hd109 := Nat.lt_of_lt_of_le hT34.lt hlo104
        have hd110 := Nat.lt_of_lt_of_le hT47.lt hlo104
        have hd111 := Nat.lt_of_lt_of_le hB91.lt hlo104
        have hs112 := Below.size e102
        replace E := E.trans e102
        replace hB4 := hB4.ext e102
        replace hB11 := hB11.ext e102
        replace hB19 := hB19.ext e102
        replace hT34 := hT34.ext e102
        replace hT47 := hT47.ext e102
        replace hB91 := hB91.ext e102
        refine Sq.nil ?_
        refine Eq.goes (fun _ => ⟨hB4, hB11⟩) ?_
        refine Gq.one 6 rfl (by kernel_rfl) ?_
        refine Sq.store one57 .plain rfl rfl rfl hB103 (by simp) (fun w113 g114 hB115 => ?_)
        have hs116 := World.grownBy.size g114
        replace E := E.grown g114 (fun k hk => by injection hk with hk; subst hk; omega)
        replace hB4 := hB4.grown g114 (by intro h; injection h with h; omega)
        replace hB11 := hB11.grown g114 (by intro h; injection h with h; omega)
        replace hB19 := hB19.grown g114 (by intro h; injection h with h; omega)
        replace hT34 := hT34.grown g114 (by intro h; injection h with h; omega)
        replace hT47 := hT47.grown g114 (by intro h; injection h with h; omega)
        replace hB91 := hB91.grown g114 (by intro h; injection h with h; omega)
        replace hB103 := hB115
        refine Sq.nil ?_
        refine Eq.goes (fun _ => ⟨hB4, hB11⟩) ?_
        refine Gq.one 7 rfl (by kernel_rfl) ?_
        refine Sq.store one57 .plain rfl rfl rfl hB91 (by simp) (fun w117 g118 hB119 => ?_)
        have hs120 := World.grownBy.size g118
        replace E := E.grown g118 (fun k hk => by injection hk with hk; subst hk; omega)
        replace hB4 := hB4.grown g118 (by intro h; injection h with h; omega)
        replace hB11 := hB11.grown g118 (by intro h; injection h with h; omega)
        replace hB19 := hB19.grown g118 (by intro h; injection h with h; omega)
        replace hT34 := hT34.grown g118 (by intro h; injection h with h; omega)
        replace hT47 := hT47.grown g118 (by intro h; injection h with h; omega)
        replace hB103 := hB103.grown g118 (by intro h; injection h with h; omega)
        replace hB91 := hB119
        refine Sq.nil ?_
        refine Eq.goes (fun h => absurd h (by decide)) ?_
        refine Gq.done (by kernel_rfl) ?_
        refine Eq.left _ ⟨b100, b88, _, _, _, _, rfl, hB103, hB91, hT34, hT47, hTab35, hTab48, by omega, E, hB4, hB11, hB19⟩ (.cons rfl (.cons rfl (.cons rfl (.cons rfl (.cons rfl (.cons rfl (.cons rfl (.nil))))))))
      · refine Sq.alloc1 zero57 rfl .plain rfl (fun b121 w122 e123 hB124 hlo125 => ?_)
        have hd126 := Nat.le_trans (Below.size E) hlo125
        have hd127 := Nat.lt_of_lt_of_le hB4.lt hlo125
        have hd128 := Nat.lt_of_lt_of_le hB11.lt hlo125
        have hd129 := Nat.lt_of_lt_of_le hB19.lt hlo125
        have hd130 := Nat.lt_of_lt_of_le hT34.lt hlo125
        have hs131 := Below.size e123
        replace E := E.trans e123
        replace hB4 := hB4.ext e123
        replace hB11 := hB11.ext e123
        replace hB19 := hB19.ext e123
        replace hT34 := hT34.ext e123
        refine Sq.nil ?_
        refine Eq.goes (fun _ => ⟨hB4, hB11⟩) ?_
        refine Gq.two 3 5 rfl rfl (by kernel_rfl) ?_ ?_
        · have hd140 := hB4.lt
          have hd141 := hB11.lt
          have hd142 := hB19.lt
          have hd143 := hT34.lt
          have hd144 := hB124.lt
          refine Sq.call fn48 .plain rfl rfl (tableOf_c _ b _ _ (hnx'.ext E) (hac'.ext E) hv') ?_
          rintro _ w133 ⟨⟨b135, xs136, rfl, hlo137, hT138, hTab139⟩, e134⟩
          have hs145 := Below.size E
          have hs146 := Below.size e134
          replace E := E.trans e134
          replace hB4 := hB4.ext e134
          replace hB11 := hB11.ext e134
          replace hB19 := hB19.ext e134
          replace hT34 := hT34.ext e134
          replace hB124 := hB124.ext e134
          refine Sq.nil ?_
          refine Eq.goes (fun _ => ⟨hB4, hB11⟩) ?_
          refine Gq.one 5 rfl (by kernel_rfl) ?_
          refine Sq.alloc1 zero57 rfl .plain rfl (fun b147 w148 e149 hB150 hlo151 => ?_)
          have hd152 := Nat.le_trans (Below.size E) hlo151
          have hd153 := Nat.lt_of_lt_of_le hB4.lt hlo151
          have hd154 := Nat.lt_of_lt_of_le hB11.lt hlo151
          have hd155 := Nat.lt_of_lt_of_le hB19.lt hlo151
          have hd156 := Nat.lt_of_lt_of_le hT34.lt hlo151
          have hd157 := Nat.lt_of_lt_of_le hB124.lt hlo151
          have hd158 := Nat.lt_of_lt_of_le hT138.lt hlo151
          have hs159 := Below.size e149
          replace E := E.trans e149
          replace hB4 := hB4.ext e149
          replace hB11 := hB11.ext e149
          replace hB19 := hB19.ext e149
          replace hT34 := hT34.ext e149
          replace hB124 := hB124.ext e149
          replace hT138 := hT138.ext e149
          refine Sq.nil ?_
          refine Eq.goes (fun _ => ⟨hB4, hB11⟩) ?_
          refine Gq.one 6 rfl (by kernel_rfl) ?_
          refine Sq.store one57 .plain rfl rfl rfl hB124 (by simp) (fun w160 g161 hB162 => ?_)
          have hs163 := World.grownBy.size g161
          replace E := E.grown g161 (fun k hk => by injection hk with hk; subst hk; omega)
          replace hB4 := hB4.grown g161 (by intro h; injection h with h; omega)
          replace hB11 := hB11.grown g161 (by intro h; injection h with h; omega)
          replace hB19 := hB19.grown g161 (by intro h; injection h with h; omega)
          replace hT34 := hT34.grown g161 (by intro h; injection h with h; omega)
          replace hT138 := hT138.grown g161 (by intro h; injection h with h; omega)
          replace hB150 := hB150.grown g161 (by intro h; injection h with h; omega)
          replace hB124 := hB162
          refine Sq.nil ?_
          refine Eq.goes (fun _ => ⟨hB4, hB11⟩) ?_
          refine Gq.one 7 rfl (by kernel_rfl) ?_
          refine Sq.store one57 .plain rfl rfl rfl hB150 (by simp) (fun w164 g165 hB166 => ?_)
          have hs167 := World.grownBy.size g165
          replace E := E.grown g165 (fun k hk => by injection hk with hk; subst hk; omega)
          replace hB4 := hB4.grown g165 (by intro h; injection h with h; omega)
          replace hB11 := hB11.grown g165 (by intro h; injection h with h; omega)
          replace hB19 := hB19.grown g165 (by intro h; injection h with h; omega)
          replace hT34 := hT34.grown g165 (by intro h; injection h with h; omega)
          replace hB124 := hB124.grown g165 (by intro h; injection h with h; omega)
          replace hT138 := hT138.grown g165 (by intro h; injection h with h; omega)
          replace hB150 := hB166
          refine Sq.nil ?_
          refine Eq.goes (fun h => absurd h (by decide)) ?_
          refine Gq.done (by kernel_rfl) ?_
          refine Eq.left _ ⟨b121, b147, _, _, _, _, rfl, hB124, hB150, hT34, hT138, hTab35, hTab139, by omega, E, hB4, hB11, hB19⟩ (.cons rfl (.cons rfl (.cons rfl (.cons rfl (.cons rfl (.cons rfl (.cons rfl (.nil))))))))
        refine Sq.alloc1 zero57 rfl .plain rfl (fun b168 w169 e170 hB171 hlo172 => ?_)
        have hd173 := Nat.le_trans (Below.size E) hlo172
        have hd174 := Nat.lt_of_lt_of_le hB4.lt hlo172
        have hd175 := Nat.lt_of_lt_of_le hB11.lt hlo172
        have hd176 := Nat.lt_of_lt_of_le hB19.lt hlo172
        have hd177 := Nat.lt_of_lt_of_le hT34.lt hlo172
        have hd178 := Nat.lt_of_lt_of_le hB124.lt hlo172
        have hs179 := Below.size e170
        replace E := E.trans e170
        replace hB4 := hB4.ext e170
        replace hB11 := hB11.ext e170
        replace hB19 := hB19.ext e170
        replace hT34 := hT34.ext e170
        replace hB124 := hB124.ext e170
        refine Sq.nil ?_
        refine Eq.goes (fun _ => ⟨hB4, hB11⟩) ?_
        refine Gq.one 3 rfl (by kernel_rfl) ?_
        have hd188 := hB4.lt
        have hd189 := hB11.lt
        have hd190 := hB19.lt
        have hd191 := hT34.lt
        have hd192 := hB124.lt
        have hd193 := hB171.lt
        refine Sq.call fn48 .plain rfl rfl (tableOf_c _ b _ _ (hnx'.ext E) (hac'.ext E) hv') ?_
        rintro _ w181 ⟨⟨b183, xs184, rfl, hlo185, hT186, hTab187⟩, e182⟩
        have hs194 := Below.size E
        have hs195 := Below.size e182
        replace E := E.trans e182
        replace hB4 := hB4.ext e182
        replace hB11 := hB11.ext e182
        replace hB19 := hB19.ext e182
        replace hT34 := hT34.ext e182
        replace hB124 := hB124.ext e182
        replace hB171 := hB171.ext e182
        refine Sq.nil ?_
        refine Eq.goes (fun _ => ⟨hB4, hB11⟩) ?_
        refine Gq.one 6 rfl (by kernel_rfl) ?_
        refine Sq.store one57 .plain rfl rfl rfl hB124 (by simp) (fun w196 g197 hB198 => ?_)
        have hs199 := World.grownBy.size g197
        replace E := E.grown g197 (fun k hk => by injection hk with hk; subst hk; omega)
        replace hB4 := hB4.grown g197 (by intro h; injection h with h; omega)
        replace hB11 := hB11.grown g197 (by intro h; injection h with h; omega)
        replace hB19 := hB19.grown g197 (by intro h; injection h with h; omega)
        replace hT34 := hT34.grown g197 (by intro h; injection h with h; omega)
        replace hB171 := hB171.grown g197 (by intro h; injection h with h; omega)
        replace hT186 := hT186.grown g197 (by intro h; injection h with h; omega)
        replace hB124 := hB198
        refine Sq.nil ?_
        refine Eq.goes (fun _ => ⟨hB4, hB11⟩) ?_
        refine Gq.one 7 rfl (by kernel_rfl) ?_
        refine Sq.store one57 .plain rfl rfl rfl hB171 (by simp) (fun w200 g201 hB202 => ?_)
        have hs203 := World.grownBy.size g201
        replace E := E.grown g201 (fun k hk => by injection hk with hk; subst hk; omega)
        replace hB4 := hB4.grown g201 (by intro h; injection h with h; omega)
        replace hB11 := hB11.grown g201 (by intro h; injection h with h; omega)
        replace hB19 := hB19.grown g201 (by intro h; injection h with h; omega)
        replace hT34 := hT34.grown g201 (by intro h; injection h with h; omega)
        replace hB124 := hB124.grown g201 (by intro h; injection h with h; omega)
        replace hT186 := hT186.grown g201 (by intro h; injection h with h; omega)
        replace hB171 := hB202
        refine Sq.nil ?_
        refine Eq.goes (fun h => absurd h (by decide)) ?_
        refine Gq.done (by kernel_rfl) ?_
        refine Eq.left _ ⟨b121, b168, _, _, _, _, rfl, hB124, hB171, hT34, hT186, hTab35, hTab187, by omega, E, hB4, hB11, hB19⟩ (.cons rfl (.cons rfl (.cons rfl (.cons rfl (.cons rfl (.cons rfl (.cons rfl (.nil))))))))
      refine Sq.alloc1 zero57 rfl .plain rfl (fun b204 w205 e206 hB207 hlo208 => ?_)
      have hd209 := Nat.le_trans (Below.size E) hlo208
      have hd210 := Nat.lt_of_lt_of_le hB4.lt hlo208
      have hd211 := Nat.lt_of_lt_of_le hB11.lt hlo208
      have hd212 := Nat.lt_of_lt_of_le hB19.lt hlo208
      have hd213 := Nat.lt_of_lt_of_le hT34.lt hlo208
      have hs214 := Below.size e206
      replace E := E.trans e206
      replace hB4 := hB4.ext e206
      replace hB11 := hB11.ext e206
      replace hB19 := hB19.ext e206
      replace hT34 := hT34.ext e206
      refine Sq.nil ?_
      refine Eq.goes (fun _ => ⟨hB4, hB11⟩) ?_
      refine Gq.two 3 4 rfl rfl (by kernel_rfl) ?_ ?_
      · have hd223 := hB4.lt
        have hd224 := hB11.lt
        have hd225 := hB19.lt
        have hd226 := hT34.lt
        have hd227 := hB207.lt
        refine Sq.call fn48 .plain rfl rfl (tableOf_c _ b _ _ (hnx'.ext E) (hac'.ext E) hv') ?_
        rintro _ w216 ⟨⟨b218, xs219, rfl, hlo220, hT221, hTab222⟩, e217⟩
        have hs228 := Below.size E
        have hs229 := Below.size e217
        replace E := E.trans e217
        replace hB4 := hB4.ext e217
        replace hB11 := hB11.ext e217
        replace hB19 := hB19.ext e217
        replace hT34 := hT34.ext e217
        replace hB207 := hB207.ext e217
        refine Sq.nil ?_
        refine Eq.goes (fun _ => ⟨hB4, hB11⟩) ?_
        refine Gq.one 4 rfl (by kernel_rfl) ?_
        refine Sq.alloc1 zero57 rfl .plain rfl (fun b230 w231 e232 hB233 hlo234 => ?_)
        have hd235 := Nat.le_trans (Below.size E) hlo234
        have hd236 := Nat.lt_of_lt_of_le hB4.lt hlo234
        have hd237 := Nat.lt_of_lt_of_le hB11.lt hlo234
        have hd238 := Nat.lt_of_lt_of_le hB19.lt hlo234
        have hd239 := Nat.lt_of_lt_of_le hT34.lt hlo234
        have hd240 := Nat.lt_of_lt_of_le hB207.lt hlo234
        have hd241 := Nat.lt_of_lt_of_le hT221.lt hlo234
        have hs242 := Below.size e232
        replace E := E.trans e232
        replace hB4 := hB4.ext e232
        replace hB11 := hB11.ext e232
        replace hB19 := hB19.ext e232
        replace hT34 := hT34.ext e232
        replace hB207 := hB207.ext e232
        replace hT221 := hT221.ext e232
        refine Sq.nil ?_
        refine Eq.goes (fun _ => ⟨hB4, hB11⟩) ?_
        refine Gq.one 6 rfl (by kernel_rfl) ?_
        refine Sq.store one57 .plain rfl rfl rfl hB233 (by simp) (fun w243 g244 hB245 => ?_)
        have hs246 := World.grownBy.size g244
        replace E := E.grown g244 (fun k hk => by injection hk with hk; subst hk; omega)
        replace hB4 := hB4.grown g244 (by intro h; injection h with h; omega)
        replace hB11 := hB11.grown g244 (by intro h; injection h with h; omega)
        replace hB19 := hB19.grown g244 (by intro h; injection h with h; omega)
        replace hT34 := hT34.grown g244 (by intro h; injection h with h; omega)
        replace hB207 := hB207.grown g244 (by intro h; injection h with h; omega)
        replace hT221 := hT221.grown g244 (by intro h; injection h with h; omega)
        replace hB233 := hB245
        refine Sq.nil ?_
        refine Eq.goes (fun _ => ⟨hB4, hB11⟩) ?_
        refine Gq.one 7 rfl (by kernel_rfl) ?_
        refine Sq.store one57 .plain rfl rfl rfl hB207 (by simp) (fun w247 g248 hB249 => ?_)
        have hs250 := World.grownBy.size g248
        replace E := E.grown g248 (fun k hk => by injection hk with hk; subst hk; omega)
        replace hB4 := hB4.grown g248 (by intro h; injection h with h; omega)
        replace hB11 := hB11.grown g248 (by intro h; injection h with h; omega)
        replace hB19 := hB19.grown g248 (by intro h; injection h with h; omega)
        replace hT34 := hT34.grown g248 (by intro h; injection h with h; omega)
        replace hT221 := hT221.grown g248 (by intro h; injection h with h; omega)
        replace hB233 := hB233.grown g248 (by intro h; injection h with h; omega)
        replace hB207 := hB249
        refine Sq.nil ?_
        refine Eq.goes (fun h => absurd h (by decide)) ?_
        refine Gq.done (by kernel_rfl) ?_
        refine Eq.left _ ⟨b230, b204, _, _, _, _, rfl, hB233, hB207, hT34, hT221, hTab35, hTab222, by omega, E, hB4, hB11, hB19⟩ (.cons rfl (.cons rfl (.cons rfl (.cons rfl (.cons rfl (.cons rfl (.cons rfl (.nil))))))))
      refine Sq.alloc1 zero57 rfl .plain rfl (fun b251 w252 e253 hB254 hlo255 => ?_)
      have hd256 := Nat.le_trans (Below.size E) hlo255
      have hd257 := Nat.lt_of_lt_of_le hB4.lt hlo255
      have hd258 := Nat.lt_of_lt_of_le hB11.lt hlo255
      have hd259 := Nat.lt_of_lt_of_le hB19.lt hlo255
      have hd260 := Nat.lt_of_lt_of_le hT34.lt hlo255
      have hd261 := Nat.lt_of_lt_of_le hB207.lt hlo255
      have hs262 := Below.size e253
      replace E := E.trans e253
      replace hB4 := hB4.ext e253
      replace hB11 := hB11.ext e253
      replace hB19 := hB19.ext e253
      replace hT34 := hT34.ext e253
      replace hB207 := hB207.ext e253
      refine Sq.nil ?_
      refine Eq.goes (fun _ => ⟨hB4, hB11⟩) ?_
      refine Gq.one 3 rfl (by kernel_rfl) ?_
      have hd271 := hB4.lt
      have hd272 := hB11.lt
      have hd273 := hB19.lt
      have hd274 := hT34.lt
      have hd275 := hB207.lt
      have hd276 := hB254.lt
      refine Sq.call fn48 .plain rfl rfl (tableOf_c _ b _ _ (hnx'.ext E) (hac'.ext E) hv') ?_
      rintro _ w264 ⟨⟨b266, xs267, rfl, hlo268, hT269, hTab270⟩, e265⟩
      have hs277 := Below.size E
      have hs278 := Below.size e265
      replace E := E.trans e265
      replace hB4 := hB4.ext e265
      replace hB11 := hB11.ext e265
      replace hB19 := hB19.ext e265
      replace hT34 := hT34.ext e265
      replace hB207 := hB207.ext e265
      replace hB254 := hB254.ext e265
      refine Sq.nil ?_
      refine Eq.goes (fun _ => ⟨hB4, hB11⟩) ?_
      refine Gq.one 6 rfl (by kernel_rfl) ?_
      refine Sq.store one57 .plain rfl rfl rfl hB254 (by simp) (fun w279 g280 hB281 => ?_)
      have hs282 := World.grownBy.size g280
      replace E := E.grown g280 (fun k hk => by injection hk with hk; subst hk; omega)
      replace hB4 := hB4.grown g280 (by intro h; injection h with h; omega)
      replace hB11 := hB11.grown g280 (by intro h; injection h with h; omega)
      replace hB19 := hB19.grown g280 (by intro h; injection h with h; omega)
      replace hT34 := hT34.grown g280 (by intro h; injection h with h; omega)
      replace hB207 := hB207.grown g280 (by intro h; injection h with h; omega)
      replace hT269 := hT269.grown g280 (by intro h; injection h with h; omega)
      replace hB254 := hB281
      refine Sq.nil ?_
      refine Eq.goes (fun _ => ⟨hB4, hB11⟩) ?_
      refine Gq.one 7 rfl (by kernel_rfl) ?_
      refine Sq.store one57 .plain rfl rfl rfl hB207 (by simp) (fun w283 g284 hB285 => ?_)
      have hs286 := World.grownBy.size g284
      replace E := E.grown g284 (fun k hk => by injection hk with hk; subst hk; omega)
      replace hB4 := hB4.grown g284 (by intro h; injection h with h; omega)
      replace hB11 := hB11.grown g284 (by intro h; injection h with h; omega)
      replace hB19 := hB19.grown g284 (by intro h; injection h with h; omega)
      replace hT34 := hT34.grown g284 (by intro h; injection h with h; omega)
      replace hB254 := hB254.grown g284 (by intro h; injection h with h; omega)
      replace hT269 := hT269.grown g284 (by intro h; injection h with h; omega)
      replace hB207 := hB285
      refine Sq.nil ?_
      refine Eq.goes (fun h => absurd h (by decide)) ?_
      refine Gq.done (by kernel_rfl) ?_
      refine Eq.left _ ⟨b251, b204, _, _, _, _, rfl, hB254, hB207, hT34, hT269, hTab35, hTab270, by omega, E, hB4, hB11, hB19⟩ (.cons rfl (.cons rfl (.cons rfl (.cons rfl (.cons rfl (.cons rfl (.cons rfl (.nil))))))))
    · refine Sq.alloc1 zero57 rfl .plain rfl (fun b287 w288 e289 hB290 hlo291 => ?_)
      have hd292 := Nat.le_trans (Below.size E) hlo291
      have hd293 := Nat.lt_of_lt_of_le hB4.lt hlo291
      have hd294 := Nat.lt_of_lt_of_le hB11.lt hlo291
      have hd295 := Nat.lt_of_lt_of_le hB19.lt hlo291
      have hs296 := Below.size e289
      replace E := E.trans e289
      replace hB4 := hB4.ext e289
      replace hB11 := hB11.ext e289
      replace hB19 := hB19.ext e289
      refine Sq.nil ?_
      refine Eq.goes (fun _ => ⟨hB4, hB11⟩) ?_
      refine Gq.two 1 5 rfl rfl (by kernel_rfl) ?_ ?_
      · have hd305 := hB4.lt
        have hd306 := hB11.lt
        have hd307 := hB19.lt
        have hd308 := hB290.lt
        refine Sq.call fn48 .plain rfl rfl (tableOf_c _ a _ _ (hnx.ext E) (hac.ext E) hv) ?_
        rintro _ w298 ⟨⟨b300, xs301, rfl, hlo302, hT303, hTab304⟩, e299⟩
        have hs309 := Below.size E
        have hs310 := Below.size e299
        replace E := E.trans e299
        replace hB4 := hB4.ext e299
        replace hB11 := hB11.ext e299
        replace hB19 := hB19.ext e299
        replace hB290 := hB290.ext e299
        refine Sq.nil ?_
        refine Eq.goes (fun _ => ⟨hB4, hB11⟩) ?_
        refine Gq.two 3 5 rfl rfl (by kernel_rfl) ?_ ?_
        · have hd319 := hB4.lt
          have hd320 := hB11.lt
          have hd321 := hB19.lt
          have hd322 := hB290.lt
          have hd323 := hT303.lt
          refine Sq.call fn48 .plain rfl rfl (tableOf_c _ b _ _ (hnx'.ext E) (hac'.ext E) hv') ?_
          rintro _ w312 ⟨⟨b314, xs315, rfl, hlo316, hT317, hTab318⟩, e313⟩
          have hs324 := Below.size E
          have hs325 := Below.size e313
          replace E := E.trans e313
          replace hB4 := hB4.ext e313
          replace hB11 := hB11.ext e313
          replace hB19 := hB19.ext e313
          replace hB290 := hB290.ext e313
          replace hT303 := hT303.ext e313
          refine Sq.nil ?_
          refine Eq.goes (fun _ => ⟨hB4, hB11⟩) ?_
          refine Gq.one 5 rfl (by kernel_rfl) ?_
          refine Sq.alloc1 zero57 rfl .plain rfl (fun b326 w327 e328 hB329 hlo330 => ?_)
          have hd331 := Nat.le_trans (Below.size E) hlo330
          have hd332 := Nat.lt_of_lt_of_le hB4.lt hlo330
          have hd333 := Nat.lt_of_lt_of_le hB11.lt hlo330
          have hd334 := Nat.lt_of_lt_of_le hB19.lt hlo330
          have hd335 := Nat.lt_of_lt_of_le hB290.lt hlo330
          have hd336 := Nat.lt_of_lt_of_le hT303.lt hlo330
          have hd337 := Nat.lt_of_lt_of_le hT317.lt hlo330
          have hs338 := Below.size e328
          replace E := E.trans e328
          replace hB4 := hB4.ext e328
          replace hB11 := hB11.ext e328
          replace hB19 := hB19.ext e328
          replace hB290 := hB290.ext e328
          replace hT303 := hT303.ext e328
          replace hT317 := hT317.ext e328
          refine Sq.nil ?_
          refine Eq.goes (fun _ => ⟨hB4, hB11⟩) ?_
          refine Gq.one 6 rfl (by kernel_rfl) ?_
          refine Sq.store one57 .plain rfl rfl rfl hB290 (by simp) (fun w339 g340 hB341 => ?_)
          have hs342 := World.grownBy.size g340
          replace E := E.grown g340 (fun k hk => by injection hk with hk; subst hk; omega)
          replace hB4 := hB4.grown g340 (by intro h; injection h with h; omega)
          replace hB11 := hB11.grown g340 (by intro h; injection h with h; omega)
          replace hB19 := hB19.grown g340 (by intro h; injection h with h; omega)
          replace hT303 := hT303.grown g340 (by intro h; injection h with h; omega)
          replace hT317 := hT317.grown g340 (by intro h; injection h with h; omega)
          replace hB329 := hB329.grown g340 (by intro h; injection h with h; omega)
          replace hB290 := hB341
          refine Sq.nil ?_
          refine Eq.goes (fun _ => ⟨hB4, hB11⟩) ?_
          refine Gq.one 7 rfl (by kernel_rfl) ?_
          refine Sq.store one57 .plain rfl rfl rfl hB329 (by simp) (fun w343 g344 hB345 => ?_)
          have hs346 := World.grownBy.size g344
          replace E := E.grown g344 (fun k hk => by injection hk with hk; subst hk; omega)
          replace hB4 := hB4.grown g344 (by intro h; injection h with h; omega)
          replace hB11 := hB11.grown g344 (by intro h; injection h with h; omega)
          replace hB19 := hB19.grown g344 (by intro h; injection h with h; omega)
          replace hB290 := hB290.grown g344 (by intro h; injection h with h; omega)
          replace hT303 := hT303.grown g344 (by intro h; injection h with h; omega)
          replace hT317 := hT317.grown g344 (by intro h; injection h with h; omega)
          replace hB329 := hB345
          refine Sq.nil ?_
          refine Eq.goes (fun h => absurd h (by decide)) ?_
          refine Gq.done (by kernel_rfl) ?_
          refine Eq.left _ ⟨b287, b326, _, _, _, _, rfl, hB290, hB329, hT303, hT317, hTab304, hTab318, by omega, E, hB4, hB11, hB19⟩ (.cons rfl (.cons rfl (.cons rfl (.cons rfl (.cons rfl (.cons rfl (.cons rfl (.nil))))))))
        refine Sq.alloc1 zero57 rfl .plain rfl (fun b347 w348 e349 hB350 hlo351 => ?_)
        have hd352 := Nat.le_trans (Below.size E) hlo351
        have hd353 := Nat.lt_of_lt_of_le hB4.lt hlo351
        have hd354 := Nat.lt_of_lt_of_le hB11.lt hlo351
        have hd355 := Nat.lt_of_lt_of_le hB19.lt hlo351
        have hd356 := Nat.lt_of_lt_of_le hB290.lt hlo351
        have hd357 := Nat.lt_of_lt_of_le hT303.lt hlo351
        have hs358 := Below.size e349
        replace E := E.trans e349
        replace hB4 := hB4.ext e349
        replace hB11 := hB11.ext e349
        replace hB19 := hB19.ext e349
        replace hB290 := hB290.ext e349
        replace hT303 := hT303.ext e349
        refine Sq.nil ?_
        refine Eq.goes (fun _ => ⟨hB4, hB11⟩) ?_
        refine Gq.one 3 rfl (by kernel_rfl) ?_
        have hd367 := hB4.lt
        have hd368 := hB11.lt
        have hd369 := hB19.lt
        have hd370 := hB290.lt
        have hd371 := hT303.lt
        have hd372 := hB350.lt
        refine Sq.call fn48 .plain rfl rfl (tableOf_c _ b _ _ (hnx'.ext E) (hac'.ext E) hv') ?_
        rintro _ w360 ⟨⟨b362, xs363, rfl, hlo364, hT365, hTab366⟩, e361⟩
        have hs373 := Below.size E
        have hs374 := Below.size e361
        replace E := E.trans e361
        replace hB4 := hB4.ext e361
        replace hB11 := hB11.ext e361
        replace hB19 := hB19.ext e361
        replace hB290 := hB290.ext e361
        replace hT303 := hT303.ext e361
        replace hB350 := hB350.ext e361
        refine Sq.nil ?_
        refine Eq.goes (fun _ => ⟨hB4, hB11⟩) ?_
        refine Gq.one 6 rfl (by kernel_rfl) ?_
        refine Sq.store one57 .plain rfl rfl rfl hB290 (by simp) (fun w375 g376 hB377 => ?_)
        have hs378 := World.grownBy.size g376
        replace E := E.grown g376 (fun k hk => by injection hk with hk; subst hk; omega)
        replace hB4 := hB4.grown g376 (by intro h; injection h with h; omega)
        replace hB11 := hB11.grown g376 (by intro h; injection h with h; omega)
        replace hB19 := hB19.grown g376 (by intro h; injection h with h; omega)
        replace hT303 := hT303.grown g376 (by intro h; injection h with h; omega)
        replace hB350 := hB350.grown g376 (by intro h; injection h with h; omega)
        replace hT365 := hT365.grown g376 (by intro h; injection h with h; omega)
        replace hB290 := hB377
        refine Sq.nil ?_
        refine Eq.goes (fun _ => ⟨hB4, hB11⟩) ?_
        refine Gq.one 7 rfl (by kernel_rfl) ?_
        refine Sq.store one57 .plain rfl rfl rfl hB350 (by simp) (fun w379 g380 hB381 => ?_)
        have hs382 := World.grownBy.size g380
        replace E := E.grown g380 (fun k hk => by injection hk with hk; subst hk; omega)
        replace hB4 := hB4.grown g380 (by intro h; injection h with h; omega)
        replace hB11 := hB11.grown g380 (by intro h; injection h with h; omega)
        replace hB19 := hB19.grown g380 (by intro h; injection h with h; omega)
        replace hB290 := hB290.grown g380 (by intro h; injection h with h; omega)
        replace hT303 := hT303.grown g380 (by intro h; injection h with h; omega)
        replace hT365 := hT365.grown g380 (by intro h; injection h with h; omega)
        replace hB350 := hB381
        refine Sq.nil ?_
        refine Eq.goes (fun h => absurd h (by decide)) ?_
        refine Gq.done (by kernel_rfl) ?_
        refine Eq.left _ ⟨b287, b347, _, _, _, _, rfl, hB290, hB350, hT303, hT365, hTab304, hTab366, by omega, E, hB4, hB11, hB19⟩ (.cons rfl (.cons rfl (.cons rfl (.cons rfl (.cons rfl (.cons rfl (.cons rfl (.nil))))))))
      refine Sq.alloc1 zero57 rfl .plain rfl (fun b383 w384 e385 hB386 hlo387 => ?_)
      have hd388 := Nat.le_trans (Below.size E) hlo387
      have hd389 := Nat.lt_of_lt_of_le hB4.lt hlo387
      have hd390 := Nat.lt_of_lt_of_le hB11.lt hlo387
      have hd391 := Nat.lt_of_lt_of_le hB19.lt hlo387
      have hd392 := Nat.lt_of_lt_of_le hB290.lt hlo387
      have hs393 := Below.size e385
      replace E := E.trans e385
      replace hB4 := hB4.ext e385
      replace hB11 := hB11.ext e385
      replace hB19 := hB19.ext e385
      replace hB290 := hB290.ext e385
      refine Sq.nil ?_
      refine Eq.goes (fun _ => ⟨hB4, hB11⟩) ?_
      refine Gq.one 1 rfl (by kernel_rfl) ?_
      have hd402 := hB4.lt
      have hd403 := hB11.lt
      have hd404 := hB19.lt
      have hd405 := hB290.lt
      have hd406 := hB386.lt
      refine Sq.call fn48 .plain rfl rfl (tableOf_c _ a _ _ (hnx.ext E) (hac.ext E) hv) ?_
      rintro _ w395 ⟨⟨b397, xs398, rfl, hlo399, hT400, hTab401⟩, e396⟩
      have hs407 := Below.size E
      have hs408 := Below.size e396
      replace E := E.trans e396
      replace hB4 := hB4.ext e396
      replace hB11 := hB11.ext e396
      replace hB19 := hB19.ext e396
      replace hB290 := hB290.ext e396
      replace hB386 := hB386.ext e396
      refine Sq.nil ?_
      refine Eq.goes (fun _ => ⟨hB4, hB11⟩) ?_
      refine Gq.one 3 rfl (by kernel_rfl) ?_
      have hd417 := hB4.lt
      have hd418 := hB11.lt
      have hd419 := hB19.lt
      have hd420 := hB290.lt
      have hd421 := hB386.lt
      have hd422 := hT400.lt
      refine Sq.call fn48 .plain rfl rfl (tableOf_c _ b _ _ (hnx'.ext E) (hac'.ext E) hv') ?_
      rintro _ w410 ⟨⟨b412, xs413, rfl, hlo414, hT415, hTab416⟩, e411⟩
      have hs423 := Below.size E
      have hs424 := Below.size e411
      replace E := E.trans e411
      replace hB4 := hB4.ext e411
      replace hB11 := hB11.ext e411
      replace hB19 := hB19.ext e411
      replace hB290 := hB290.ext e411
      replace hB386 := hB386.ext e411
      replace hT400 := hT400.ext e411
      refine Sq.nil ?_
      refine Eq.goes (fun _ => ⟨hB4, hB11⟩) ?_
      refine Gq.one 6 rfl (by kernel_rfl) ?_
      refine Sq.store one57 .plain rfl rfl rfl hB290 (by simp) (fun w425 g426 hB427 => ?_)
      have hs428 := World.grownBy.size g426
      replace E := E.grown g426 (fun k hk => by injection hk with hk; subst hk; omega)
      replace hB4 := hB4.grown g426 (by intro h; injection h with h; omega)
      replace hB11 := hB11.grown g426 (by intro h; injection h with h; omega)
      replace hB19 := hB19.grown g426 (by intro h; injection h with h; omega)
      replace hB386 := hB386.grown g426 (by intro h; injection h with h; omega)
      replace hT400 := hT400.grown g426 (by intro h; injection h with h; omega)
      replace hT415 := hT415.grown g426 (by intro h; injection h with h; omega)
      replace hB290 := hB427
      refine Sq.nil ?_
      refine Eq.goes (fun _ => ⟨hB4, hB11⟩) ?_
      refine Gq.one 7 rfl (by kernel_rfl) ?_
      refine Sq.store one57 .plain rfl rfl rfl hB386 (by simp) (fun w429 g430 hB431 => ?_)
      have hs432 := World.grownBy.size g430
      replace E := E.grown g430 (fun k hk => by injection hk with hk; subst hk; omega)
      replace hB4 := hB4.grown g430 (by intro h; injection h with h; omega)
      replace hB11 := hB11.grown g430 (by intro h; injection h with h; omega)
      replace hB19 := hB19.grown g430 (by intro h; injection h with h; omega)
      replace hB290 := hB290.grown g430 (by intro h; injection h with h; omega)
      replace hT400 := hT400.grown g430 (by intro h; injection h with h; omega)
      replace hT415 := hT415.grown g430 (by intro h; injection h with h; omega)
      replace hB386 := hB431
      refine Sq.nil ?_
      refine Eq.goes (fun h => absurd h (by decide)) ?_
      refine Gq.done (by kernel_rfl) ?_
      refine Eq.left _ ⟨b287, b383, _, _, _, _, rfl, hB290, hB386, hT400, hT415, hTab401, hTab416, by omega, E, hB4, hB11, hB19⟩ (.cons rfl (.cons rfl (.cons rfl (.cons rfl (.cons rfl (.cons rfl (.cons rfl (.nil))))))))
    refine Sq.alloc1 zero57 rfl .plain rfl (fun b433 w434 e435 hB436 hlo437 => ?_)
    have hd438 := Nat.le_trans (Below.size E) hlo437
    have hd439 := Nat.lt_of_lt_of_le hB4.lt hlo437
    have hd440 := Nat.lt_of_lt_of_le hB11.lt hlo437
    have hd441 := Nat.lt_of_lt_of_le hB19.lt hlo437
    have hs442 := Below.size e435
    replace E := E.trans e435
    replace hB4 := hB4.ext e435
    replace hB11 := hB11.ext e435
    replace hB19 := hB19.ext e435
    refine Sq.nil ?_
    refine Eq.goes (fun _ => ⟨hB4, hB11⟩) ?_
    refine Gq.two 1 4 rfl rfl (by kernel_rfl) ?_ ?_
    · have hd451 := hB4.lt
      have hd452 := hB11.lt
      have hd453 := hB19.lt
      have hd454 := hB436.lt
      refine Sq.call fn48 .plain rfl rfl (tableOf_c _ a _ _ (hnx.ext E) (hac.ext E) hv) ?_
      rintro _ w444 ⟨⟨b446, xs447, rfl, hlo448, hT449, hTab450⟩, e445⟩
      have hs455 := Below.size E
      have hs456 := Below.size e445
      replace E := E.trans e445
      replace hB4 := hB4.ext e445
      replace hB11 := hB11.ext e445
      replace hB19 := hB19.ext e445
      replace hB436 := hB436.ext e445
      refine Sq.nil ?_
      refine Eq.goes (fun _ => ⟨hB4, hB11⟩) ?_
      refine Gq.two 3 4 rfl rfl (by kernel_rfl) ?_ ?_
      · have hd465 := hB4.lt
        have hd466 := hB11.lt
        have hd467 := hB19.lt
        have hd468 := hB436.lt
        have hd469 := hT449.lt
        refine Sq.call fn48 .plain rfl rfl (tableOf_c _ b _ _ (hnx'.ext E) (hac'.ext E) hv') ?_
        rintro _ w458 ⟨⟨b460, xs461, rfl, hlo462, hT463, hTab464⟩, e459⟩
        have hs470 := Below.size E
        have hs471 := Below.size e459
        replace E := E.trans e459
        replace hB4 := hB4.ext e459
        replace hB11 := hB11.ext e459
        replace hB19 := hB19.ext e459
        replace hB436 := hB436.ext e459
        replace hT449 := hT449.ext e459
        refine Sq.nil ?_
        refine Eq.goes (fun _ => ⟨hB4, hB11⟩) ?_
        refine Gq.one 4 rfl (by kernel_rfl) ?_
        refine Sq.alloc1 zero57 rfl .plain rfl (fun b472 w473 e474 hB475 hlo476 => ?_)
        have hd477 := Nat.le_trans (Below.size E) hlo476
        have hd478 := Nat.lt_of_lt_of_le hB4.lt hlo476
        have hd479 := Nat.lt_of_lt_of_le hB11.lt hlo476
        have hd480 := Nat.lt_of_lt_of_le hB19.lt hlo476
        have hd481 := Nat.lt_of_lt_of_le hB436.lt hlo476
        have hd482 := Nat.lt_of_lt_of_le hT449.lt hlo476
        have hd483 := Nat.lt_of_lt_of_le hT463.lt hlo476
        have hs484 := Below.size e474
        replace E := E.trans e474
        replace hB4 := hB4.ext e474
        replace hB11 := hB11.ext e474
        replace hB19 := hB19.ext e474
        replace hB436 := hB436.ext e474
        replace hT449 := hT449.ext e474
        replace hT463 := hT463.ext e474
        refine Sq.nil ?_
        refine Eq.goes (fun _ => ⟨hB4, hB11⟩) ?_
        refine Gq.one 6 rfl (by kernel_rfl) ?_
        refine Sq.store one57 .plain rfl rfl rfl hB475 (by simp) (fun w485 g486 hB487 => ?_)
        have hs488 := World.grownBy.size g486
        replace E := E.grown g486 (fun k hk => by injection hk with hk; subst hk; omega)
        replace hB4 := hB4.grown g486 (by intro h; injection h with h; omega)
        replace hB11 := hB11.grown g486 (by intro h; injection h with h; omega)
        replace hB19 := hB19.grown g486 (by intro h; injection h with h; omega)
        replace hB436 := hB436.grown g486 (by intro h; injection h with h; omega)
        replace hT449 := hT449.grown g486 (by intro h; injection h with h; omega)
        replace hT463 := hT463.grown g486 (by intro h; injection h with h; omega)
        replace hB475 := hB487
        refine Sq.nil ?_
        refine Eq.goes (fun _ => ⟨hB4, hB11⟩) ?_
        refine Gq.one 7 rfl (by kernel_rfl) ?_
        refine Sq.store one57 .plain rfl rfl rfl hB436 (by simp) (fun w489 g490 hB491 => ?_)
        have hs492 := World.grownBy.size g490
        replace E := E.grown g490 (fun k hk => by injection hk with hk; subst hk; omega)
        replace hB4 := hB4.grown g490 (by intro h; injection h with h; omega)
        replace hB11 := hB11.grown g490 (by intro h; injection h with h; omega)
        replace hB19 := hB19.grown g490 (by intro h; injection h with h; omega)
        replace hT449 := hT449.grown g490 (by intro h; injection h with h; omega)
        replace hT463 := hT463.grown g490 (by intro h; injection h with h; omega)
        replace hB475 := hB475.grown g490 (by intro h; injection h with h; omega)
        replace hB436 := hB491
        refine Sq.nil ?_
        refine Eq.goes (fun h => absurd h (by decide)) ?_
        refine Gq.done (by kernel_rfl) ?_
        refine Eq.left _ ⟨b472, b433, _, _, _, _, rfl, hB475, hB436, hT449, hT463, hTab450, hTab464, by omega, E, hB4, hB11, hB19⟩ (.cons rfl (.cons rfl (.cons rfl (.cons rfl (.cons rfl (.cons rfl (.cons rfl (.nil))))))))
      refine Sq.alloc1 zero57 rfl .plain rfl (fun b493 w494 e495 hB496 hlo497 => ?_)
      have hd498 := Nat.le_trans (Below.size E) hlo497
      have hd499 := Nat.lt_of_lt_of_le hB4.lt hlo497
      have hd500 := Nat.lt_of_lt_of_le hB11.lt hlo497
      have hd501 := Nat.lt_of_lt_of_le hB19.lt hlo497
      have hd502 := Nat.lt_of_lt_of_le hB436.lt hlo497
      have hd503 := Nat.lt_of_lt_of_le hT449.lt hlo497
      have hs504 := Below.size e495
      replace E := E.trans e495
      replace hB4 := hB4.ext e495
      replace hB11 := hB11.ext e495
      replace hB19 := hB19.ext e495
      replace hB436 := hB436.ext e495
      replace hT449 := hT449.ext e495
      refine Sq.nil ?_
      refine Eq.goes (fun _ => ⟨hB4, hB11⟩) ?_
      refine Gq.one 3 rfl (by kernel_rfl) ?_
      have hd513 := hB4.lt
      have hd514 := hB11.lt
      have hd515 := hB19.lt
      have hd516 := hB436.lt
      have hd517 := hT449.lt
      have hd518 := hB496.lt
      refine Sq.call fn48 .plain rfl rfl (tableOf_c _ b _ _ (hnx'.ext E) (hac'.ext E) hv') ?_
      rintro _ w506 ⟨⟨b508, xs509, rfl, hlo510, hT511, hTab512⟩, e507⟩
      have hs519 := Below.size E
      have hs520 := Below.size e507
      replace E := E.trans e507
      replace hB4 := hB4.ext e507
      replace hB11 := hB11.ext e507
      replace hB19 := hB19.ext e507
      replace hB436 := hB436.ext e507
      replace hT449 := hT449.ext e507
      replace hB496 := hB496.ext e507
      refine Sq.nil ?_
      refine Eq.goes (fun _ => ⟨hB4, hB11⟩) ?_
      refine Gq.one 6 rfl (by kernel_rfl) ?_
      refine Sq.store one57 .plain rfl rfl rfl hB496 (by simp) (fun w521 g522 hB523 => ?_)
      have hs524 := World.grownBy.size g522
      replace E := E.grown g522 (fun k hk => by injection hk with hk; subst hk; omega)
      replace hB4 := hB4.grown g522 (by intro h; injection h with h; omega)
      replace hB11 := hB11.grown g522 (by intro h; injection h with h; omega)
      replace hB19 := hB19.grown g522 (by intro h; injection h with h; omega)
      replace hB436 := hB436.grown g522 (by intro h; injection h with h; omega)
      replace hT449 := hT449.grown g522 (by intro h; injection h with h; omega)
      replace hT511 := hT511.grown g522 (by intro h; injection h with h; omega)
      replace hB496 := hB523
      refine Sq.nil ?_
      refine Eq.goes (fun _ => ⟨hB4, hB11⟩) ?_
      refine Gq.one 7 rfl (by kernel_rfl) ?_
      refine Sq.store one57 .plain rfl rfl rfl hB436 (by simp) (fun w525 g526 hB527 => ?_)
      have hs528 := World.grownBy.size g526
      replace E := E.grown g526 (fun k hk => by injection hk with hk; subst hk; omega)
      replace hB4 := hB4.grown g526 (by intro h; injection h with h; omega)
      replace hB11 := hB11.grown g526 (by intro h; injection h with h; omega)
      replace hB19 := hB19.grown g526 (by intro h; injection h with h; omega)
      replace hT449 := hT449.grown g526 (by intro h; injection h with h; omega)
      replace hB496 := hB496.grown g526 (by intro h; injection h with h; omega)
      replace hT511 := hT511.grown g526 (by intro h; injection h with h; omega)
      replace hB436 := hB527
      refine Sq.nil ?_
      refine Eq.goes (fun h => absurd h (by decide)) ?_
      refine Gq.done (by kernel_rfl) ?_
      refine Eq.left _ ⟨b493, b433, _, _, _, _, rfl, hB496, hB436, hT449, hT511, hTab450, hTab512, by omega, E, hB4, hB11, hB19⟩ (.cons rfl (.cons rfl (.cons rfl (.cons rfl (.cons rfl (.cons rfl (.cons rfl (.nil))))))))
    refine Sq.alloc1 zero57 rfl .plain rfl (fun b529 w530 e531 hB532 hlo533 => ?_)
    have hd534 := Nat.le_trans (Below.size E) hlo533
    have hd535 := Nat.lt_of_lt_of_le hB4.lt hlo533
    have hd536 := Nat.lt_of_lt_of_le hB11.lt hlo533
    have hd537 := Nat.lt_of_lt_of_le hB19.lt hlo533
    have hd538 := Nat.lt_of_lt_of_le hB436.lt hlo533
    have hs539 := Below.size e531
    replace E := E.trans e531
    replace hB4 := hB4.ext e531
    replace hB11 := hB11.ext e531
    replace hB19 := hB19.ext e531
    replace hB436 := hB436.ext e531
    refine Sq.nil ?_
    refine Eq.goes (fun _ => ⟨hB4, hB11⟩) ?_
    refine Gq.one 1 rfl (by kernel_rfl) ?_
    have hd548 := hB4.lt
    have hd549 := hB11.lt
    have hd550 := hB19.lt
    have hd551 := hB436.lt
    have hd552 := hB532.lt
    refine Sq.call fn48 .plain rfl rfl (tableOf_c _ a _ _ (hnx.ext E) (hac.ext E) hv) ?_
    rintro _ w541 ⟨⟨b543, xs544, rfl, hlo545, hT546, hTab547⟩, e542⟩
    have hs553 := Below.size E
    have hs554 := Below.size e542
    replace E := E.trans e542
    replace hB4 := hB4.ext e542
    replace hB11 := hB11.ext e542
    replace hB19 := hB19.ext e542
    replace hB436 := hB436.ext e542
    replace hB532 := hB532.ext e542
    refine Sq.nil ?_
    refine Eq.goes (fun _ => ⟨hB4, hB11⟩) ?_
    refine Gq.one 3 rfl (by kernel_rfl) ?_
    have hd563 := hB4.lt
    have hd564 := hB11.lt
    have hd565 := hB19.lt
    have hd566 := hB436.lt
    have hd567 := hB532.lt
    have hd568 := hT546.lt
    refine Sq.call fn48 .plain rfl rfl (tableOf_c _ b _ _ (hnx'.ext E) (hac'.ext E) hv') ?_
    rintro _ w556 ⟨⟨b558, xs559, rfl, hlo560, hT561, hTab562⟩, e557⟩
    have hs569 := Below.size E
    have hs570 := Below.size e557
    replace E := E.trans e557
    replace hB4 := hB4.ext e557
    replace hB11 := hB11.ext e557
    replace hB19 := hB19.ext e557
    replace hB436 := hB436.ext e557
    replace hB532 := hB532.ext e557
    replace hT546 := hT546.ext e557
    refine Sq.nil ?_
    refine Eq.goes (fun _ => ⟨hB4, hB11⟩) ?_
    refine Gq.one 6 rfl (by kernel_rfl) ?_
    refine Sq.store one57 .plain rfl rfl rfl hB532 (by simp) (fun w571 g572 hB573 => ?_)
    have hs574 := World.grownBy.size g572
    replace E := E.grown g572 (fun k hk => by injection hk with hk; subst hk; omega)
    replace hB4 := hB4.grown g572 (by intro h; injection h with h; omega)
    replace hB11 := hB11.grown g572 (by intro h; injection h with h; omega)
    replace hB19 := hB19.grown g572 (by intro h; injection h with h; omega)
    replace hB436 := hB436.grown g572 (by intro h; injection h with h; omega)
    replace hT546 := hT546.grown g572 (by intro h; injection h with h; omega)
    replace hT561 := hT561.grown g572 (by intro h; injection h with h; omega)
    replace hB532 := hB573
    refine Sq.nil ?_
    refine Eq.goes (fun _ => ⟨hB4, hB11⟩) ?_
    refine Gq.one 7 rfl (by kernel_rfl) ?_
    refine Sq.store one57 .plain rfl rfl rfl hB436 (by simp) (fun w575 g576 hB577 => ?_)
    have hs578 := World.grownBy.size g576
    replace E := E.grown g576 (fun k hk => by injection hk with hk; subst hk; omega)
    replace hB4 := hB4.grown g576 (by intro h; injection h with h; omega)
    replace hB11 := hB11.grown g576 (by intro h; injection h with h; omega)
    replace hB19 := hB19.grown g576 (by intro h; injection h with h; omega)
    replace hB532 := hB532.grown g576 (by intro h; injection h with h; omega)
    replace hT546 := hT546.grown g576 (by intro h; injection h with h; omega)
    replace hT561 := hT561.grown g576 (by intro h; injection h with h; omega)
    replace hB436 := hB577
    refine Sq.nil ?_
    refine Eq.goes (fun h => absurd h (by decide)) ?_
    refine Gq.done (by kernel_rfl) ?_
    refine Eq.left _ ⟨b529, b433, _, _, _, _, rfl, hB532, hB436, hT546, hT561, hTab547, hTab562, by omega, E, hB4, hB11, hB19⟩ (.cons rfl (.cons rfl (.cons rfl (.cons rfl (.cons rfl (.cons rfl (.cons rfl (.nil))))))))
  rintro ls wc1 ⟨c8, c9, t1, t2, xs, ys0, rfl, hP1, hP2, hT1, hT2, hTab, hTab', hbb, E, hB4, hB11, hB19⟩
  have hs579 := Below.size E
  refine Eq.next ?_
  refine Cq.seq ?_
  refine Cq.region ?_
  refine Sq.loadB one57 .plain rfl rfl hP2 rfl ?_
  refine Sq.len .plain rfl und57 rfl ?_
  refine Sq.alloc1 zero3 rfl .plain rfl (fun b580 w581 e582 hB583 hlo584 => ?_)
  have hd585 := Nat.le_trans (Below.size E) hlo584
  have hd586 := Nat.lt_of_lt_of_le hB4.lt hlo584
  have hd587 := Nat.lt_of_lt_of_le hB11.lt hlo584
  have hd588 := Nat.lt_of_lt_of_le hB19.lt hlo584
  have hd589 := Nat.lt_of_lt_of_le hP1.lt hlo584
  have hd590 := Nat.lt_of_lt_of_le hP2.lt hlo584
  have hd591 := Nat.lt_of_lt_of_le hT1.lt hlo584
  have hd592 := Nat.lt_of_lt_of_le hT2.lt hlo584
  have hs593 := Below.size e582
  replace E := E.trans e582
  replace hB4 := hB4.ext e582
  replace hB11 := hB11.ext e582
  replace hB19 := hB19.ext e582
  replace hP1 := hP1.ext e582
  replace hP2 := hP2.ext e582
  replace hT1 := hT1.ext e582
  replace hT2 := hT2.ext e582
  refine Sq.store one3 .plain rfl rfl rfl hB583 (by simp) (fun w594 g595 hB596 => ?_)
  have hs597 := World.grownBy.size g595
  replace E := E.grown g595 (fun k hk => by injection hk with hk; subst hk; omega)
  replace hB4 := hB4.grown g595 (by intro h; injection h with h; omega)
  replace hB11 := hB11.grown g595 (by intro h; injection h with h; omega)
  replace hB19 := hB19.grown g595 (by intro h; injection h with h; omega)
  replace hP1 := hP1.grown g595 (by intro h; injection h with h; omega)
  replace hP2 := hP2.grown g595 (by intro h; injection h with h; omega)
  replace hT1 := hT1.grown g595 (by intro h; injection h with h; omega)
  replace hT2 := hT2.grown g595 (by intro h; injection h with h; omega)
  replace hB583 := hB596
  refine Sq.nil ?_
  refine Eq.next ?_
  refine Cq.seq ?_
  refine Cq.region ?_
  refine Sq.makeFunc .plain rfl rfl ?_
  refine Sq.assign .plain rfl rfl ?_
  refine Sq.nil ?_
  refine Eq.next ?_
  refine Cq.seq ?_
  refine Cq.drawS 18 (fun w' => Blk w' c8 57 [Value.slice (some ⟨t1, 0, none⟩) a.next.length a.next.length] ∧ Blk w' c9 57 [Value.slice (some ⟨t2, 0, none⟩) b.next.length b.next.length] ∧ Blk w' t1 62 (xs.map (Value.int .i64)) ∧ Blk w' t2 62 (ys0.map (Value.int .i64)) ∧ Blk w' b580 3 [Value.int .i64 (List.length b.next : Int)] ∧ Blk w' b1 26 [Value.int .i64 a.al, nx, ac] ∧ Blk w' b8 26 [Value.int .i64 b.al, nx', ac'] ∧ Blk w' b16 85 [gv] ∧ Ext w0 w') mixed (⟨hP1, hP2, hT1, hT2, hB583, hB4, hB11, hB19, E⟩) (fun w598 e599 hS => ?_)
  clear hS
  have hs600 := Below.size e599
  replace E := E.trans e599
  replace hB4 := hB4.ext e599
  replace hB11 := hB11.ext e599
  replace hB19 := hB19.ext e599
  replace hP1 := hP1.ext e599
  replace hP2 := hP2.ext e599
  replace hT1 := hT1.ext e599
  replace hT2 := hT2.ext e599
  replace hB583 := hB583.ext e599
  refine Gq.st 0 rfl (by kernel_rfl) rfl .plain rfl (fun _ _ _ h => h) ⟨hP1, hP2, hT1, hT2, hB583, hB4, hB11, hB19, E⟩ (fun w' x => Still.loadB one57 rfl x.1 rfl) ?_
  refine Gq.st 1 rfl (by kernel_rfl) rfl .plain rfl (fun _ _ _ h => h) ⟨hP1, hP2, hT1, hT2, hB583, hB4, hB11, hB19, E⟩ (fun w' x => Still.len und57 rfl) ?_
  refine Gq.st 2 rfl (by kernel_rfl) rfl .plain rfl (fun _ _ _ h => h) ⟨hP1, hP2, hT1, hT2, hB583, hB4, hB11, hB19, E⟩ (fun w' x => Still.loadB one3 rfl x.2.2.2.2.1 rfl) ?_
  refine Gq.st 3 rfl (by kernel_rfl) rfl .plain rfl (fun _ _ _ h => h) ⟨hP1, hP2, hT1, hT2, hB583, hB4, hB11, hB19, E⟩ (fun w' x => Still.mul rfl rfl (by omega)) ?_
  refine Gq.st 4 rfl (by kernel_rfl) rfl .plain rfl (fun _ _ _ h => h) ⟨hP1, hP2, hT1, hT2, hB583, hB4, hB11, hB19, E⟩ (fun w' x => Still.move rfl) ?_
  refine Gq.st 5 rfl (by kernel_rfl) rfl .plain rfl (fun _ _ _ h => h) ⟨hP1, hP2, hT1, hT2, hB583, hB4, hB11, hB19, E⟩ (fun w' x => Still.loadB one3 rfl x.2.2.2.2.1 rfl) ?_
  refine Gq.st 6 rfl (by kernel_rfl) rfl .plain rfl (fun _ _ _ h => h) ⟨hP1, hP2, hT1, hT2, hB583, hB4, hB11, hB19, E⟩ (fun w' x => Still.mul rfl rfl (by omega)) ?_
  refine Gq.st 7 rfl (by kernel_rfl) rfl .plain rfl (fun _ _ _ h => h) ⟨hP1, hP2, hT1, hT2, hB583, hB4, hB11, hB19, E⟩ (fun w' x => Still.move rfl) ?_
  refine Gq.st 8 rfl (by kernel_rfl) rfl .plain rfl (fun _ _ _ h => h) ⟨hP1, hP2, hT1, hT2, hB583, hB4, hB11, hB19, E⟩ (fun w' x => Still.add rfl rfl (by omega)) ?_
  refine Gq.st 10 rfl (by kernel_rfl) rfl .plain rfl (fun _ _ _ h => h) ⟨hP1, hP2, hT1, hT2, hB583, hB4, hB11, hB19, E⟩ (fun w' x => Still.fieldAddr fld26_0 rfl) ?_
  refine Gq.st 11 rfl (by kernel_rfl) rfl .plain rfl (fun _ _ _ h => h) ⟨hP1, hP2, hT1, hT2, hB583, hB4, hB11, hB19, E⟩ (fun w' x => Still.loadB one3 rfl x.2.2.2.2.2.1 rfl) ?_
  refine Gq.st 13 rfl (by kernel_rfl) rfl .plain rfl (fun _ _ _ h => h) ⟨hP1, hP2, hT1, hT2, hB583, hB4, hB11, hB19, E⟩ (fun w' x => Still.move rfl) ?_
  refine Gq.st 14 rfl (by kernel_rfl) rfl .plain rfl (fun _ _ _ h => h) ⟨hP1, hP2, hT1, hT2, hB583, hB4, hB11, hB19, E⟩ (fun w' x => Still.makeFunc rfl) ?_
  refine Gq.two 9 12 rfl rfl (by kernel_rfl) ?_ ?_
  · refine Sq.lit sl56 rfl rfl .plain rfl rfl (one_cons rfl one_nil) (fun b601 w602 e603 hlo604 ho605 _ => ?_)
    replace ho605 := ho605 w598.heap.size (Nat.le_refl _)
    have hs607 := Below.size e603
    replace E := E.trans e603
    replace hB4 := hB4.ext e603
    replace hB11 := hB11.ext e603
    replace hB19 := hB19.ext e603
    replace hP1 := hP1.ext e603
    replace hP2 := hP2.ext e603
    replace hT1 := hT1.ext e603
    replace hT2 := hT2.ext e603
    replace hB583 := hB583.ext e603
    refine Sq.nil ?_
    refine Eq.goes (fun _ => ⟨hP1, hP2, hT1, hT2, hB583, hB4, hB11, hB19, E⟩) ?_
    refine Gq.one 12 rfl (by kernel_rfl) ?_
    have hd612 := hB4.lt
    have hd613 := hB11.lt
    have hd614 := hB19.lt
    have hd615 := hP1.lt
    have hd616 := hP2.lt
    have hd617 := hT1.lt
    have hd618 := hT2.lt
    have hd619 := hB583.lt
    refine Sq.call fn50 .plain rfl rfl (lettersOf_c a.al (by omega) _) ?_
    rintro v608 w609 ⟨hl611, e610⟩
    have hs620 := Below.size E
    have hs621 := Below.size e610
    replace E := E.trans e610
    replace hB4 := hB4.ext e610
    replace hB11 := hB11.ext e610
    replace hB19 := hB19.ext e610
    replace hP1 := hP1.ext e610
    replace hP2 := hP2.ext e610
    replace hT1 := hT1.ext e610
    replace hT2 := hT2.ext e610
    replace hB583 := hB583.ext e610
    replace ho605 := ho605.ext e610
    refine Sq.nil ?_
    refine Eq.goes (fun _ => ⟨hP1, hP2, hT1, hT2, hB583, hB4, hB11, hB19, E⟩) ?_
    refine Gq.one 15 rfl (by kernel_rfl) ?_
    have hd624 := hB4.lt
    have hd625 := hB11.lt
    have hd626 := hB19.lt
    have hd627 := hP1.lt
    have hd628 := hP2.lt
    have hd629 := hT1.lt
    have hd630 := hT2.lt
    have hd631 := hB583.lt
    have hlet := letters_len6 a.al
    refine Sq.call fn95 .plain rfl rfl (firstPath_c _ ((List.length a.next : Int) * (List.length b.next : Int)) (a.next.length * b.next.length) (i0 * (List.length b.next : Int) + j0) (letters a.al) _ _ _ _ (fP a b) (fun q => g (accA a (q / (List.length b.next : Int))) (accA b (q % (List.length b.next : Int)))) (fun q => InP a b q) (Int.natCast_mul _ _).symm (Own.row ho605) (Own.row hl611) (by omega) (fun x hx => ⟨(mem_letters hx).1, (mem_letters hx).2.1⟩) (inP_enc (p := (i0, j0)) hp) (fun q hq x hx => fP_in hv hv' hq ⟨(mem_letters hx).1, (mem_letters hx).2.1⟩) (fun q hq => hq) (by omega) ⟨102, _, [Value.pointer (some ⟨c8, 0, none⟩), Value.pointer (some ⟨b580, 0, none⟩), Value.pointer (some ⟨c9, 0, none⟩)], rfl, fn102, fun w q y0 hx hq hxx => fb1_c w q y0 a b _ _ _ _ _ _ _ (hP1.ext hx) (hB583.ext hx) (hP2.ext hx) (hT1.ext hx) (hT2.ext hx) hTab hTab' hv hv' hq hxx⟩ ⟨103, _, [Value.pointer (some ⟨b16, 0, none⟩), Value.pointer (some ⟨b1, 0, none⟩), Value.pointer (some ⟨b580, 0, none⟩), Value.pointer (some ⟨b8, 0, none⟩)], rfl, fn103, fun w q hx hq => fb2_c w q a b _ _ _ _ _ g _ _ _ _ (hB19.ext hx) (hB4.ext hx) (hB583.ext hx) (hB11.ext hx) ((hac.ext E).ext hx) ((hac'.ext E).ext hx) ((BClo.up hgo E).up hx) hv hv' hq⟩) ?_
    rintro _ w622 ⟨rfl, e623⟩
    have hs632 := Below.size E
    have hs633 := Below.size e623
    replace E := E.trans e623
    replace hB4 := hB4.ext e623
    replace hB11 := hB11.ext e623
    replace hB19 := hB19.ext e623
    replace hP1 := hP1.ext e623
    replace hP2 := hP2.ext e623
    replace hT1 := hT1.ext e623
    replace hT2 := hT2.ext e623
    replace hB583 := hB583.ext e623
    refine Sq.nil ?_
    refine Eq.goes (fun _ => ⟨hP1, hP2, hT1, hT2, hB583, hB4, hB11, hB19, E⟩) ?_
    refine Gq.st 16 rfl (by kernel_rfl) rfl .plain rfl (fun _ _ _ h => h) ⟨hP1, hP2, hT1, hT2, hB583, hB4, hB11, hB19, E⟩ (fun w' x => Still.extract rfl rfl) ?_
    refine Gq.st 17 rfl (by kernel_rfl) rfl .plain rfl (fun _ _ _ h => h) ⟨hP1, hP2, hT1, hT2, hB583, hB4, hB11, hB19, E⟩ (fun w' x => Still.extract rfl rfl) ?_
    refine Gq.one 18 rfl (by kernel_rfl) ?_
    refine Sq.assign .plain rfl rfl ?_
    refine Sq.nil ?_
    refine Eq.goes (fun h => absurd h (by decide)) ?_
    refine Gq.one 19 rfl (by kernel_rfl) ?_
    refine Sq.assign .plain rfl rfl ?_
    refine Sq.nil ?_
    refine Eq.goes (fun h => absurd h (by decide)) ?_
    refine Gq.done (by kernel_rfl) ?_
    refine Eq.next ?_
    refine Cq.ret ?_
    refine Eq.ret2 rfl rfl rfl ?_
    rw [← firstAB_enc hv hv' hp]
    exact ⟨rfl, E⟩
  have hd638 := hB4.lt
  have hd639 := hB11.lt
  have hd640 := hB19.lt
  have hd641 := hP1.lt
  have hd642 := hP2.lt
  have hd643 := hT1.lt
  have hd644 := hT2.lt
  have hd645 := hB583.lt
  refine Sq.call fn50 .plain rfl rfl (lettersOf_c a.al (by omega) _) ?_
  rintro v634 w635 ⟨hl637, e636⟩
  have hs646 := Below.size E
  have hs647 := Below.size e636
  replace E := E.trans e636
  replace hB4 := hB4.ext e636
  replace hB11 := hB11.ext e636
  replace hB19 := hB19.ext e636
  replace hP1 := hP1.ext e636
  replace hP2 := hP2.ext e636
  replace hT1 := hT1.ext e636
  replace hT2 := hT2.ext e636
  replace hB583 := hB583.ext e636
  refine Sq.nil ?_
  refine Eq.goes (fun _ => ⟨hP1, hP2, hT1, hT2, hB583, hB4, hB11, hB19, E⟩) ?_
  refine Gq.one 9 rfl (by kernel_rfl) ?_
  refine Sq.lit sl56 rfl rfl .plain rfl rfl (one_cons rfl one_nil) (fun b648 w649 e650 hlo651 ho652 _ => ?_)
  replace ho652 := ho652 w635.heap.size (Nat.le_refl _)
  have hs654 := Below.size e650
  replace E := E.trans e650
  replace hB4 := hB4.ext e650
  replace hB11 := hB11.ext e650
  replace hB19 := hB19.ext e650
  replace hP1 := hP1.ext e650
  replace hP2 := hP2.ext e650
  replace hT1 := hT1.ext e650
  replace hT2 := hT2.ext e650
  replace hB583 := hB583.ext e650
  replace hl637 := hl637.ext e650
  refine Sq.nil ?_
  refine Eq.goes (fun _ => ⟨hP1, hP2, hT1, hT2, hB583, hB4, hB11, hB19, E⟩) ?_
  refine Gq.one 15 rfl (by kernel_rfl) ?_
  have hd657 := hB4.lt
  have hd658 := hB11.lt
  have hd659 := hB19.lt
  have hd660 := hP1.lt
  have hd661 := hP2.lt
  have hd662 := hT1.lt
  have hd663 := hT2.lt
  have hd664 := hB583.lt
  have hlet := letters_len6 a.al
  refine Sq.call fn95 .plain rfl rfl (firstPath_c _ ((List.length a.next : Int) * (List.length b.next : Int)) (a.next.length * b.next.length) (i0 * (List.length b.next : Int) + j0) (letters a.al) _ _ _ _ (fP a b) (fun q => g (accA a (q / (List.length b.next : Int))) (accA b (q % (List.length b.next : Int)))) (fun q => InP a b q) (Int.natCast_mul _ _).symm (Own.row ho652) (Own.row hl637) (by omega) (fun x hx => ⟨(mem_letters hx).1, (mem_letters hx).2.1⟩) (inP_enc (p := (i0, j0)) hp) (fun q hq x hx => fP_in hv hv' hq ⟨(mem_letters hx).1, (mem_letters hx).2.1⟩) (fun q hq => hq) (by omega) ⟨102, _, [Value.pointer (some ⟨c8, 0, none⟩), Value.pointer (some ⟨b580, 0, none⟩), Value.pointer (some ⟨c9, 0, none⟩)], rfl, fn102, fun w q y0 hx hq hxx => fb1_c w q y0 a b _ _ _ _ _ _ _ (hP1.ext hx) (hB583.ext hx) (hP2.ext hx) (hT1.ext hx) (hT2.ext hx) hTab hTab' hv hv' hq hxx⟩ ⟨103, _, [Value.pointer (some ⟨b16, 0, none⟩), Value.pointer (some ⟨b1, 0, none⟩), Value.pointer (some ⟨b580, 0, none⟩), Value.pointer (some ⟨b8, 0, none⟩)], rfl, fn103, fun w q hx hq => fb2_c w q a b _ _ _ _ _ g _ _ _ _ (hB19.ext hx) (hB4.ext hx) (hB583.ext hx) (hB11.ext hx) ((hac.ext E).ext hx) ((hac'.ext E).ext hx) ((BClo.up hgo E).up hx) hv hv' hq⟩) ?_
  rintro _ w655 ⟨rfl, e656⟩
  have hs665 := Below.size E
  have hs666 := Below.size e656
  replace E := E.trans e656
  replace hB4 := hB4.ext e656
  replace hB11 := hB11.ext e656
  replace hB19 := hB19.ext e656
  replace hP1 := hP1.ext e656
  replace hP2 := hP2.ext e656
  replace hT1 := hT1.ext e656
  replace hT2 := hT2.ext e656
  replace hB583 := hB583.ext e656
  refine Sq.nil ?_
  refine Eq.goes (fun _ => ⟨hP1, hP2, hT1, hT2, hB583, hB4, hB11, hB19, E⟩) ?_
  refine Gq.st 16 rfl (by kernel_rfl) rfl .plain rfl (fun _ _ _ h => h) ⟨hP1, hP2, hT1, hT2, hB583, hB4, hB11, hB19, E⟩ (fun w' x => Still.extract rfl rfl) ?_
  refine Gq.st 17 rfl (by kernel_rfl) rfl .plain rfl (fun _ _ _ h => h) ⟨hP1, hP2, hT1, hT2, hB583, hB4, hB11, hB19, E⟩ (fun w' x => Still.extract rfl rfl) ?_
  refine Gq.one 18 rfl (by kernel_rfl) ?_
  refine Sq.assign .plain rfl rfl ?_
  refine Sq.nil ?_
  refine Eq.goes (fun h => absurd h (by decide)) ?_
  refine Gq.one 19 rfl (by kernel_rfl) ?_
  refine Sq.assign .plain rfl rfl ?_
  refine Sq.nil ?_
  refine Eq.goes (fun h => absurd h (by decide)) ?_
  refine Gq.done (by kernel_rfl) ?_
  refine Eq.next ?_
  refine Cq.ret ?_
  refine Eq.ret2 rfl rfl rfl ?_
  rw [← firstAB_enc hv hv' hp]
  exact ⟨rfl, E⟩
end Go.Proofs.Ytdejmfkpohgamaa
set_option linter.unusedSimpArgs false
set_option linter.unusedVariables false
namespace Go.Proofs.Ytdejmfkpohgamaa
open Go.RowKit
set_option maxRecDepth 100000 in
theorem fAt_c (w0 : World) (a : A) (nx ac : Value) (hnx : Rows w0 56 3 nx a.next) (hac : Bools w0 4 ac a.acc) (s0 : Int) : Ret Try.prog 37 #[Value.agg #[Value.int .i64 a.al, nx, ac], Value.int .i64 s0] w0 (fun v w => v = resW (fAt a s0) ∧ Ext w0 w) := by
  have E := Ext.refl w0
  refine Ret.of (args := [Value.agg #[Value.int .i64 a.al, nx, ac], Value.int .i64 s0]) Try.func37 rfl rfl rfl ?_
  rintro _ rfl
  show Cq _ _ _ _ [(0, Value.agg #[Value.int .i64 a.al, nx, ac]), (1, Value.int .i64 s0)] _
  refine Cq.seq ?_
  refine Cq.region ?_
  refine Sq.box .plain rfl rfl (fun b1 w2 e3 hB4 hlo5 => ?_)
  have hd6 := Nat.le_trans (Below.size E) hlo5
  have hs7 := Below.size e3
  replace E := E.trans e3
  refine Sq.box1 .plain rfl rfl rfl (fun b8 w9 e10 hB11 hlo12 => ?_)
  have hd13 := Nat.le_trans (Below.size E) hlo12
  have hd14 := Nat.lt_of_lt_of_le hB4.lt hlo12
  have hs15 := Below.size e10
  replace E := E.trans e10
  replace hB4 := hB4.ext e10
  refine Sq.assign .plain rfl rfl ?_
  refine Sq.assign .plain rfl rfl ?_
  refine Sq.nil ?_
  refine Eq.next ?_
  refine Cq.seq ?_
  refine Cq.seq ?_
  refine Cq.region ?_
  refine Sq.loadAgg agg26 .plain rfl rfl hB4 rfl ?_
  have hd19 := hB4.lt
  have hd20 := hB11.lt
  refine Sq.call fn22 .plain rfl rfl (valid_c _ a _ _ (hnx.ext E) (hac.ext E)) ?_
  rintro _ w17 ⟨rfl, e18⟩
  have hs21 := Below.size E
  have hs22 := Below.size e18
  replace E := E.trans e18
  replace hB4 := hB4.ext e18
  replace hB11 := hB11.ext e18
  refine Sq.partB (fun hv => ?_) (fun hv => ?_)
  · refine Sq.notT .plain rfl rfl ?_
    refine Sq.nil ?_
    refine Eq.next ?_
    refine Cq.els rfl ?_
    refine Cq.skip ?_
    refine Eq.next ?_
    refine Cq.seq ?_
    refine Cq.region ?_
    refine Sq.loadAgg agg26 .plain rfl rfl hB4 rfl ?_
    refine Sq.makeFunc .plain rfl rfl ?_
    have hd26 := hB4.lt
    have hd27 := hB11.lt
    refine Sq.call fn63 .plain rfl rfl (firstFrom_c _ a _ _ (hnx.ext E) (hac.ext E) hv _ (fun x => decide (x = s0)) ⟨81, _, [Value.pointer (some ⟨b8, 0, none⟩)], rfl, fn81, fun w q hx hq => (aw1_c w q s0 _ (hB11.ext hx)).mono fun v w' h => ⟨h.1, h.2 ▸ Ext.refl w⟩⟩) ?_
    rintro _ w24 ⟨rfl, e25⟩
    have hs28 := Below.size E
    have hs29 := Below.size e25
    replace E := E.trans e25
    refine Sq.extract .plain rfl rfl rfl ?_
    refine Sq.extract .plain rfl rfl rfl ?_
    refine Sq.assign .plain rfl rfl ?_
    refine Sq.assign .plain rfl rfl ?_
    refine Sq.nil ?_
    refine Eq.next ?_
    refine Cq.ret ?_
    refine Eq.ret2 rfl rfl rfl ?_
    exact ⟨by rw [fAt, if_pos hv]; rfl, E⟩
  refine Sq.notF .plain rfl rfl ?_
  refine Sq.nil ?_
  refine Eq.next ?_
  refine Cq.thn rfl ?_
  refine Cq.seq ?_
  refine Cq.region ?_
  refine Sq.assign .plain rfl rfl ?_
  refine Sq.assign .plain rfl rfl ?_
  refine Sq.nil ?_
  refine Eq.next ?_
  refine Cq.ret ?_
  refine Eq.pastRet ?_
  refine Eq.ret2 rfl rfl rfl ?_
  exact ⟨by rw [fAt, if_neg (by rw [hv]; decide)]; rfl, E⟩
set_option maxRecDepth 100000 in
theorem cmp_c (w0 : World) (a b : A) (nx ac nx' ac' : Value) (hnx : Rows w0 56 3 nx a.next) (hac : Bools w0 4 ac a.acc) (hnx' : Rows w0 56 3 nx' b.next) (hac' : Bools w0 4 ac' b.acc) : Ret Try.prog 74 #[Value.agg #[Value.int .i64 a.al, nx, ac], Value.agg #[Value.int .i64 b.al, nx', ac']] w0 (fun v w => v = .bool (cmp2 a b) ∧ Ext w0 w) := by
  have E := Ext.refl w0
  refine Ret.of (args := [Value.agg #[Value.int .i64 a.al, nx, ac], Value.agg #[Value.int .i64 b.al, nx', ac']]) Try.func74 rfl rfl rfl ?_
  rintro _ rfl
  show Cq _ _ _ _ [(0, Value.agg #[Value.int .i64 a.al, nx, ac]), (1, Value.agg #[Value.int .i64 b.al, nx', ac'])] _
  refine Cq.seq ?_
  refine Cq.region ?_
  refine Sq.box .plain rfl rfl (fun b1 w2 e3 hB4 hlo5 => ?_)
  have hd6 := Nat.le_trans (Below.size E) hlo5
  have hs7 := Below.size e3
  replace E := E.trans e3
  refine Sq.box .plain rfl rfl (fun b8 w9 e10 hB11 hlo12 => ?_)
  have hd13 := Nat.le_trans (Below.size E) hlo12
  have hd14 := Nat.lt_of_lt_of_le hB4.lt hlo12
  have hs15 := Below.size e10
  replace E := E.trans e10
  replace hB4 := hB4.ext e10
  refine Sq.assign .plain rfl rfl ?_
  refine Sq.nil ?_
  refine Eq.next ?_
  refine Cq.seq ?_
  refine Cq.region ?_
  refine Sq.loadAgg agg26 .plain rfl rfl hB4 rfl ?_
  have hd19 := hB4.lt
  have hd20 := hB11.lt
  refine Sq.call fn22 .plain rfl rfl (valid_c _ a _ _ (hnx.ext E) (hac.ext E)) ?_
  rintro _ w17 ⟨rfl, e18⟩
  have hs21 := Below.size E
  have hs22 := Below.size e18
  replace E := E.trans e18
  replace hB4 := hB4.ext e18
  replace hB11 := hB11.ext e18
  refine Sq.partB (fun hva => ?_) (fun hva => ?_)
  · refine Sq.move .plain rfl rfl ?_
    refine Sq.loadAgg agg26 (.met rfl rfl rfl) rfl rfl hB11 rfl ?_
    have hd26 := hB4.lt
    have hd27 := hB11.lt
    refine Sq.call fn22 (.met rfl rfl rfl) rfl rfl (valid_c _ b _ _ (hnx'.ext E) (hac'.ext E)) ?_
    rintro _ w24 ⟨rfl, e25⟩
    have hs28 := Below.size E
    have hs29 := Below.size e25
    replace E := E.trans e25
    replace hB4 := hB4.ext e25
    replace hB11 := hB11.ext e25
    refine Sq.partB (fun hvb => ?_) (fun hvb => ?_)
    · refine Sq.pickT .plain rfl rfl rfl ?_
      refine Sq.move .plain rfl rfl ?_
      refine Sq.fieldAddr fld26_0 (.met rfl rfl rfl) rfl rfl ?_
      refine Sq.loadB one3 (.met rfl rfl rfl) rfl rfl hB4 rfl ?_
      refine Sq.fieldAddr fld26_0 (.met rfl rfl rfl) rfl rfl ?_
      refine Sq.loadB one3 (.met rfl rfl rfl) rfl rfl hB11 rfl ?_
      refine Sq.eql (.met rfl rfl rfl) rfl rfl rfl ?_
      refine Sq.pickT .plain rfl rfl rfl ?_
      refine Sq.assign .plain rfl rfl ?_
      refine Sq.nil ?_
      refine Eq.next ?_
      refine Cq.ret ?_
      refine Eq.ret1 rfl rfl ?_
      exact ⟨by simp [cmp2, hva, hvb], E⟩
    refine Sq.pickT .plain rfl rfl rfl ?_
    refine Sq.move .plain rfl rfl ?_
    refine Sq.off rfl rfl rfl rfl rfl rfl ?_
    refine Sq.off rfl rfl rfl rfl rfl rfl ?_
    refine Sq.off rfl rfl rfl rfl rfl rfl ?_
    refine Sq.off rfl rfl rfl rfl rfl rfl ?_
    refine Sq.off rfl rfl rfl rfl rfl rfl ?_
    refine Sq.pickF .plain rfl rfl rfl ?_
    refine Sq.assign .plain rfl rfl ?_
    refine Sq.nil ?_
    refine Eq.next ?_
    refine Cq.ret ?_
    refine Eq.ret1 rfl rfl ?_
    exact ⟨by simp [cmp2, hva, hvb], E⟩
  refine Sq.move .plain rfl rfl ?_
  refine Sq.off rfl rfl rfl rfl rfl rfl ?_
  refine Sq.off rfl rfl rfl rfl rfl rfl ?_
  refine Sq.pickF .plain rfl rfl rfl ?_
  refine Sq.move .plain rfl rfl ?_
  refine Sq.off rfl rfl rfl rfl rfl rfl ?_
  refine Sq.off rfl rfl rfl rfl rfl rfl ?_
  refine Sq.off rfl rfl rfl rfl rfl rfl ?_
  refine Sq.off rfl rfl rfl rfl rfl rfl ?_
  refine Sq.off rfl rfl rfl rfl rfl rfl ?_
  refine Sq.pickF .plain rfl rfl rfl ?_
  refine Sq.assign .plain rfl rfl ?_
  refine Sq.nil ?_
  refine Eq.next ?_
  refine Cq.ret ?_
  refine Eq.ret1 rfl rfl ?_
  exact ⟨by simp [cmp2, hva], E⟩
set_option maxRecDepth 100000 in
theorem fDif_c (w0 : World) (a b : A) (nx ac nx' ac' : Value) (hnx : Rows w0 56 3 nx a.next) (hac : Bools w0 4 ac a.acc) (hnx' : Rows w0 56 3 nx' b.next) (hac' : Bools w0 4 ac' b.acc) : Ret Try.prog 82 #[Value.agg #[Value.int .i64 a.al, nx, ac], Value.agg #[Value.int .i64 b.al, nx', ac']] w0 (fun v w => v = resW (fDif a b) ∧ Ext w0 w) := by
  have E := Ext.refl w0
  refine Ret.of (args := [Value.agg #[Value.int .i64 a.al, nx, ac], Value.agg #[Value.int .i64 b.al, nx', ac']]) Try.func82 rfl rfl rfl ?_
  rintro _ rfl
  show Cq _ _ _ _ [(0, Value.agg #[Value.int .i64 a.al, nx, ac]), (1, Value.agg #[Value.int .i64 b.al, nx', ac'])] _
  refine Cq.seq ?_
  refine Cq.region ?_
  refine Sq.box .plain rfl rfl (fun b1 w2 e3 hB4 hlo5 => ?_)
  have hd6 := Nat.le_trans (Below.size E) hlo5
  have hs7 := Below.size e3
  replace E := E.trans e3
  refine Sq.box .plain rfl rfl (fun b8 w9 e10 hB11 hlo12 => ?_)
  have hd13 := Nat.le_trans (Below.size E) hlo12
  have hd14 := Nat.lt_of_lt_of_le hB4.lt hlo12
  have hs15 := Below.size e10
  replace E := E.trans e10
  replace hB4 := hB4.ext e10
  refine Sq.assign .plain rfl rfl ?_
  refine Sq.assign .plain rfl rfl ?_
  refine Sq.nil ?_
  refine Eq.next ?_
  refine Cq.seq ?_
  refine Cq.seq ?_
  refine Cq.region ?_
  refine Sq.loadAgg agg26 .plain rfl rfl hB4 rfl ?_
  refine Sq.loadAgg agg26 .plain rfl rfl hB11 rfl ?_
  have hd19 := hB4.lt
  have hd20 := hB11.lt
  refine Sq.call fn74 .plain rfl rfl (cmp_c _ a b _ _ _ _ (hnx.ext E) (hac.ext E) (hnx'.ext E) (hac'.ext E)) ?_
  rintro _ w17 ⟨rfl, e18⟩
  have hs21 := Below.size E
  have hs22 := Below.size e18
  replace E := E.trans e18
  replace hB4 := hB4.ext e18
  replace hB11 := hB11.ext e18
  refine Sq.partB (fun hC => ?_) (fun hC => ?_)
  · refine Sq.notT .plain rfl rfl ?_
    refine Sq.nil ?_
    refine Eq.next ?_
    refine Cq.els rfl ?_
    refine Cq.skip ?_
    refine Eq.next ?_
    refine Cq.seq ?_
    refine Cq.region ?_
    refine Sq.loadAgg agg26 .plain rfl rfl hB4 rfl ?_
    refine Sq.loadAgg agg26 .plain rfl rfl hB11 rfl ?_
    have hd26 := hB4.lt
    have hd27 := hB11.lt
    refine Sq.call fn77 .plain rfl rfl (firstOfBoth_c _ a b _ _ _ _ (hnx.ext E) (hac.ext E) (hnx'.ext E) (hac'.ext E) _ (fun x y => x != y) ⟨106, _, [], rfl, fn106, fun w x y hx => (do1_c w x y).mono fun v w' h => ⟨h.1, h.2 ▸ Ext.refl w⟩⟩ 0 0 (cmp2_spec.1 hC).1 (cmp2_spec.1 hC).2.1 (in_zero (cmp2_spec.1 hC).1 (cmp2_spec.1 hC).2.1)) ?_
    rintro _ w24 ⟨rfl, e25⟩
    have hs28 := Below.size E
    have hs29 := Below.size e25
    replace E := E.trans e25
    refine Sq.extract .plain rfl rfl rfl ?_
    refine Sq.extract .plain rfl rfl rfl ?_
    refine Sq.assign .plain rfl rfl ?_
    refine Sq.assign .plain rfl rfl ?_
    refine Sq.nil ?_
    refine Eq.next ?_
    refine Cq.ret ?_
    refine Eq.ret2 rfl rfl rfl ?_
    exact ⟨by rw [fDif, fTwo, if_pos hC]; rfl, E⟩
  refine Sq.notF .plain rfl rfl ?_
  refine Sq.nil ?_
  refine Eq.next ?_
  refine Cq.thn rfl ?_
  refine Cq.seq ?_
  refine Cq.region ?_
  refine Sq.assign .plain rfl rfl ?_
  refine Sq.assign .plain rfl rfl ?_
  refine Sq.nil ?_
  refine Eq.next ?_
  refine Cq.ret ?_
  refine Eq.pastRet ?_
  refine Eq.ret2 rfl rfl rfl ?_
  exact ⟨by rw [fDif, fTwo, if_neg (by rw [hC]; decide)]; rfl, E⟩
set_option maxRecDepth 100000 in
theorem same_c (w0 : World) (a b : A) (nx ac nx' ac' : Value) (hnx : Rows w0 56 3 nx a.next) (hac : Bools w0 4 ac a.acc) (hnx' : Rows w0 56 3 nx' b.next) (hac' : Bools w0 4 ac' b.acc) : Ret Try.prog 38 #[Value.agg #[Value.int .i64 a.al, nx, ac], Value.agg #[Value.int .i64 b.al, nx', ac']] w0 (fun v w => v = .bool (sameL a b) ∧ Ext w0 w) := by
  have E := Ext.refl w0
  refine Ret.of (args := [Value.agg #[Value.int .i64 a.al, nx, ac], Value.agg #[Value.int .i64 b.al, nx', ac']]) Try.func38 rfl rfl rfl ?_
  rintro _ rfl
  show Cq _ _ _ _ [(0, Value.agg #[Value.int .i64 a.al, nx, ac]), (1, Value.agg #[Value.int .i64 b.al, nx', ac'])] _
  refine Cq.seq ?_
  refine Cq.region ?_
  refine Sq.box .plain rfl rfl (fun b1 w2 e3 hB4 hlo5 => ?_)
  have hd6 := Nat.le_trans (Below.size E) hlo5
  have hs7 := Below.size e3
  replace E := E.trans e3
  refine Sq.box .plain rfl rfl (fun b8 w9 e10 hB11 hlo12 => ?_)
  have hd13 := Nat.le_trans (Below.size E) hlo12
  have hd14 := Nat.lt_of_lt_of_le hB4.lt hlo12
  have hs15 := Below.size e10
  replace E := E.trans e10
  replace hB4 := hB4.ext e10
  refine Sq.assign .plain rfl rfl ?_
  refine Sq.nil ?_
  refine Eq.next ?_
  refine Cq.seq ?_
  refine Cq.region ?_
  refine Sq.loadAgg agg26 .plain rfl rfl hB4 rfl ?_
  refine Sq.loadAgg agg26 .plain rfl rfl hB11 rfl ?_
  have hd19 := hB4.lt
  have hd20 := hB11.lt
  refine Sq.call fn82 .plain rfl rfl (fDif_c _ a b _ _ _ _ (hnx.ext E) (hac.ext E) (hnx'.ext E) (hac'.ext E)) ?_
  rintro _ w17 ⟨rfl, e18⟩
  have hs21 := Below.size E
  have hs22 := Below.size e18
  replace E := E.trans e18
  replace hB4 := hB4.ext e18
  replace hB11 := hB11.ext e18
  refine Sq.move .plain rfl rfl ?_
  refine Sq.extract .plain rfl rfl rfl ?_
  refine Sq.extract .plain rfl rfl rfl ?_
  refine Sq.assign .plain rfl rfl ?_
  refine Sq.assign .plain rfl rfl ?_
  refine Sq.nil ?_
  refine Eq.next ?_
  refine Cq.seq ?_
  refine Cq.region ?_
  refine Sq.loadAgg agg26 .plain rfl rfl hB4 rfl ?_
  refine Sq.loadAgg agg26 .plain rfl rfl hB11 rfl ?_
  have hd26 := hB4.lt
  have hd27 := hB11.lt
  refine Sq.call fn74 .plain rfl rfl (cmp_c _ a b _ _ _ _ (hnx.ext E) (hac.ext E) (hnx'.ext E) (hac'.ext E)) ?_
  rintro _ w24 ⟨rfl, e25⟩
  have hs28 := Below.size E
  have hs29 := Below.size e25
  replace E := E.trans e25
  refine Sq.partB (fun hC => ?_) (fun hC => ?_)
  · refine Sq.move .plain rfl rfl ?_
    refine Sq.move (.met rfl rfl rfl) rfl rfl ?_
    refine Sq.not (.met rfl rfl rfl) rfl rfl ?_
    refine Sq.pickT .plain rfl rfl rfl ?_
    refine Sq.assign .plain rfl rfl ?_
    refine Sq.nil ?_
    refine Eq.next ?_
    refine Cq.ret ?_
    refine Eq.ret1 rfl rfl ?_
    exact ⟨by simp [sameL, hC], E⟩
  refine Sq.move .plain rfl rfl ?_
  refine Sq.off rfl rfl rfl rfl rfl rfl ?_
  refine Sq.off rfl rfl rfl rfl rfl rfl ?_
  refine Sq.pickF .plain rfl rfl rfl ?_
  refine Sq.assign .plain rfl rfl ?_
  refine Sq.nil ?_
  refine Eq.next ?_
  refine Cq.ret ?_
  refine Eq.ret1 rfl rfl ?_
  exact ⟨by simp [sameL, hC], E⟩
end Go.Proofs.Ytdejmfkpohgamaa
set_option linter.unusedSimpArgs false
set_option linter.unusedVariables false
namespace Go.Proofs.Ytdejmfkpohgamaa
open Go.RowKit
set_option maxRecDepth 100000 in
theorem lTrimAutomaton (w0 : World) (e : TypeId) (a0 : Option Addr) (c0 : Nat) (cs : List UInt8) (hc : Bytes w0 e (.slice a0 cs.length c0) cs) (hcap : cs.length ≤ c0) : Ret Try.prog 13 #[Value.slice a0 cs.length c0] w0 (fun v w => v = .bool true ∧ Ext w0 w) := by
  have E := Ext.refl w0
  refine Ret.of (args := [Value.slice a0 cs.length c0]) Try.func13 rfl rfl rfl ?_
  rintro _ rfl
  show Cq _ _ _ _ [(0, Value.slice a0 cs.length c0)] _
  refine Cq.seq ?_
  refine Cq.region ?_
  refine Sq.assign .plain rfl rfl ?_
  refine Sq.nil ?_
  refine Eq.next ?_
  refine Cq.seq ?_
  refine Cq.seq ?_
  refine Cq.region ?_
  refine Sq.move .plain rfl rfl ?_
  refine Sq.lenBytes (hc.ext E) .plain rfl und22 rfl ?_
  refine Sq.gtr .plain rfl rfl rfl ?_
  refine Sq.part (fun c1 => ?_) (fun c1 => ?_)
  · refine Sq.nil ?_
    refine Eq.next ?_
    refine Cq.thn rfl ?_
    refine Cq.seq ?_
    refine Cq.region ?_
    refine Sq.assign .plain rfl rfl ?_
    refine Sq.nil ?_
    refine Eq.next ?_
    refine Cq.ret ?_
    refine Eq.pastRet ?_
    refine Eq.ret1 rfl rfl ?_
    exact ⟨rfl, E⟩
  refine Sq.nil ?_
  refine Eq.next ?_
  refine Cq.els rfl ?_
  refine Cq.skip ?_
  refine Eq.next ?_
  refine Cq.seq ?_
  refine Cq.region ?_
  refine Sq.move .plain rfl rfl ?_
  refine Sq.call fn35 .plain rfl rfl (drawTrim_c _ _ _ _ _ (hc.ext E) hcap) ?_
  rintro _ w3 ⟨⟨a5, ⟨nx6, ac7, rfl, hn8, ha9⟩, hsm10⟩, e4⟩
  have hs11 := Below.size E
  have hs12 := Below.size e4
  replace E := E.trans e4
  refine Sq.alloc zero26 .plain rfl (fun b13 w14 e15 hB16 hlo17 => ?_)
  have hd18 := Nat.le_trans (Below.size E) hlo17
  have hs19 := Below.size e15
  replace E := E.trans e15
  replace hn8 := hn8.ext e15
  replace ha9 := ha9.ext e15
  refine Sq.storeAgg agg26 .plain rfl rfl (one_cons rfl (one_cons (Rows.one hn8) (one_cons (Row.one ha9) one_nil))) hB16 rfl rfl (fun w20 g21 hB22 => ?_)
  have hs23 := World.grownBy.size g21
  replace E := E.grown g21 (fun k hk => by injection hk with hk; subst hk; omega)
  replace hn8 := hn8.stored g21 hB16 (by decide) (by decide)
  replace ha9 := ha9.stored g21 hB16 (by decide)
  replace hB16 := hB22
  refine Sq.nil ?_
  refine Eq.next ?_
  refine Cq.seq ?_
  refine Cq.region ?_
  refine Sq.loadAgg agg26 .plain rfl rfl hB16 rfl ?_
  rcases Bool.eq_false_or_eq_true (validA a5) with hC | hC
  · have hv := hC
    refine Sq.call fn19 .plain rfl rfl (trimA_c_T _ a5 _ _ hn8 ha9 hC) ?_
    rintro _ w25 ⟨⟨_, rfl, nx27, ac28, rfl, hn29, ha30⟩, e26⟩
    have hs31 := Below.size E
    have hs32 := Below.size e26
    replace E := E.trans e26
    replace hn8 := hn8.ext e26
    replace ha9 := ha9.ext e26
    replace hB16 := hB16.ext e26
    refine Sq.move .plain rfl rfl ?_
    refine Sq.extract .plain rfl rfl rfl ?_
    refine Sq.extract .plain rfl rfl rfl ?_
    refine Sq.alloc zero26 .plain rfl (fun b33 w34 e35 hB36 hlo37 => ?_)
    have hd38 := Nat.le_trans (Below.size E) hlo37
    have hd39 := Nat.lt_of_lt_of_le hB16.lt hlo37
    have hs40 := Below.size e35
    replace E := E.trans e35
    replace hn8 := hn8.ext e35
    replace ha9 := ha9.ext e35
    replace hB16 := hB16.ext e35
    replace hn29 := hn29.ext e35
    replace ha30 := ha30.ext e35
    refine Sq.storeAgg agg26 .plain rfl rfl (one_cons rfl (one_cons (Rows.one (OwnRows.rows hn29)) (one_cons (Row.one (Own.row ha30)) one_nil))) hB36 rfl rfl (fun w41 g42 hB43 => ?_)
    have hs44 := World.grownBy.size g42
    replace E := E.grown g42 (fun k hk => by injection hk with hk; subst hk; omega)
    replace hn8 := hn8.stored g42 hB36 (by decide) (by decide)
    replace ha9 := ha9.stored g42 hB36 (by decide)
    replace hB16 := hB16.grown g42 (by intro h; injection h with h; omega)
    replace hn29 := hn29.stored g42 hB36 (by decide) (by decide)
    replace ha30 := ha30.stored g42 hB36 (by decide)
    replace hB36 := hB43
    refine Sq.assign .plain rfl rfl ?_
    refine Sq.nil ?_
    refine Eq.next ?_
    refine Cq.seq ?_
    refine Cq.region ?_
    refine Sq.loadAgg agg26 .plain rfl rfl hB16 rfl ?_
    refine Sq.call fn36 .plain rfl rfl (sTrimA_c_T _ a5 _ _ hn8 ha9 hC) ?_
    rintro _ w46 ⟨⟨_, rfl, nx48, ac49, rfl, hn50, ha51⟩, e47⟩
    have hs52 := Below.size E
    have hs53 := Below.size e47
    replace E := E.trans e47
    replace hn8 := hn8.ext e47
    replace ha9 := ha9.ext e47
    replace hB16 := hB16.ext e47
    replace hn29 := hn29.ext e47
    replace ha30 := ha30.ext e47
    replace hB36 := hB36.ext e47
    refine Sq.move .plain rfl rfl ?_
    refine Sq.extract .plain rfl rfl rfl ?_
    refine Sq.extract .plain rfl rfl rfl ?_
    refine Sq.alloc zero26 .plain rfl (fun b54 w55 e56 hB57 hlo58 => ?_)
    have hd59 := Nat.le_trans (Below.size E) hlo58
    have hd60 := Nat.lt_of_lt_of_le hB16.lt hlo58
    have hd61 := Nat.lt_of_lt_of_le hB36.lt hlo58
    have hs62 := Below.size e56
    replace E := E.trans e56
    replace hn8 := hn8.ext e56
    replace ha9 := ha9.ext e56
    replace hB16 := hB16.ext e56
    replace hn29 := hn29.ext e56
    replace ha30 := ha30.ext e56
    replace hB36 := hB36.ext e56
    replace hn50 := hn50.ext e56
    replace ha51 := ha51.ext e56
    refine Sq.storeAgg agg26 .plain rfl rfl (one_cons rfl (one_cons (Rows.one (OwnRows.rows hn50)) (one_cons (Row.one (Own.row ha51)) one_nil))) hB57 rfl rfl (fun w63 g64 hB65 => ?_)
    have hs66 := World.grownBy.size g64
    replace E := E.grown g64 (fun k hk => by injection hk with hk; subst hk; omega)
    replace hn8 := hn8.stored g64 hB57 (by decide) (by decide)
    replace ha9 := ha9.stored g64 hB57 (by decide)
    replace hB16 := hB16.grown g64 (by intro h; injection h with h; omega)
    replace hn29 := hn29.stored g64 hB57 (by decide) (by decide)
    replace ha30 := ha30.stored g64 hB57 (by decide)
    replace hB36 := hB36.grown g64 (by intro h; injection h with h; omega)
    replace hn50 := hn50.stored g64 hB57 (by decide) (by decide)
    replace ha51 := ha51.stored g64 hB57 (by decide)
    replace hB57 := hB65
    refine Sq.assign .plain rfl rfl ?_
    refine Sq.nil ?_
    refine Eq.next ?_
    refine Cq.seq ?_
    refine Cq.seq ?_
    refine Cq.region ?_
    refine Sq.loadAgg agg26 .plain rfl rfl hB36 rfl ?_
    refine Sq.loadAgg agg26 .plain rfl rfl hB57 rfl ?_
    have hd70 := hB16.lt
    have hd71 := hB36.lt
    have hd72 := hB57.lt
    refine Sq.call fn18 .plain rfl rfl (agAutomata_c _ (trim a5) (trim a5) _ _ _ _ (OwnRows.rows hn29) (Own.row ha30) (OwnRows.rows hn50) (Own.row ha51) (by first | exact fit_zero | exact fit_of_valid (by first | assumption | exact extend_valid hv hk | exact compl_valid' (extend_valid hv hk) | exact trim_valid hv) | assumption)) ?_
    rintro _ w68 ⟨rfl, e69⟩
    have hs73 := Below.size E
    have hs74 := Below.size e69
    replace E := E.trans e69
    replace hn8 := hn8.ext e69
    replace ha9 := ha9.ext e69
    replace hB16 := hB16.ext e69
    replace hn29 := hn29.ext e69
    replace ha30 := ha30.ext e69
    replace hB36 := hB36.ext e69
    replace hB57 := hB57.ext e69
    refine Sq.beT (by exact eqA_refl _) ?_
    refine Sq.notT .plain rfl rfl ?_
    refine Sq.move .plain rfl rfl ?_
    refine Sq.move (.met rfl rfl rfl) rfl rfl ?_
    refine Sq.move (.met rfl rfl rfl) rfl rfl ?_
    refine Sq.neqB und4 (.met rfl rfl rfl) rfl rfl rfl ?_
    refine Sq.pickF .plain rfl rfl rfl ?_
    refine Sq.move .plain rfl rfl ?_
    refine Sq.move (.met rfl rfl rfl) rfl rfl ?_
    refine Sq.loadAgg agg26 (.met rfl rfl rfl) rfl rfl hB16 rfl ?_
    have hd78 := hB16.lt
    have hd79 := hB36.lt
    have hd80 := hB57.lt
    refine Sq.call fn22 (.met rfl rfl rfl) rfl rfl (valid_c _ a5 _ _ hn8 ha9) ?_
    rintro _ w76 ⟨rfl, e77⟩
    have hs81 := Below.size E
    have hs82 := Below.size e77
    replace E := E.trans e77
    replace hn8 := hn8.ext e77
    replace ha9 := ha9.ext e77
    replace hB16 := hB16.ext e77
    replace hn29 := hn29.ext e77
    replace ha30 := ha30.ext e77
    replace hB36 := hB36.ext e77
    refine Sq.beT (hv) ?_
    refine Sq.neqB und4 (.met rfl rfl rfl) rfl rfl rfl ?_
    refine Sq.pickF .plain rfl rfl rfl ?_
    refine Sq.move .plain rfl rfl ?_
    refine Sq.move (.met rfl rfl rfl) rfl rfl ?_
    refine Sq.notT (.met rfl rfl rfl) rfl rfl ?_
    refine Sq.pickF .plain rfl rfl rfl ?_
    refine Sq.nil ?_
    refine Eq.next ?_
    refine Cq.els rfl ?_
    refine Cq.skip ?_
    refine Eq.next ?_
    refine Cq.seq ?_
    refine Cq.seq ?_
    refine Cq.region ?_
    refine Sq.assign .plain rfl rfl ?_
    refine Sq.nil ?_
    refine Eq.next ?_
    refine Cq.block ?_
    have htl := trim_lenI hv
    have hzn := (hsm10).2.1
    refine Cq.loop (fun nn w ls => ∃ (i : Int), ls = [(3, Value.pointer (some ⟨b13, 0, none⟩)), (4, Value.pointer (some ⟨b33, 0, none⟩)), (8, Value.int .i64 i)] ∧ (0 ≤ i ∧ i ≤ ((trim a5).next.length : Int)) ∧ Ext w0 w ∧ Blk w b13 26 [Value.int .i64 a5.al, nx6, ac7] ∧ Rows w 56 3 nx6 a5.next ∧ Bools w 4 ac7 a5.acc ∧ Blk w b33 26 [Value.int .i64 ((trim a5).al), nx27, ac28] ∧ OwnRows w w20.heap.size w25.heap.size 56 3 nx27 (trim a5).next ∧ Own w w20.heap.size 4 ac28 ((trim a5).acc.map Value.bool) ∧ nn = (((trim a5).next.length : Int) - i).toNat) _ _ ⟨0, rfl, by omega, E, hB16, hn8, ha9, hB36, hn29, ha30, rfl⟩ (.cons rfl (.cons rfl (.cons rfl (.nil)))) ?_
    rintro nn wl1 ls ⟨i, rfl, hi, E, hB16, hn8, ha9, hB36, hn29, ha30, rfl⟩
    have hs83 := Below.size E
    refine Cq.seq ?_
    refine Cq.seq ?_
    refine Cq.region ?_
    refine Sq.move .plain rfl rfl ?_
    refine Sq.fieldAddr fld26_1 .plain rfl rfl ?_
    refine Sq.loadB one23 .plain rfl rfl hB36 rfl ?_
    refine Sq.lenRows (OwnRows.rows hn29) .plain rfl und23 rfl ?_
    refine Sq.lss .plain rfl rfl rfl ?_
    refine Sq.part (fun c84 => ?_) (fun c84 => ?_)
    · refine Sq.nil ?_
      refine Eq.next ?_
      refine Cq.thn rfl ?_
      refine Cq.skip ?_
      refine Eq.next ?_
      refine Cq.seq ?_
      refine Cq.block ?_
      refine Cq.seq ?_
      refine Cq.region ?_
      refine Sq.loadAgg agg26 .plain rfl rfl hB36 rfl ?_
      refine Sq.move .plain rfl rfl ?_
      have hd88 := hB16.lt
      have hd89 := hB36.lt
      refine Sq.call fn37 .plain rfl rfl (fAt_c _ (trim a5) _ _ (OwnRows.rows hn29) (Own.row ha30) i) ?_
      rintro _ w86 ⟨rfl, e87⟩
      have hs90 := Below.size E
      have hs91 := Below.size e87
      replace E := E.trans e87
      replace hB16 := hB16.ext e87
      replace hn8 := hn8.ext e87
      replace ha9 := ha9.ext e87
      replace hB36 := hB36.ext e87
      replace hn29 := hn29.ext e87
      replace ha30 := ha30.ext e87
      refine Sq.move .plain rfl rfl ?_
      refine Sq.extract .plain rfl rfl rfl ?_
      refine Sq.extract .plain rfl rfl rfl ?_
      refine Sq.assign .plain rfl rfl ?_
      refine Sq.assign .plain rfl rfl ?_
      refine Sq.nil ?_
      refine Eq.next ?_
      refine Cq.seq ?_
      refine Cq.region ?_
      refine Sq.move .plain rfl rfl ?_
      refine Sq.beT (trim_access hv ⟨by omega, by omega⟩) ?_
      refine Sq.notT .plain rfl rfl ?_
      refine Sq.nil ?_
      refine Eq.next ?_
      refine Cq.els rfl ?_
      refine Cq.skip ?_
      refine Eq.end ?_
      refine Eq.next ?_
      refine Cq.region ?_
      refine Sq.move .plain rfl rfl ?_
      refine Sq.add .plain rfl rfl rfl (by omega) ?_
      refine Sq.assign .plain rfl rfl ?_
      refine Sq.nil ?_
      refine Eq.round _ _ ⟨i + 1, rfl, by omega, E, hB16, hn8, ha9, hB36, hn29, ha30, rfl⟩ (by omega) (.cons rfl (.cons rfl (.cons rfl (.nil))))
    refine Sq.nil ?_
    refine Eq.next ?_
    refine Cq.els rfl ?_
    refine Cq.exit ?_
    refine Eq.past ?_
    refine Eq.past ?_
    refine Eq.hit ?_
    refine Eq.next ?_
    refine Cq.seq ?_
    refine Cq.region ?_
    refine Sq.loadAgg agg26 .plain rfl rfl hB16 rfl ?_
    refine Sq.loadAgg agg26 .plain rfl rfl hB36 rfl ?_
    have hd95 := hB16.lt
    have hd96 := hB36.lt
    refine Sq.call fn38 .plain rfl rfl (same_c _ a5 (trim a5) _ _ _ _ hn8 ha9 (OwnRows.rows hn29) (Own.row ha30)) ?_
    rintro _ w93 ⟨rfl, e94⟩
    have hs97 := Below.size E
    have hs98 := Below.size e94
    replace E := E.trans e94
    replace hB16 := hB16.ext e94
    replace hn8 := hn8.ext e94
    replace hB36 := hB36.ext e94
    replace hn29 := hn29.ext e94
    refine Sq.beT (same_trim hv) ?_
    refine Sq.move .plain rfl rfl ?_
    refine Sq.fieldAddr fld26_1 (.met rfl rfl rfl) rfl rfl ?_
    refine Sq.loadB one23 (.met rfl rfl rfl) rfl rfl hB36 rfl ?_
    refine Sq.lenRows (OwnRows.rows hn29) (.met rfl rfl rfl) rfl und23 rfl ?_
    refine Sq.fieldAddr fld26_1 (.met rfl rfl rfl) rfl rfl ?_
    refine Sq.loadB one23 (.met rfl rfl rfl) rfl rfl hB16 rfl ?_
    refine Sq.lenRows hn8 (.met rfl rfl rfl) rfl und23 rfl ?_
    refine Sq.leq (.met rfl rfl rfl) rfl rfl rfl ?_
    refine Sq.isT (trim_lenI hv) ?_
    refine Sq.pickT .plain rfl rfl rfl ?_
    refine Sq.assign .plain rfl rfl ?_
    refine Sq.nil ?_
    refine Eq.next ?_
    refine Cq.ret ?_
    refine Eq.ret1 rfl rfl ?_
    exact ⟨rfl, E⟩
  refine Sq.call fn19 .plain rfl rfl (trimA_c_F _ a5 _ _ hn8 ha9 hC) ?_
  rintro _ w100 ⟨⟨_, rfl, nx102, ac103, rfl, hn104, ha105⟩, e101⟩
  have hs106 := Below.size E
  have hs107 := Below.size e101
  replace E := E.trans e101
  replace hn8 := hn8.ext e101
  replace ha9 := ha9.ext e101
  replace hB16 := hB16.ext e101
  refine Sq.move .plain rfl rfl ?_
  refine Sq.extract .plain rfl rfl rfl ?_
  refine Sq.extract .plain rfl rfl rfl ?_
  refine Sq.alloc zero26 .plain rfl (fun b108 w109 e110 hB111 hlo112 => ?_)
  have hd113 := Nat.le_trans (Below.size E) hlo112
  have hd114 := Nat.lt_of_lt_of_le hB16.lt hlo112
  have hs115 := Below.size e110
  replace E := E.trans e110
  replace hn8 := hn8.ext e110
  replace ha9 := ha9.ext e110
  replace hB16 := hB16.ext e110
  replace hn104 := hn104.ext e110
  replace ha105 := ha105.ext e110
  refine Sq.storeAgg agg26 .plain rfl rfl (one_cons rfl (one_cons (Rows.one (OwnRows.rows hn104)) (one_cons (Row.one (Own.row ha105)) one_nil))) hB111 rfl rfl (fun w116 g117 hB118 => ?_)
  have hs119 := World.grownBy.size g117
  replace E := E.grown g117 (fun k hk => by injection hk with hk; subst hk; omega)
  replace hn8 := hn8.stored g117 hB111 (by decide) (by decide)
  replace ha9 := ha9.stored g117 hB111 (by decide)
  replace hB16 := hB16.grown g117 (by intro h; injection h with h; omega)
  replace hn104 := hn104.stored g117 hB111 (by decide) (by decide)
  replace ha105 := ha105.stored g117 hB111 (by decide)
  replace hB111 := hB118
  refine Sq.assign .plain rfl rfl ?_
  refine Sq.nil ?_
  refine Eq.next ?_
  refine Cq.seq ?_
  refine Cq.region ?_
  refine Sq.loadAgg agg26 .plain rfl rfl hB16 rfl ?_
  refine Sq.call fn36 .plain rfl rfl (sTrimA_c_F _ a5 _ _ hn8 ha9 hC) ?_
  rintro _ w121 ⟨⟨_, rfl, nx123, ac124, rfl, hn125, ha126⟩, e122⟩
  have hs127 := Below.size E
  have hs128 := Below.size e122
  replace E := E.trans e122
  replace hn8 := hn8.ext e122
  replace ha9 := ha9.ext e122
  replace hB16 := hB16.ext e122
  replace hn104 := hn104.ext e122
  replace ha105 := ha105.ext e122
  replace hB111 := hB111.ext e122
  refine Sq.move .plain rfl rfl ?_
  refine Sq.extract .plain rfl rfl rfl ?_
  refine Sq.extract .plain rfl rfl rfl ?_
  refine Sq.alloc zero26 .plain rfl (fun b129 w130 e131 hB132 hlo133 => ?_)
  have hd134 := Nat.le_trans (Below.size E) hlo133
  have hd135 := Nat.lt_of_lt_of_le hB16.lt hlo133
  have hd136 := Nat.lt_of_lt_of_le hB111.lt hlo133
  have hs137 := Below.size e131
  replace E := E.trans e131
  replace hn8 := hn8.ext e131
  replace ha9 := ha9.ext e131
  replace hB16 := hB16.ext e131
  replace hn104 := hn104.ext e131
  replace ha105 := ha105.ext e131
  replace hB111 := hB111.ext e131
  replace hn125 := hn125.ext e131
  replace ha126 := ha126.ext e131
  refine Sq.storeAgg agg26 .plain rfl rfl (one_cons rfl (one_cons (Rows.one (OwnRows.rows hn125)) (one_cons (Row.one (Own.row ha126)) one_nil))) hB132 rfl rfl (fun w138 g139 hB140 => ?_)
  have hs141 := World.grownBy.size g139
  replace E := E.grown g139 (fun k hk => by injection hk with hk; subst hk; omega)
  replace hn8 := hn8.stored g139 hB132 (by decide) (by decide)
  replace ha9 := ha9.stored g139 hB132 (by decide)
  replace hB16 := hB16.grown g139 (by intro h; injection h with h; omega)
  replace hn104 := hn104.stored g139 hB132 (by decide) (by decide)
  replace ha105 := ha105.stored g139 hB132 (by decide)
  replace hB111 := hB111.grown g139 (by intro h; injection h with h; omega)
  replace hn125 := hn125.stored g139 hB132 (by decide) (by decide)
  replace ha126 := ha126.stored g139 hB132 (by decide)
  replace hB132 := hB140
  refine Sq.assign .plain rfl rfl ?_
  refine Sq.nil ?_
  refine Eq.next ?_
  refine Cq.seq ?_
  refine Cq.seq ?_
  refine Cq.region ?_
  refine Sq.loadAgg agg26 .plain rfl rfl hB111 rfl ?_
  refine Sq.loadAgg agg26 .plain rfl rfl hB132 rfl ?_
  have hd145 := hB16.lt
  have hd146 := hB111.lt
  have hd147 := hB132.lt
  refine Sq.call fn18 .plain rfl rfl (agAutomata_c _ zeroA zeroA _ _ _ _ (OwnRows.rows hn104) (Own.row ha105) (OwnRows.rows hn125) (Own.row ha126) (by first | exact fit_zero | exact fit_of_valid (by first | assumption | exact extend_valid hv hk | exact compl_valid' (extend_valid hv hk) | exact trim_valid hv) | assumption)) ?_
  rintro _ w143 ⟨rfl, e144⟩
  have hs148 := Below.size E
  have hs149 := Below.size e144
  replace E := E.trans e144
  replace hn8 := hn8.ext e144
  replace ha9 := ha9.ext e144
  replace hB16 := hB16.ext e144
  replace hn104 := hn104.ext e144
  replace ha105 := ha105.ext e144
  replace hB111 := hB111.ext e144
  replace hn125 := hn125.ext e144
  replace ha126 := ha126.ext e144
  replace hB132 := hB132.ext e144
  refine Sq.beT (by exact eqA_refl _) ?_
  refine Sq.notT .plain rfl rfl ?_
  refine Sq.move .plain rfl rfl ?_
  refine Sq.move (.met rfl rfl rfl) rfl rfl ?_
  refine Sq.move (.met rfl rfl rfl) rfl rfl ?_
  refine Sq.neqB und4 (.met rfl rfl rfl) rfl rfl rfl ?_
  refine Sq.pickF .plain rfl rfl rfl ?_
  refine Sq.move .plain rfl rfl ?_
  refine Sq.move (.met rfl rfl rfl) rfl rfl ?_
  refine Sq.loadAgg agg26 (.met rfl rfl rfl) rfl rfl hB16 rfl ?_
  have hd153 := hB16.lt
  have hd154 := hB111.lt
  have hd155 := hB132.lt
  refine Sq.call fn22 (.met rfl rfl rfl) rfl rfl (valid_c _ a5 _ _ hn8 ha9) ?_
  rintro _ w151 ⟨rfl, e152⟩
  have hs156 := Below.size E
  have hs157 := Below.size e152
  replace E := E.trans e152
  replace hn8 := hn8.ext e152
  replace ha9 := ha9.ext e152
  replace hB16 := hB16.ext e152
  replace hn104 := hn104.ext e152
  replace ha105 := ha105.ext e152
  replace hB111 := hB111.ext e152
  replace hn125 := hn125.ext e152
  replace ha126 := ha126.ext e152
  replace hB132 := hB132.ext e152
  refine Sq.beF (hC) ?_
  refine Sq.neqB und4 (.met rfl rfl rfl) rfl rfl rfl ?_
  refine Sq.pickF .plain rfl rfl rfl ?_
  refine Sq.move .plain rfl rfl ?_
  refine Sq.move (.met rfl rfl rfl) rfl rfl ?_
  refine Sq.notF (.met rfl rfl rfl) rfl rfl ?_
  refine Sq.pickF .plain rfl rfl rfl ?_
  refine Sq.nil ?_
  refine Eq.next ?_
  refine Cq.thn rfl ?_
  refine Cq.seq ?_
  refine Cq.region ?_
  refine Sq.loadAgg agg26 .plain rfl rfl hB111 rfl ?_
  refine Sq.loadAgg agg26 .plain rfl rfl hB132 rfl ?_
  have hd161 := hB16.lt
  have hd162 := hB111.lt
  have hd163 := hB132.lt
  refine Sq.call fn18 .plain rfl rfl (agAutomata_c _ zeroA zeroA _ _ _ _ (OwnRows.rows hn104) (Own.row ha105) (OwnRows.rows hn125) (Own.row ha126) (by first | exact fit_zero | exact fit_of_valid (by first | assumption | exact extend_valid hv hk | exact compl_valid' (extend_valid hv hk) | exact trim_valid hv) | assumption)) ?_
  rintro _ w159 ⟨rfl, e160⟩
  have hs164 := Below.size E
  have hs165 := Below.size e160
  replace E := E.trans e160
  replace hn8 := hn8.ext e160
  replace ha9 := ha9.ext e160
  replace hB16 := hB16.ext e160
  replace hB111 := hB111.ext e160
  replace hB132 := hB132.ext e160
  refine Sq.beT (by exact eqA_refl _) ?_
  refine Sq.move .plain rfl rfl ?_
  refine Sq.move (.met rfl rfl rfl) rfl rfl ?_
  refine Sq.move (.met rfl rfl rfl) rfl rfl ?_
  refine Sq.eqlB und4 (.met rfl rfl rfl) rfl rfl rfl ?_
  refine Sq.pickT .plain rfl rfl rfl ?_
  refine Sq.move .plain rfl rfl ?_
  refine Sq.move (.met rfl rfl rfl) rfl rfl ?_
  refine Sq.loadAgg agg26 (.met rfl rfl rfl) rfl rfl hB16 rfl ?_
  have hd169 := hB16.lt
  have hd170 := hB111.lt
  have hd171 := hB132.lt
  refine Sq.call fn22 (.met rfl rfl rfl) rfl rfl (valid_c _ a5 _ _ hn8 ha9) ?_
  rintro _ w167 ⟨rfl, e168⟩
  have hs172 := Below.size E
  have hs173 := Below.size e168
  replace E := E.trans e168
  refine Sq.beF (hC) ?_
  refine Sq.eqlB und4 (.met rfl rfl rfl) rfl rfl rfl ?_
  refine Sq.pickT .plain rfl rfl rfl ?_
  refine Sq.assign .plain rfl rfl ?_
  refine Sq.nil ?_
  refine Eq.next ?_
  refine Cq.ret ?_
  refine Eq.pastRet ?_
  refine Eq.ret1 rfl rfl ?_
  exact ⟨rfl, E⟩
set_option maxRecDepth 100000 in
theorem lTrimOrder (w0 : World) (e : TypeId) (a0 : Option Addr) (c0 : Nat) (cs : List UInt8) (hc : Bytes w0 e (.slice a0 cs.length c0) cs) (hcap : cs.length ≤ c0) : Ret Try.prog 14 #[Value.slice a0 cs.length c0] w0 (fun v w => v = .bool true ∧ Ext w0 w) := by
  have E := Ext.refl w0
  refine Ret.of (args := [Value.slice a0 cs.length c0]) Try.func14 rfl rfl rfl ?_
  rintro _ rfl
  show Cq _ _ _ _ [(0, Value.slice a0 cs.length c0)] _
  refine Cq.seq ?_
  refine Cq.region ?_
  refine Sq.assign .plain rfl rfl ?_
  refine Sq.nil ?_
  refine Eq.next ?_
  refine Cq.seq ?_
  refine Cq.seq ?_
  refine Cq.region ?_
  refine Sq.move .plain rfl rfl ?_
  refine Sq.lenBytes (hc.ext E) .plain rfl und22 rfl ?_
  refine Sq.gtr .plain rfl rfl rfl ?_
  refine Sq.part (fun c1 => ?_) (fun c1 => ?_)
  · refine Sq.nil ?_
    refine Eq.next ?_
    refine Cq.thn rfl ?_
    refine Cq.seq ?_
    refine Cq.region ?_
    refine Sq.assign .plain rfl rfl ?_
    refine Sq.nil ?_
    refine Eq.next ?_
    refine Cq.ret ?_
    refine Eq.pastRet ?_
    refine Eq.ret1 rfl rfl ?_
    exact ⟨rfl, E⟩
  refine Sq.nil ?_
  refine Eq.next ?_
  refine Cq.els rfl ?_
  refine Cq.skip ?_
  refine Eq.next ?_
  refine Cq.seq ?_
  refine Cq.region ?_
  refine Sq.move .plain rfl rfl ?_
  refine Sq.call fn35 .plain rfl rfl (drawTrim_c _ _ _ _ _ (hc.ext E) hcap) ?_
  rintro _ w3 ⟨⟨a5, ⟨nx6, ac7, rfl, hn8, ha9⟩, hsm10⟩, e4⟩
  have hs11 := Below.size E
  have hs12 := Below.size e4
  replace E := E.trans e4
  refine Sq.alloc zero26 .plain rfl (fun b13 w14 e15 hB16 hlo17 => ?_)
  have hd18 := Nat.le_trans (Below.size E) hlo17
  have hs19 := Below.size e15
  replace E := E.trans e15
  replace hn8 := hn8.ext e15
  replace ha9 := ha9.ext e15
  refine Sq.storeAgg agg26 .plain rfl rfl (one_cons rfl (one_cons (Rows.one hn8) (one_cons (Row.one ha9) one_nil))) hB16 rfl rfl (fun w20 g21 hB22 => ?_)
  have hs23 := World.grownBy.size g21
  replace E := E.grown g21 (fun k hk => by injection hk with hk; subst hk; omega)
  replace hn8 := hn8.stored g21 hB16 (by decide) (by decide)
  replace ha9 := ha9.stored g21 hB16 (by decide)
  replace hB16 := hB22
  refine Sq.nil ?_
  refine Eq.next ?_
  refine Cq.seq ?_
  refine Cq.region ?_
  refine Sq.loadAgg agg26 .plain rfl rfl hB16 rfl ?_
  rcases Bool.eq_false_or_eq_true (validA a5) with hC | hC
  · have hv := hC
    refine Sq.call fn19 .plain rfl rfl (trimA_c_T _ a5 _ _ hn8 ha9 hC) ?_
    rintro _ w25 ⟨⟨_, rfl, nx27, ac28, rfl, hn29, ha30⟩, e26⟩
    have hs31 := Below.size E
    have hs32 := Below.size e26
    replace E := E.trans e26
    replace hn8 := hn8.ext e26
    replace ha9 := ha9.ext e26
    replace hB16 := hB16.ext e26
    refine Sq.move .plain rfl rfl ?_
    refine Sq.extract .plain rfl rfl rfl ?_
    refine Sq.extract .plain rfl rfl rfl ?_
    refine Sq.alloc zero26 .plain rfl (fun b33 w34 e35 hB36 hlo37 => ?_)
    have hd38 := Nat.le_trans (Below.size E) hlo37
    have hd39 := Nat.lt_of_lt_of_le hB16.lt hlo37
    have hs40 := Below.size e35
    replace E := E.trans e35
    replace hn8 := hn8.ext e35
    replace ha9 := ha9.ext e35
    replace hB16 := hB16.ext e35
    replace hn29 := hn29.ext e35
    replace ha30 := ha30.ext e35
    refine Sq.storeAgg agg26 .plain rfl rfl (one_cons rfl (one_cons (Rows.one (OwnRows.rows hn29)) (one_cons (Row.one (Own.row ha30)) one_nil))) hB36 rfl rfl (fun w41 g42 hB43 => ?_)
    have hs44 := World.grownBy.size g42
    replace E := E.grown g42 (fun k hk => by injection hk with hk; subst hk; omega)
    replace hn8 := hn8.stored g42 hB36 (by decide) (by decide)
    replace ha9 := ha9.stored g42 hB36 (by decide)
    replace hB16 := hB16.grown g42 (by intro h; injection h with h; omega)
    replace hn29 := hn29.stored g42 hB36 (by decide) (by decide)
    replace ha30 := ha30.stored g42 hB36 (by decide)
    replace hB36 := hB43
    refine Sq.assign .plain rfl rfl ?_
    refine Sq.nil ?_
    refine Eq.next ?_
    refine Cq.seq ?_
    refine Cq.region ?_
    refine Sq.loadAgg agg26 .plain rfl rfl hB16 rfl ?_
    refine Sq.call fn36 .plain rfl rfl (sTrimA_c_T _ a5 _ _ hn8 ha9 hC) ?_
    rintro _ w46 ⟨⟨_, rfl, nx48, ac49, rfl, hn50, ha51⟩, e47⟩
    have hs52 := Below.size E
    have hs53 := Below.size e47
    replace E := E.trans e47
    replace hn8 := hn8.ext e47
    replace ha9 := ha9.ext e47
    replace hB16 := hB16.ext e47
    replace hn29 := hn29.ext e47
    replace ha30 := ha30.ext e47
    replace hB36 := hB36.ext e47
    refine Sq.move .plain rfl rfl ?_
    refine Sq.extract .plain rfl rfl rfl ?_
    refine Sq.extract .plain rfl rfl rfl ?_
    refine Sq.alloc zero26 .plain rfl (fun b54 w55 e56 hB57 hlo58 => ?_)
    have hd59 := Nat.le_trans (Below.size E) hlo58
    have hd60 := Nat.lt_of_lt_of_le hB16.lt hlo58
    have hd61 := Nat.lt_of_lt_of_le hB36.lt hlo58
    have hs62 := Below.size e56
    replace E := E.trans e56
    replace hn8 := hn8.ext e56
    replace ha9 := ha9.ext e56
    replace hB16 := hB16.ext e56
    replace hn29 := hn29.ext e56
    replace ha30 := ha30.ext e56
    replace hB36 := hB36.ext e56
    replace hn50 := hn50.ext e56
    replace ha51 := ha51.ext e56
    refine Sq.storeAgg agg26 .plain rfl rfl (one_cons rfl (one_cons (Rows.one (OwnRows.rows hn50)) (one_cons (Row.one (Own.row ha51)) one_nil))) hB57 rfl rfl (fun w63 g64 hB65 => ?_)
    have hs66 := World.grownBy.size g64
    replace E := E.grown g64 (fun k hk => by injection hk with hk; subst hk; omega)
    replace hn8 := hn8.stored g64 hB57 (by decide) (by decide)
    replace ha9 := ha9.stored g64 hB57 (by decide)
    replace hB16 := hB16.grown g64 (by intro h; injection h with h; omega)
    replace hn29 := hn29.stored g64 hB57 (by decide) (by decide)
    replace ha30 := ha30.stored g64 hB57 (by decide)
    replace hB36 := hB36.grown g64 (by intro h; injection h with h; omega)
    replace hn50 := hn50.stored g64 hB57 (by decide) (by decide)
    replace ha51 := ha51.stored g64 hB57 (by decide)
    replace hB57 := hB65
    refine Sq.assign .plain rfl rfl ?_
    refine Sq.nil ?_
    refine Eq.next ?_
    refine Cq.seq ?_
    refine Cq.seq ?_
    refine Cq.region ?_
    refine Sq.loadAgg agg26 .plain rfl rfl hB36 rfl ?_
    refine Sq.loadAgg agg26 .plain rfl rfl hB57 rfl ?_
    have hd70 := hB16.lt
    have hd71 := hB36.lt
    have hd72 := hB57.lt
    refine Sq.call fn18 .plain rfl rfl (agAutomata_c _ (trim a5) (trim a5) _ _ _ _ (OwnRows.rows hn29) (Own.row ha30) (OwnRows.rows hn50) (Own.row ha51) (by first | exact fit_zero | exact fit_of_valid (by first | assumption | exact extend_valid hv hk | exact compl_valid' (extend_valid hv hk) | exact trim_valid hv) | assumption)) ?_
    rintro _ w68 ⟨rfl, e69⟩
    have hs73 := Below.size E
    have hs74 := Below.size e69
    replace E := E.trans e69
    replace hn8 := hn8.ext e69
    replace ha9 := ha9.ext e69
    replace hB16 := hB16.ext e69
    replace hn29 := hn29.ext e69
    replace ha30 := ha30.ext e69
    replace hB36 := hB36.ext e69
    refine Sq.beT (by exact eqA_refl _) ?_
    refine Sq.notT .plain rfl rfl ?_
    refine Sq.move .plain rfl rfl ?_
    refine Sq.move (.met rfl rfl rfl) rfl rfl ?_
    refine Sq.move (.met rfl rfl rfl) rfl rfl ?_
    refine Sq.neqB und4 (.met rfl rfl rfl) rfl rfl rfl ?_
    refine Sq.pickF .plain rfl rfl rfl ?_
    refine Sq.move .plain rfl rfl ?_
    refine Sq.move (.met rfl rfl rfl) rfl rfl ?_
    refine Sq.notT (.met rfl rfl rfl) rfl rfl ?_
    refine Sq.pickF .plain rfl rfl rfl ?_
    refine Sq.nil ?_
    refine Eq.next ?_
    refine Cq.els rfl ?_
    refine Cq.skip ?_
    refine Eq.next ?_
    refine Cq.seq ?_
    refine Cq.region ?_
    refine Sq.assign .plain rfl rfl ?_
    refine Sq.nil ?_
    refine Eq.next ?_
    refine Cq.seq ?_
    refine Cq.seq ?_
    refine Cq.region ?_
    refine Sq.assign .plain rfl rfl ?_
    refine Sq.nil ?_
    refine Eq.next ?_
    refine Cq.block ?_
    have htl := trim_lenI hv
    have hzn := (hsm10).2.1
    refine Cq.loop (fun nn w ls => ∃ (i : Int), ∃ (l : ByteArray), ls = [(3, Value.pointer (some ⟨b13, 0, none⟩)), (4, Value.pointer (some ⟨b33, 0, none⟩)), (8, Value.string l), (9, Value.int .i64 i)] ∧ (0 ≤ i ∧ i ≤ ((trim a5).next.length : Int)) ∧ (0 < i → l = accTxt a5 (i - 1)) ∧ Ext w0 w ∧ Blk w b13 26 [Value.int .i64 a5.al, nx6, ac7] ∧ Rows w 56 3 nx6 a5.next ∧ Bools w 4 ac7 a5.acc ∧ Blk w b33 26 [Value.int .i64 ((trim a5).al), nx27, ac28] ∧ OwnRows w w20.heap.size w25.heap.size 56 3 nx27 (trim a5).next ∧ Own w w20.heap.size 4 ac28 ((trim a5).acc.map Value.bool) ∧ nn = (((trim a5).next.length : Int) - i).toNat) _ _ ⟨0, _, rfl, by omega, fun h => by omega, E, hB16, hn8, ha9, hB36, hn29, ha30, rfl⟩ (.cons rfl (.cons rfl (.cons rfl (.cons rfl (.nil))))) ?_
    rintro nn wl1 ls ⟨i, l, rfl, hi, hl, E, hB16, hn8, ha9, hB36, hn29, ha30, rfl⟩
    have hs75 := Below.size E
    refine Cq.seq ?_
    refine Cq.seq ?_
    refine Cq.region ?_
    refine Sq.move .plain rfl rfl ?_
    refine Sq.fieldAddr fld26_1 .plain rfl rfl ?_
    refine Sq.loadB one23 .plain rfl rfl hB36 rfl ?_
    refine Sq.lenRows (OwnRows.rows hn29) .plain rfl und23 rfl ?_
    refine Sq.lss .plain rfl rfl rfl ?_
    refine Sq.part (fun c76 => ?_) (fun c76 => ?_)
    · refine Sq.nil ?_
      refine Eq.next ?_
      refine Cq.thn rfl ?_
      refine Cq.skip ?_
      refine Eq.next ?_
      refine Cq.seq ?_
      refine Cq.block ?_
      refine Cq.seq ?_
      refine Cq.region ?_
      refine Sq.loadAgg agg26 .plain rfl rfl hB36 rfl ?_
      refine Sq.move .plain rfl rfl ?_
      have hd80 := hB16.lt
      have hd81 := hB36.lt
      refine Sq.call fn37 .plain rfl rfl (fAt_c _ (trim a5) _ _ (OwnRows.rows hn29) (Own.row ha30) i) ?_
      rintro _ w78 ⟨rfl, e79⟩
      have hs82 := Below.size E
      have hs83 := Below.size e79
      replace E := E.trans e79
      replace hB16 := hB16.ext e79
      replace hn8 := hn8.ext e79
      replace ha9 := ha9.ext e79
      replace hB36 := hB36.ext e79
      replace hn29 := hn29.ext e79
      replace ha30 := ha30.ext e79
      refine Sq.move .plain rfl rfl ?_
      refine Sq.extract .plain rfl rfl rfl ?_
      refine Sq.extract .plain rfl rfl rfl ?_
      refine Sq.assign .plain rfl rfl ?_
      refine Sq.assign .plain rfl rfl ?_
      refine Sq.nil ?_
      refine Eq.next ?_
      refine Cq.seq ?_
      refine Cq.drawS 9 (fun w' => Blk w' b13 26 [Value.int .i64 a5.al, nx6, ac7]) mixed (hB16) (fun w84 e85 hS => ?_)
      clear hS
      have hs86 := Below.size e85
      replace E := E.trans e85
      replace hB16 := hB16.ext e85
      replace hn8 := hn8.ext e85
      replace ha9 := ha9.ext e85
      replace hB36 := hB36.ext e85
      replace hn29 := hn29.ext e85
      replace ha30 := ha30.ext e85
      refine Gq.st 0 rfl (by kernel_rfl) rfl .plain rfl (fun _ _ _ h => h) hB16 (fun w' x => Still.loadAgg agg26 rfl x rfl) ?_
      refine Gq.st 1 rfl (by kernel_rfl) rfl .plain rfl (fun _ _ _ h => h) hB16 (fun w' x => Still.loadAgg agg26 rfl x rfl) ?_
      refine Gq.st 2 rfl (by kernel_rfl) rfl .plain rfl (fun _ _ _ h => h) hB16 (fun w' x => Still.move rfl) ?_
      refine Gq.one 3 rfl (by kernel_rfl) ?_
      have hd90 := hB16.lt
      have hd91 := hB36.lt
      refine Sq.call fn39 .plain rfl rfl (after_c _ a5 _ _ hn8 ha9 ((txt ((fAt (trim a5) i).getD []))) (by first | omega | exact Nat.le_trans at_size (by decide) | exact Nat.le_trans (size_cut _) (Nat.le_trans at_size (by decide)))) ?_
      rintro _ w88 ⟨rfl, e89⟩
      have hs92 := Below.size E
      have hs93 := Below.size e89
      replace E := E.trans e89
      replace hB16 := hB16.ext e89
      replace hn8 := hn8.ext e89
      replace ha9 := ha9.ext e89
      replace hB36 := hB36.ext e89
      replace hn29 := hn29.ext e89
      replace ha30 := ha30.ext e89
      refine Sq.nil ?_
      refine Eq.goes (fun _ => hB16) ?_
      refine Gq.one 4 rfl (by kernel_rfl) ?_
      have hd97 := hB16.lt
      have hd98 := hB36.lt
      refine Sq.call fn37 .plain rfl rfl (fAt_c _ a5 _ _ hn8 ha9 ((after a5 ((txt ((fAt (trim a5) i).getD [])))))) ?_
      rintro _ w95 ⟨rfl, e96⟩
      have hs99 := Below.size E
      have hs100 := Below.size e96
      replace E := E.trans e96
      replace hB16 := hB16.ext e96
      replace hn8 := hn8.ext e96
      replace ha9 := ha9.ext e96
      replace hB36 := hB36.ext e96
      replace hn29 := hn29.ext e96
      replace ha30 := ha30.ext e96
      refine Sq.nil ?_
      refine Eq.goes (fun _ => hB16) ?_
      refine Gq.st 5 rfl (by kernel_rfl) rfl .plain rfl (fun _ _ _ h => h) hB16 (fun w' x => Still.move rfl) ?_
      refine Gq.st 6 rfl (by kernel_rfl) rfl .plain rfl (fun _ _ _ h => h) hB16 (fun w' x => Still.extract rfl rfl) ?_
      refine Gq.st 7 rfl (by kernel_rfl) rfl .plain rfl (fun _ _ _ h => h) hB16 (fun w' x => Still.extract rfl rfl) ?_
      refine Gq.st 8 rfl (by kernel_rfl) rfl .plain rfl (fun _ _ _ h => h) hB16 (fun w' x => Still.assign rfl) ?_
      refine Gq.one 9 rfl (by kernel_rfl) ?_
      refine Sq.assign .plain rfl rfl ?_
      refine Sq.nil ?_
      refine Eq.goes (fun h => absurd h (by decide)) ?_
      refine Gq.done (by kernel_rfl) ?_
      refine Eq.next ?_
      refine Cq.seq ?_
      refine Cq.seq ?_
      refine Cq.region ?_
      refine Sq.move .plain rfl rfl ?_
      refine Sq.beT (trim_access hv ⟨by omega, by omega⟩) ?_
      refine Sq.notT .plain rfl rfl ?_
      refine Sq.move .plain rfl rfl ?_
      refine Sq.move (.met rfl rfl rfl) rfl rfl ?_
      refine Sq.beT ((trim_order hv (i := i) ⟨by omega, by omega⟩).1) ?_
      refine Sq.notT (.met rfl rfl rfl) rfl rfl ?_
      refine Sq.pickF .plain rfl rfl rfl ?_
      refine Sq.move .plain rfl rfl ?_
      refine Sq.move (.met rfl rfl rfl) rfl rfl ?_
      refine Sq.move (.met rfl rfl rfl) rfl rfl ?_
      refine Sq.neqS (.met rfl rfl rfl) rfl rfl rfl ?_
      refine Sq.isF (fun h => h (bytes_same (trim_order hv (i := i) ⟨by omega, by omega⟩).2.1)) ?_
      refine Sq.pickF .plain rfl rfl rfl ?_
      refine Sq.move .plain rfl rfl ?_
      refine Sq.move (.met rfl rfl rfl) rfl rfl ?_
      refine Sq.gtr (.met rfl rfl rfl) rfl rfl rfl ?_
      refine Sq.part (fun hi0 => ?_) (fun hi0 => ?_)
      · refine Sq.move (.met rfl rfl rfl) rfl rfl ?_
        refine Sq.move (.met rfl rfl rfl) rfl rfl ?_
        refine Sq.move (.met rfl rfl rfl) rfl rfl ?_
        have hd104 := hB16.lt
        have hd105 := hB36.lt
        refine Sq.call fn40 (.met rfl rfl rfl) rfl rfl (before_c l ((txt ((fAt (trim a5) i).getD []))) _) ?_
        rintro _ w102 ⟨rfl, e103⟩
        have hs106 := Below.size E
        have hs107 := Below.size e103
        replace E := E.trans e103
        replace hB16 := hB16.ext e103
        replace hn8 := hn8.ext e103
        replace ha9 := ha9.ext e103
        replace hB36 := hB36.ext e103
        replace hn29 := hn29.ext e103
        replace ha30 := ha30.ext e103
        refine Sq.beT (by rw [hl hi0]; exact (trim_order hv (i := i) ⟨by omega, by omega⟩).2.2 hi0) ?_
        refine Sq.notT (.met rfl rfl rfl) rfl rfl ?_
        refine Sq.pickT (.met rfl rfl rfl) rfl rfl rfl ?_
        refine Sq.pickF .plain rfl rfl rfl ?_
        refine Sq.nil ?_
        refine Eq.next ?_
        refine Cq.els rfl ?_
        refine Cq.skip ?_
        refine Eq.next ?_
        refine Cq.region ?_
        refine Sq.move .plain rfl rfl ?_
        refine Sq.assign .plain rfl rfl ?_
        refine Sq.nil ?_
        refine Eq.end ?_
        refine Eq.next ?_
        refine Cq.region ?_
        refine Sq.move .plain rfl rfl ?_
        refine Sq.add .plain rfl rfl rfl (by omega) ?_
        refine Sq.assign .plain rfl rfl ?_
        refine Sq.nil ?_
        refine Eq.round _ _ ⟨i + 1, _, rfl, by omega, fun _ => by rw [show i + 1 - 1 = i by omega]; rfl, E, hB16, hn8, ha9, hB36, hn29, ha30, rfl⟩ (by omega) (.cons rfl (.cons rfl (.cons rfl (.cons rfl (.nil)))))
      refine Sq.move (.met rfl rfl rfl) rfl rfl ?_
      refine Sq.off rfl rfl rfl rfl rfl rfl ?_
      refine Sq.off rfl rfl rfl rfl rfl rfl ?_
      refine Sq.off rfl rfl rfl rfl rfl rfl ?_
      refine Sq.off rfl rfl rfl rfl rfl rfl ?_
      refine Sq.pickF (.met rfl rfl rfl) rfl rfl rfl ?_
      refine Sq.pickF .plain rfl rfl rfl ?_
      refine Sq.nil ?_
      refine Eq.next ?_
      refine Cq.els rfl ?_
      refine Cq.skip ?_
      refine Eq.next ?_
      refine Cq.region ?_
      refine Sq.move .plain rfl rfl ?_
      refine Sq.assign .plain rfl rfl ?_
      refine Sq.nil ?_
      refine Eq.end ?_
      refine Eq.next ?_
      refine Cq.region ?_
      refine Sq.move .plain rfl rfl ?_
      refine Sq.add .plain rfl rfl rfl (by omega) ?_
      refine Sq.assign .plain rfl rfl ?_
      refine Sq.nil ?_
      refine Eq.round _ _ ⟨i + 1, _, rfl, by omega, fun _ => by rw [show i + 1 - 1 = i by omega]; rfl, E, hB16, hn8, ha9, hB36, hn29, ha30, rfl⟩ (by omega) (.cons rfl (.cons rfl (.cons rfl (.cons rfl (.nil)))))
    refine Sq.nil ?_
    refine Eq.next ?_
    refine Cq.els rfl ?_
    refine Cq.exit ?_
    refine Eq.past ?_
    refine Eq.past ?_
    refine Eq.hit ?_
    refine Eq.next ?_
    refine Cq.seq ?_
    refine Cq.region ?_
    refine Sq.assign .plain rfl rfl ?_
    refine Sq.nil ?_
    refine Eq.next ?_
    refine Cq.ret ?_
    refine Eq.ret1 rfl rfl ?_
    exact ⟨rfl, E⟩
  refine Sq.call fn19 .plain rfl rfl (trimA_c_F _ a5 _ _ hn8 ha9 hC) ?_
  rintro _ w109 ⟨⟨_, rfl, nx111, ac112, rfl, hn113, ha114⟩, e110⟩
  have hs115 := Below.size E
  have hs116 := Below.size e110
  replace E := E.trans e110
  replace hn8 := hn8.ext e110
  replace ha9 := ha9.ext e110
  replace hB16 := hB16.ext e110
  refine Sq.move .plain rfl rfl ?_
  refine Sq.extract .plain rfl rfl rfl ?_
  refine Sq.extract .plain rfl rfl rfl ?_
  refine Sq.alloc zero26 .plain rfl (fun b117 w118 e119 hB120 hlo121 => ?_)
  have hd122 := Nat.le_trans (Below.size E) hlo121
  have hd123 := Nat.lt_of_lt_of_le hB16.lt hlo121
  have hs124 := Below.size e119
  replace E := E.trans e119
  replace hn8 := hn8.ext e119
  replace ha9 := ha9.ext e119
  replace hB16 := hB16.ext e119
  replace hn113 := hn113.ext e119
  replace ha114 := ha114.ext e119
  refine Sq.storeAgg agg26 .plain rfl rfl (one_cons rfl (one_cons (Rows.one (OwnRows.rows hn113)) (one_cons (Row.one (Own.row ha114)) one_nil))) hB120 rfl rfl (fun w125 g126 hB127 => ?_)
  have hs128 := World.grownBy.size g126
  replace E := E.grown g126 (fun k hk => by injection hk with hk; subst hk; omega)
  replace hn8 := hn8.stored g126 hB120 (by decide) (by decide)
  replace ha9 := ha9.stored g126 hB120 (by decide)
  replace hB16 := hB16.grown g126 (by intro h; injection h with h; omega)
  replace hn113 := hn113.stored g126 hB120 (by decide) (by decide)
  replace ha114 := ha114.stored g126 hB120 (by decide)
  replace hB120 := hB127
  refine Sq.assign .plain rfl rfl ?_
  refine Sq.nil ?_
  refine Eq.next ?_
  refine Cq.seq ?_
  refine Cq.region ?_
  refine Sq.loadAgg agg26 .plain rfl rfl hB16 rfl ?_
  refine Sq.call fn36 .plain rfl rfl (sTrimA_c_F _ a5 _ _ hn8 ha9 hC) ?_
  rintro _ w130 ⟨⟨_, rfl, nx132, ac133, rfl, hn134, ha135⟩, e131⟩
  have hs136 := Below.size E
  have hs137 := Below.size e131
  replace E := E.trans e131
  replace hB16 := hB16.ext e131
  replace hn113 := hn113.ext e131
  replace ha114 := ha114.ext e131
  replace hB120 := hB120.ext e131
  refine Sq.move .plain rfl rfl ?_
  refine Sq.extract .plain rfl rfl rfl ?_
  refine Sq.extract .plain rfl rfl rfl ?_
  refine Sq.alloc zero26 .plain rfl (fun b138 w139 e140 hB141 hlo142 => ?_)
  have hd143 := Nat.le_trans (Below.size E) hlo142
  have hd144 := Nat.lt_of_lt_of_le hB16.lt hlo142
  have hd145 := Nat.lt_of_lt_of_le hB120.lt hlo142
  have hs146 := Below.size e140
  replace E := E.trans e140
  replace hB16 := hB16.ext e140
  replace hn113 := hn113.ext e140
  replace ha114 := ha114.ext e140
  replace hB120 := hB120.ext e140
  replace hn134 := hn134.ext e140
  replace ha135 := ha135.ext e140
  refine Sq.storeAgg agg26 .plain rfl rfl (one_cons rfl (one_cons (Rows.one (OwnRows.rows hn134)) (one_cons (Row.one (Own.row ha135)) one_nil))) hB141 rfl rfl (fun w147 g148 hB149 => ?_)
  have hs150 := World.grownBy.size g148
  replace E := E.grown g148 (fun k hk => by injection hk with hk; subst hk; omega)
  replace hB16 := hB16.grown g148 (by intro h; injection h with h; omega)
  replace hn113 := hn113.stored g148 hB141 (by decide) (by decide)
  replace ha114 := ha114.stored g148 hB141 (by decide)
  replace hB120 := hB120.grown g148 (by intro h; injection h with h; omega)
  replace hn134 := hn134.stored g148 hB141 (by decide) (by decide)
  replace ha135 := ha135.stored g148 hB141 (by decide)
  replace hB141 := hB149
  refine Sq.assign .plain rfl rfl ?_
  refine Sq.nil ?_
  refine Eq.next ?_
  refine Cq.seq ?_
  refine Cq.seq ?_
  refine Cq.region ?_
  refine Sq.loadAgg agg26 .plain rfl rfl hB120 rfl ?_
  refine Sq.loadAgg agg26 .plain rfl rfl hB141 rfl ?_
  have hd154 := hB16.lt
  have hd155 := hB120.lt
  have hd156 := hB141.lt
  refine Sq.call fn18 .plain rfl rfl (agAutomata_c _ zeroA zeroA _ _ _ _ (OwnRows.rows hn113) (Own.row ha114) (OwnRows.rows hn134) (Own.row ha135) (by first | exact fit_zero | exact fit_of_valid (by first | assumption | exact extend_valid hv hk | exact compl_valid' (extend_valid hv hk) | exact trim_valid hv) | assumption)) ?_
  rintro _ w152 ⟨rfl, e153⟩
  have hs157 := Below.size E
  have hs158 := Below.size e153
  replace E := E.trans e153
  replace hB16 := hB16.ext e153
  replace hn113 := hn113.ext e153
  replace ha114 := ha114.ext e153
  replace hB120 := hB120.ext e153
  replace hn134 := hn134.ext e153
  replace ha135 := ha135.ext e153
  replace hB141 := hB141.ext e153
  refine Sq.beT (by exact eqA_refl _) ?_
  refine Sq.notT .plain rfl rfl ?_
  refine Sq.move .plain rfl rfl ?_
  refine Sq.move (.met rfl rfl rfl) rfl rfl ?_
  refine Sq.move (.met rfl rfl rfl) rfl rfl ?_
  refine Sq.neqB und4 (.met rfl rfl rfl) rfl rfl rfl ?_
  refine Sq.pickF .plain rfl rfl rfl ?_
  refine Sq.move .plain rfl rfl ?_
  refine Sq.move (.met rfl rfl rfl) rfl rfl ?_
  refine Sq.notF (.met rfl rfl rfl) rfl rfl ?_
  refine Sq.pickF .plain rfl rfl rfl ?_
  refine Sq.nil ?_
  refine Eq.next ?_
  refine Cq.thn rfl ?_
  refine Cq.seq ?_
  refine Cq.region ?_
  refine Sq.loadAgg agg26 .plain rfl rfl hB120 rfl ?_
  refine Sq.loadAgg agg26 .plain rfl rfl hB141 rfl ?_
  have hd162 := hB16.lt
  have hd163 := hB120.lt
  have hd164 := hB141.lt
  refine Sq.call fn18 .plain rfl rfl (agAutomata_c _ zeroA zeroA _ _ _ _ (OwnRows.rows hn113) (Own.row ha114) (OwnRows.rows hn134) (Own.row ha135) (by first | exact fit_zero | exact fit_of_valid (by first | assumption | exact extend_valid hv hk | exact compl_valid' (extend_valid hv hk) | exact trim_valid hv) | assumption)) ?_
  rintro _ w160 ⟨rfl, e161⟩
  have hs165 := Below.size E
  have hs166 := Below.size e161
  replace E := E.trans e161
  refine Sq.beT (by exact eqA_refl _) ?_
  refine Sq.move .plain rfl rfl ?_
  refine Sq.move (.met rfl rfl rfl) rfl rfl ?_
  refine Sq.move (.met rfl rfl rfl) rfl rfl ?_
  refine Sq.eqlB und4 (.met rfl rfl rfl) rfl rfl rfl ?_
  refine Sq.pickT .plain rfl rfl rfl ?_
  refine Sq.assign .plain rfl rfl ?_
  refine Sq.nil ?_
  refine Eq.next ?_
  refine Cq.ret ?_
  refine Eq.pastRet ?_
  refine Eq.ret1 rfl rfl ?_
  exact ⟨rfl, E⟩
end Go.Proofs.Ytdejmfkpohgamaa
set_option linter.unusedSimpArgs false
set_option linter.unusedVariables false
namespace Go.Proofs.Ytdejmfkpohgamaa
open Go.RowKit
def IsRow (k : IntKind) (w : World) (a : Option Addr) (len cap : Nat) (zs : List Int) : Prop :=
  (a = none ∧ len = 0 ∧ cap = 0 ∧ zs = []) ∨
  ∃ x, a = some x ∧ len ≤ cap ∧ cap ≤ maxLen ∧ zs.length = cap ∧ (∀ i, i < zs.length → w.cell? (x.add i) = some (.int k (zs.getD i 0))) ∧ ∀ n ∈ zs, (Lit.int k n).wf = true
theorem wf8 {n : Int} (h : (Lit.int .u8 n).wf = true) : 0 ≤ n ∧ n ≤ 255 := by
  simp [Lit.wf, IntKind.min, IntKind.max, IntKind.signed, IntKind.bits] at h
  omega
theorem bytes_of {w : World} {a : Option Addr} {len cap : Nat} {zs : List Int} (h : IsRow .u8 w a len cap zs) : ∃ e xs, len = List.length xs ∧ Bytes w e (.slice a xs.length cap) xs ∧ xs.length ≤ cap := by
  rcases h with ⟨rfl, rfl, rfl, rfl⟩ | ⟨x, rfl, hl, hm, hz, hcell, hwz⟩
  · exact ⟨0, [], rfl, .inl ⟨rfl, none, 0, rfl, fun _ => rfl⟩, Nat.le_refl _⟩
  · rcases Nat.eq_zero_or_pos len with h0 | h0
    · subst h0
      exact ⟨0, [], rfl, .inl ⟨rfl, some x, cap, rfl, fun h => by cases h⟩, Nat.zero_le _⟩
    · obtain ⟨b, o, s⟩ := x
      have hc := hcell 0 (by omega)
      have hs : s = none := by simpa [Addr.add] using World.cell?_spot hc
      subst hs
      have hb : ∃ cur e fr, w.heap[b]? = some (.cells cur e fr) := by
        rw [addr_add] at hc
        unfold World.cell? at hc
        simp only at hc
        cases hw : w.heap[b]? with
        | none => rw [hw] at hc; simp at hc
        | some ob =>
          rw [hw] at hc
          cases ob <;> simp at hc
          rename_i cur e fr
          exact ⟨cur, e, fr, rfl⟩
      obtain ⟨cur, e, fr, hb⟩ := hb
      have hlen : ((zs.take len).map fun z => UInt8.ofNat z.toNat).length = len := by simp; omega
      refine ⟨e, (zs.take len).map fun z => UInt8.ofNat z.toNat, hlen.symm, .inr ⟨b, o, cap, cur, fr, by simp, hb, fun i y hy => ?_⟩, by omega⟩
      have hi : i < len := by
        have := (List.getElem?_eq_some_iff.1 hy).1
        simp at this; omega
      have hi2 : i < zs.length := by omega
      have h1 := hcell i hi2
      rw [addr_add] at h1
      have h2 : y = .int .u8 (zs.getD i 0) := by
        have hw := wf8 (hwz _ (List.getElem_mem hi2))
        have e2 := u8_of hw
        simp [List.getElem?_take, hi, hi2] at hy
        rw [← hy]
        simp [hi2]
        omega
      rw [h2]
      simpa [World.cell?, hb] using h1
end Go.Proofs.Ytdejmfkpohgamaa
