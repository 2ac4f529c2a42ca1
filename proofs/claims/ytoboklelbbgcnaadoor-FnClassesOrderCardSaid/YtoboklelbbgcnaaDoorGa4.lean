/-
  The texts of this proof, joined (wip/merge.py): the calculus of slots, plain mathematics, walks.
-/
import Derived.Test.YtoboklelbbgcnaaDoorGa3
set_option linter.unusedSimpArgs false
set_option linter.unusedVariables false
namespace Go.Proofs.YtoboklelbbgcnaaDoor
open Go.RowKit
set_option maxRecDepth 100000 in
theorem visit_c (w0 wb : World) (B bs bt bg n : Nat) (gv nv : Value) (f : Int → Int → Int) (s : Int) (ws : List (List Int)) (D : Int → Prop) (G : Int → Bool) (hclo : GClo Tryd.prog wb gv D G) (hM : SMem wb w0 3 4 24 70 68 40 B bs bt bg gv n f s ws) (p l q : Int) (v0 : List Int) (hq : q = nodeOf f s v0) (hx : Ints w0 3 nv [q]) (hl : Link ws p l v0) (hv0 : ∀ x ∈ v0, 0 ≤ x ∧ x < 6) (hD : D q) (hqn : 0 ≤ q ∧ q < n) (hwl : ws.length ≤ 1000) : Ret Tryd.prog 45 #[Value.int .i64 p, Value.int .i64 l, nv, Value.pointer (some ⟨bs, 0, none⟩), Value.pointer (some ⟨bg, 0, none⟩), Value.pointer (some ⟨bt, 0, none⟩)] w0 (fun v w => v = .bool (!decide (q ∈ (ws.map (nodeOf f s))) && G q) ∧ SMem wb w 3 4 24 70 68 40 B bs bt bg gv n f s (wadd f s ws v0)) := by
  obtain ⟨sv, tv, rs, hSb, hSeen, hTb, hW, hSt, hGb, E, hB0, hB1, hB2, hB3⟩ := hM
  obtain ⟨kg, fg, cg, hgv, hFg, hgoal⟩ := hclo
  have hrl := hSt.len
  have hwb := Below.size E
  have hne1 := hSb.ne hTb (by decide)
  have hne2 := hGb.ne hTb (by decide)
  have hne3 := hGb.ne hSb (by decide)
  refine Ret.of (args := [Value.int .i64 p, Value.int .i64 l, nv, Value.pointer (some ⟨bs, 0, none⟩), Value.pointer (some ⟨bg, 0, none⟩), Value.pointer (some ⟨bt, 0, none⟩)]) Tryd.func45 rfl rfl rfl ?_
  rintro _ rfl
  show Cq _ _ _ _ [(0, Value.int .i64 p), (1, Value.int .i64 l), (2, nv), (3, Value.pointer (some ⟨bs, 0, none⟩)), (4, Value.pointer (some ⟨bg, 0, none⟩)), (5, Value.pointer (some ⟨bt, 0, none⟩))] _
  refine Cq.seq ?_
  refine Cq.region ?_
  refine Sq.assign .plain rfl rfl ?_
  refine Sq.nil ?_
  refine Eq.next ?_
  refine Cq.seq ?_
  refine Cq.region ?_
  refine Sq.assign .plain rfl rfl ?_
  refine Sq.nil ?_
  refine Eq.next ?_
  refine Cq.seq ?_
  refine Cq.region ?_
  refine Sq.assign .plain rfl rfl ?_
  refine Sq.nil ?_
  refine Eq.next ?_
  refine Cq.seq ?_
  refine Cq.seq ?_
  refine Cq.region ?_
  refine Sq.move .plain rfl rfl ?_
  refine Sq.lenInts hx .plain rfl und28 rfl ?_
  refine Sq.move .plain rfl rfl ?_
  refine Sq.nil ?_
  refine Eq.next ?_
  refine Cq.block ?_
  refine Cq.loop (fun nn w ls => ∃ (k : Int), ∃ (ov : Value), ∃ (xs : List Int), ∃ (ms : List Int), ∃ (bv : Bool), ls = [(0, Value.int .i64 p), (1, Value.int .i64 l), (3, Value.pointer (some ⟨bs, 0, none⟩)), (4, Value.pointer (some ⟨bg, 0, none⟩)), (5, Value.pointer (some ⟨bt, 0, none⟩)), (10, ov), (11, Value.bool bv), (14, nv), (15, Value.int .i64 ((List.length ([q] : List Int) : Int))), (16, Value.int .i64 k)] ∧ (0 ≤ k ∧ k ≤ 1) ∧ (w0.heap.size ≤ w.heap.size) ∧ Own w B 4 sv ((seenOf n ms).map Value.bool) ∧ ms = (if k = 0 then (ws.map (nodeOf f s)) else addNode (ws.map (nodeOf f s)) q) ∧ (k = 0 → ov = .slice none 0 0) ∧ Own w w0.heap.size 3 ov (xs.map (Value.int .i64)) ∧ xs = (if k = 0 ∨ q ∈ (ws.map (nodeOf f s)) then [] else [q]) ∧ bv = (decide (k = 1) && (!decide (q ∈ (ws.map (nodeOf f s))) && G q)) ∧ Ext wb w ∧ Blk w bs 24 [sv] ∧ Blk w bg 40 [gv] ∧ Blk w bt 68 [tv] ∧ Wid w B 70 3 tv (rows3 rs) ∧ Ints w 3 nv [q] ∧ Trail w 3 f s ws rs ∧ nn = (1 - k).toNat) _ _ ⟨0, _, [], _, _, rfl, by omega, Nat.le_refl _, hSeen, rfl, fun _ => rfl, Own.nil _ _ _, rfl, rfl, E, hSb, hGb, hTb, hW, hx, hSt, rfl⟩ (.cons rfl (.cons rfl (.cons rfl (.cons rfl (.cons rfl (.cons rfl (.cons rfl (.cons rfl (.cons rfl (.cons rfl (.nil))))))))))) ?_
  rintro nn wl1 ls ⟨k, ov, xs, ms, bv, rfl, hk, hsz, hSeen, hms, hov, ho, hxs, hbv, E, hSb, hGb, hTb, hW, hx, hSt, rfl⟩
  have hs1 := Below.size E
  have hsl := seenOf_length n ms
  have hl1 : (List.length ([q] : List Int) : Int) = 1 := rfl
  refine Cq.seq ?_
  refine Cq.region ?_
  refine Sq.lss .plain rfl rfl rfl ?_
  refine Sq.part (fun c2 => ?_) (fun c2 => ?_)
  · refine Sq.nil ?_
    refine Eq.next ?_
    refine Cq.seq ?_
    refine Cq.thn rfl ?_
    refine Cq.skip ?_
    refine Eq.next ?_
    refine Cq.seq ?_
    refine Cq.block ?_
    refine Cq.seq ?_
    refine Cq.region ?_
    have hk0 : k = 0 := by omega
    obtain rfl := hov hk0
    have hms0 : ms = (ws.map (nodeOf f s)) := by rw [hms, if_pos hk0]
    have hk1 : ([q] : List Int).getD k.toNat 0 = q := by rw [hk0]; rfl
    refine Sq.idxInts sl28 one3 hx .plain rfl rfl rfl .plain rfl rfl (by omega) (by simp only [List.length_singleton]; omega) ?_
    rw [hk1]
    refine Sq.assign .plain rfl rfl ?_
    refine Sq.nil ?_
    refine Eq.next ?_
    refine Cq.seq ?_
    refine Cq.region ?_
    refine Sq.loadB one24 .plain rfl rfl hSb rfl ?_
    refine Sq.move .plain rfl rfl ?_
    refine Sq.idxBools sl24 one4 (Own.row hSeen) .plain rfl rfl rfl .plain rfl rfl (by omega) (by omega) ?_
    refine Sq.partB (fun hse => ?_) (fun hse => ?_)
    · refine Sq.notT .plain rfl rfl ?_
      refine Sq.nil ?_
      refine Eq.next ?_
      refine Cq.els rfl ?_
      refine Cq.skip ?_
      refine Eq.end ?_
      refine Eq.next ?_
      refine Cq.region ?_
      refine Sq.add .plain rfl rfl rfl (by omega) ?_
      refine Sq.move .plain rfl rfl ?_
      refine Sq.nil ?_
      have hnin : q ∈ (ws.map (nodeOf f s)) := by rw [seenOf_at hqn, hms0] at hse; simpa using hse
      refine Eq.round _ _ ⟨k + 1, _, [], _, _, rfl, by omega, by omega, hSeen, by rw [if_neg (by omega), addNode_T hnin, hms0], fun h => absurd h (by omega), Own.nil _ _ _, by rw [if_pos (.inr hnin)], by rw [hbv]; simp [hk0, hnin], E, hSb, hGb, hTb, hW, hx, hSt, rfl⟩ (by omega) (.cons rfl (.cons rfl (.cons rfl (.cons rfl (.cons rfl (.cons rfl (.cons rfl (.cons rfl (.cons rfl (.cons rfl (.nil)))))))))))
    refine Sq.notF .plain rfl rfl ?_
    refine Sq.nil ?_
    refine Eq.next ?_
    refine Cq.thn rfl ?_
    refine Cq.seq ?_
    refine Cq.region ?_
    refine Sq.loadB one24 .plain rfl rfl hSb rfl ?_
    refine Sq.move .plain rfl rfl ?_
    obtain ⟨p3, hp4o⟩ := Own.at hSeen (i := q) (by omega) (by first | (simp only [List.length_map]; omega) | (simp; omega))
    refine Sq.atO sl24 hp4o .plain rfl rfl rfl ?_
    refine Sq.storeO one4 hSeen hp4o .plain rfl rfl rfl (fun w5 g6 ho7 => ?_)
    have hs8 := World.grownBy.size g6
    replace E := E.owned hSeen g6 (by omega)
    replace hSb := hSb.owned hSeen g6 (by decide)
    replace hGb := hGb.owned hSeen g6 (by decide)
    replace hTb := hTb.owned hSeen g6 (by decide)
    replace hW := hW.owned hSeen g6 (by decide)
    replace hx := hx.owned hSeen g6 (by decide)
    replace hSt := hSt.owned hSeen g6 (by decide)
    replace hSeen := ho7
    refine Sq.nil ?_
    refine Eq.next ?_
    refine Cq.seq ?_
    refine Cq.region ?_
    refine Sq.move .plain rfl rfl ?_
    refine Sq.move .plain rfl rfl ?_
    refine Sq.lit sl28 rfl rfl .plain rfl rfl (one_cons rfl one_nil) (fun b9 w10 e11 hlo12 ho13 hk14 => ?_)
    have hs15 := Below.size e11
    replace E := E.trans e11
    replace hSb := hSb.ext e11
    replace hGb := hGb.ext e11
    replace hTb := hTb.ext e11
    replace hW := hW.ext e11
    replace hx := hx.ext e11
    replace hSt := hSt.ext e11
    replace hSeen := hSeen.ext e11
    refine Sq.app1F sl28 (Own.nil _ w0.heap.size 3) (by simp) (by omega) (by simp) hk14 rfl .plain rfl rfl rfl (fun v16 w17 ho19 g18 _ _ => ?_)
    have e20 := Ext.of_grown g18
    have hs21 := Below.size e20
    replace E := E.trans e20
    replace hSb := hSb.ext e20
    replace hGb := hGb.ext e20
    replace hTb := hTb.ext e20
    replace hW := hW.ext e20
    replace hx := hx.ext e20
    replace hSt := hSt.ext e20
    replace hSeen := hSeen.ext e20
    refine Sq.assign .plain rfl rfl ?_
    refine Sq.nil ?_
    refine Eq.next ?_
    refine Cq.region ?_
    refine Sq.move .plain rfl rfl ?_
    refine Sq.beF (by rw [hbv, hk0]; rfl) ?_
    refine Sq.move .plain rfl rfl ?_
    refine Sq.loadB one40 (.met rfl rfl rfl) rfl rfl hGb rfl ?_
    refine Sq.move (.met rfl rfl rfl) rfl rfl ?_
    refine Sq.callC hFg (.met rfl rfl rfl) rfl (by rw [← hgv]; rfl) rfl (hgoal _ q E hD) ?_
    rintro _ w22 ⟨rfl, e23⟩
    have hs24 := Below.size e23
    replace E := E.trans e23
    replace hSb := hSb.ext e23
    replace hGb := hGb.ext e23
    replace hTb := hTb.ext e23
    replace hW := hW.ext e23
    replace hx := hx.ext e23
    replace hSt := hSt.ext e23
    replace hSeen := hSeen.ext e23
    replace ho19 := ho19.ext e23
    refine Sq.pickF .plain rfl rfl rfl ?_
    refine Sq.assign .plain rfl rfl ?_
    refine Sq.partB (fun hgq => ?_) (fun hgq => ?_)
    · refine Sq.nil ?_
      refine Eq.end ?_
      refine Eq.next ?_
      refine Cq.region ?_
      refine Sq.add .plain rfl rfl rfl (by omega) ?_
      refine Sq.move .plain rfl rfl ?_
      refine Sq.nil ?_
      have hnin : q ∉ (ws.map (nodeOf f s)) := by rw [seenOf_at hqn, hms0] at hse; simpa using hse
      refine Eq.round _ _ ⟨k + 1, _, [q], _, _, rfl, by omega, by omega, by rw [← seenOf_set hqn.1, List.map_set]; exact hSeen, by rw [if_neg (by omega), addNode_F hnin, hms0], fun h => absurd h (by omega), by simpa using ho19, by rw [if_neg (by rintro (h | h); omega; exact hnin h)], by simp [hk0, hnin, hgq], E, hSb, hGb, hTb, hW, hx, hSt, rfl⟩ (by omega) (.cons rfl (.cons rfl (.cons rfl (.cons rfl (.cons rfl (.cons rfl (.cons rfl (.cons rfl (.cons rfl (.cons rfl (.nil)))))))))))
    refine Sq.nil ?_
    refine Eq.end ?_
    refine Eq.next ?_
    refine Cq.region ?_
    refine Sq.add .plain rfl rfl rfl (by omega) ?_
    refine Sq.move .plain rfl rfl ?_
    refine Sq.nil ?_
    have hnin : q ∉ (ws.map (nodeOf f s)) := by rw [seenOf_at hqn, hms0] at hse; simpa using hse
    refine Eq.round _ _ ⟨k + 1, _, [q], _, _, rfl, by omega, by omega, by rw [← seenOf_set hqn.1, List.map_set]; exact hSeen, by rw [if_neg (by omega), addNode_F hnin, hms0], fun h => absurd h (by omega), by simpa using ho19, by rw [if_neg (by rintro (h | h); omega; exact hnin h)], by simp [hk0, hnin, hgq], E, hSb, hGb, hTb, hW, hx, hSt, rfl⟩ (by omega) (.cons rfl (.cons rfl (.cons rfl (.cons rfl (.cons rfl (.cons rfl (.cons rfl (.cons rfl (.cons rfl (.cons rfl (.nil)))))))))))
  refine Sq.nil ?_
  refine Eq.next ?_
  refine Cq.seq ?_
  refine Cq.els rfl ?_
  refine Cq.exit ?_
  refine Eq.past ?_
  refine Eq.past ?_
  refine Eq.hit ?_
  refine Eq.next ?_
  refine Cq.seq ?_
  refine Cq.seq ?_
  refine Cq.region ?_
  have hkk : k = 1 := by omega
  refine Sq.move .plain rfl rfl ?_
  refine Sq.lenInts (Own.row ho) .plain rfl und28 rfl ?_
  refine Sq.gtr .plain rfl rfl rfl ?_
  refine Sq.part (fun hfr => ?_) (fun hfr => ?_)
  · refine Sq.nil ?_
    refine Eq.next ?_
    refine Cq.thn rfl ?_
    refine Cq.region ?_
    have hnin : q ∉ (ws.map (nodeOf f s)) := fun h => by rw [hxs, if_pos (.inr h)] at hfr; exact absurd hfr (by decide)
    have hx1 : (xs.map (Value.int .i64)) = [q].map (Value.int .i64) := by rw [hxs, if_neg (by rintro (h | h); omega; exact hnin h)]
    refine Sq.loadB one68 .plain rfl rfl hTb rfl ?_
    refine Sq.move .plain rfl rfl ?_
    refine Sq.move .plain rfl rfl ?_
    refine Sq.move .plain rfl rfl ?_
    refine Sq.build st70 rfl rfl .plain rfl rfl (one_cons rfl (one_cons rfl (one_cons (Row.one (Own.row ho)) one_nil))) rfl ?_
    refine Sq.litW slw68 rfl rfl (by decide) .plain rfl (rows := [[Value.int .i64 p, Value.int .i64 l, ov]]) rfl (fun r hr => by rw [List.mem_singleton.1 hr]; exact ⟨rfl, one_cons rfl (one_cons rfl (one_cons (Row.one (Own.row ho)) one_nil))⟩) (fun b25 w26 e27 hlo28 hw29 hk30 => ?_)
    have hs35 := Below.size e27
    replace E := E.trans e27
    replace hSb := hSb.ext e27
    replace hGb := hGb.ext e27
    replace hTb := hTb.ext e27
    replace hW := hW.ext e27
    replace hSt := hSt.ext e27
    replace hSeen := hSeen.ext e27
    replace ho := ho.ext e27
    refine Sq.appS slw68 hW (by omega) (by rw [rows3_length]; omega) (r := [Value.int .i64 p, Value.int .i64 l, ov]) hk30 ⟨rfl, one_cons rfl (one_cons rfl (one_cons (Row.one (Own.row ho)) one_nil))⟩ .plain rfl rfl rfl (fun v31 w32 hW34 g33 _ _ => ?_)
    have hs36 := World.grownBy.size g33
    replace E := E.wid hW g33 (by omega)
    replace hSb := hSb.wid hW g33 (by decide)
    replace hGb := hGb.wid hW g33 (by decide)
    replace hTb := hTb.wid hW g33 (by decide)
    replace hSt := hSt.wid hW g33 (by decide)
    replace hSeen := hSeen.wid hW g33 (by decide)
    replace ho := ho.wid hW g33 (by decide)
    replace hW : Wid w32 B 70 3 v31 (rows3 (rs ++ [(p, l, ov)])) := by rw [rows3_snoc]; exact hW34
    refine Sq.store one68 .plain rfl rfl (Wid.one hW) hTb (by simp) (fun w37 g38 hB39 => ?_)
    have hs40 := World.grownBy.size g38
    replace E := E.grown g38 (fun k hk => by injection hk with hk; subst hk; omega)
    replace hSb := hSb.grown g38 (by intro h; injection h with h; omega)
    replace hGb := hGb.grown g38 (by intro h; injection h with h; omega)
    replace hW := hW.stored g38 hTb (by decide)
    replace hSt := hSt.stored g38 hTb (by decide)
    replace hSeen := hSeen.stored g38 hTb (by decide)
    replace ho := ho.stored g38 hTb (by decide)
    replace hTb := hB39
    refine Sq.nil ?_
    refine Eq.next ?_
    refine Cq.seq ?_
    refine Cq.region ?_
    refine Sq.move .plain rfl rfl ?_
    refine Sq.assign .plain rfl rfl ?_
    refine Sq.nil ?_
    refine Eq.next ?_
    refine Cq.ret ?_
    refine Eq.ret1 rfl rfl ?_
    have hq2 := hq
    have hn2 : nodeOf f s v0 ∉ (ws.map (nodeOf f s)) := by rw [← hq]; exact hnin
    refine ⟨by rw [hbv]; simp [hkk, hnin], ?_⟩
    rw [wadd_F hn2]
    rw [hms, if_neg (by omega), addNode_F hnin] at hSeen
    exact ⟨sv, _, _, hSb, by rw [List.map_append, List.map_cons, List.map_nil, ← hq]; exact hSeen, hTb, hW, hSt.snoc hl (by rw [← hq]; show Row _ _ _ ([q].map (Value.int .i64)); rw [← hx1]; exact Own.row ho) hv0, hGb, E, by omega, by omega, by omega, by omega⟩
  refine Sq.nil ?_
  refine Eq.next ?_
  refine Cq.els rfl ?_
  refine Cq.skip ?_
  refine Eq.next ?_
  refine Cq.seq ?_
  refine Cq.region ?_
  have hnin : q ∈ (ws.map (nodeOf f s)) := Classical.byContradiction fun h => hfr (by rw [hxs, if_neg (by rintro (h' | h'); omega; exact h h')]; show (0 : Int) < 1; decide)
  refine Sq.move .plain rfl rfl ?_
  refine Sq.assign .plain rfl rfl ?_
  refine Sq.nil ?_
  refine Eq.next ?_
  refine Cq.ret ?_
  refine Eq.ret1 rfl rfl ?_
  have hn2 : nodeOf f s v0 ∈ (ws.map (nodeOf f s)) := by rw [← hq]; exact hnin
  refine ⟨by rw [hbv]; simp [hkk, hnin], ?_⟩
  rw [wadd_T hn2]
  rw [hms, if_neg (by omega), addNode_T hnin] at hSeen
  exact ⟨sv, _, _, hSb, hSeen, hTb, hW, hSt, hGb, E, by omega, by omega, by omega, by omega⟩
end Go.Proofs.YtoboklelbbgcnaaDoor
set_option linter.unusedSimpArgs false
set_option linter.unusedVariables false
namespace Go.Proofs.YtoboklelbbgcnaaDoor
open Go.RowKit
set_option maxRecDepth 100000 in
theorem firstPath_c (w0 : World) (nI : Int) (n : Nat) (s : Int) (L : List Int) (sv0 lv fv gv : Value) (f : Int → Int → Int) (G : Int → Bool) (D : Int → Prop) (hnI : nI = n) (hs0 : Ints w0 3 sv0 [s]) (hx : Ints w0 3 lv L) (hLl : L.length ≤ 100) (hL : ∀ x ∈ L, 0 ≤ x ∧ x < 6) (hD0 : D s) (hD : ∀ q, D q → ∀ x ∈ L, D (f q x)) (hDn : ∀ q, D q → 0 ≤ q ∧ q < n) (hn : n ≤ 150) (hclo : NClo Tryd.prog w0 3 fv D f) (hgo : GClo Tryd.prog w0 gv D G) : Ret Tryd.prog 34 #[Value.int .i64 nI, sv0, lv, fv, gv] w0 (fun v w => v = .tuple #[.string (txt ((firstOf f s L G).getD [])), .bool (firstOf f s L G).isSome] ∧ Ext w0 w) := by
  have E := Ext.refl w0
  have hgo2 := hgo
  obtain ⟨kg, fg, cg, hgv0, hFg0, hgoal0⟩ := hgo2
  obtain ⟨kf, fnf, cf, hfv0, hFn, hcall⟩ := hclo
  have hbw := bfsw_range (f := f) (s := s) (L := L) hD0 hD hDn
  refine Ret.of (args := [Value.int .i64 nI, sv0, lv, fv, gv]) Tryd.func34 rfl rfl rfl ?_
  rintro _ rfl
  show Cq _ _ _ _ [(0, Value.int .i64 nI), (1, sv0), (2, lv), (3, fv), (4, gv)] _
  refine Cq.seq ?_
  refine Cq.region ?_
  refine Sq.box1 .plain rfl rfl (by rw [hgv0]; rfl) (fun b1 w2 e3 hB4 hlo5 => ?_)
  have hd6 := Nat.le_trans (Below.size E) hlo5
  have hs7 := Below.size e3
  replace E := E.trans e3
  refine Sq.assign .plain rfl rfl ?_
  refine Sq.assign .plain rfl rfl ?_
  refine Sq.nil ?_
  refine Eq.next ?_
  refine Cq.seq ?_
  refine Cq.region ?_
  refine Sq.move .plain rfl rfl ?_
  refine Sq.make sl24 .plain rfl rfl rfl rfl (by omega) (fun b8 w9 e10 hlo11 hB12 => ?_)
  replace hB12 := hB12 w2.heap.size (Nat.le_refl _)
  have hs13 := Below.size e10
  replace E := E.trans e10
  replace hB4 := hB4.ext e10
  refine Sq.alloc1 zero24 rfl .plain rfl (fun b14 w15 e16 hB17 hlo18 => ?_)
  have hd19 := Nat.le_trans (Below.size E) hlo18
  have hd20 := Nat.lt_of_lt_of_le hB4.lt hlo18
  have hs21 := Below.size e16
  replace E := E.trans e16
  replace hB4 := hB4.ext e16
  replace hB12 := hB12.ext e16
  refine Sq.store one24 .plain rfl rfl (Row.one (Own.row hB12)) hB17 (by simp) (fun w22 g23 hB24 => ?_)
  have hs25 := World.grownBy.size g23
  replace E := E.grown g23 (fun k hk => by injection hk with hk; subst hk; omega)
  replace hB4 := hB4.grown g23 (by intro h; injection h with h; omega)
  replace hB12 := hB12.stored g23 hB17 (by decide)
  replace hB17 := hB24
  refine Sq.nil ?_
  refine Eq.next ?_
  refine Cq.seq ?_
  refine Cq.region ?_
  refine Sq.alloc1 zero68 rfl .plain rfl (fun b26 w27 e28 hB29 hlo30 => ?_)
  have hd31 := Nat.le_trans (Below.size E) hlo30
  have hd32 := Nat.lt_of_lt_of_le hB4.lt hlo30
  have hd33 := Nat.lt_of_lt_of_le hB17.lt hlo30
  have hs34 := Below.size e28
  replace E := E.trans e28
  replace hB4 := hB4.ext e28
  replace hB12 := hB12.ext e28
  replace hB17 := hB17.ext e28
  refine Sq.nil ?_
  refine Eq.next ?_
  refine Cq.seq ?_
  refine Cq.region ?_
  refine Sq.makeFunc .plain rfl rfl ?_
  refine Sq.assign .plain rfl rfl ?_
  refine Sq.nil ?_
  refine Eq.next ?_
  refine Cq.seq ?_
  refine Cq.seq ?_
  refine Cq.region ?_
  refine Sq.move .plain rfl rfl ?_
  refine Sq.move .plain rfl rfl ?_
  have hM : SMem w0 w27 3 4 24 70 68 40 w2.heap.size b14 b26 b1 gv n f s [] := ⟨_, _, [], hB17, Own.seen0 (seen_n (by omega) hB12), hB29, Wid.nil _ _ _ _, Trail.nil _ _ _ _, hB4, E, by omega, by omega, by omega, by omega⟩
  refine Sq.callC fn45 .plain rfl rfl rfl (visit_c _ _ _ _ _ _ _ _ _ f s _ D G hgo hM _ _ s [] rfl (hs0.ext E) (.inl ⟨rfl, rfl⟩) (by simp) hD0 (hDn _ hD0) (by simp)) ?_
  rintro _ w35 ⟨rfl, hM'⟩
  clear hM
  have hM := hM'
  clear hM'
  replace E := SMem.base hM
  have hs37 := Below.size E
  refine Sq.partB (fun hg0 => ?_) (fun hg0 => ?_)
  · refine Sq.nil ?_
    refine Eq.next ?_
    refine Cq.thn rfl ?_
    refine Cq.seq ?_
    refine Cq.region ?_
    refine Sq.assign .plain rfl rfl ?_
    refine Sq.assign .plain rfl rfl ?_
    refine Sq.nil ?_
    refine Eq.next ?_
    refine Cq.ret ?_
    refine Eq.pastRet ?_
    refine Eq.ret2 rfl rfl rfl ?_
    have e1 := first_here (f := f) (L := L) (by simpa using hg0 : G s = true)
    exact ⟨by rw [e1]; rfl, E⟩
  refine Sq.nil ?_
  refine Eq.next ?_
  refine Cq.els rfl ?_
  refine Cq.skip ?_
  refine Eq.next ?_
  refine Cq.seq ?_
  refine Cq.seq ?_
  refine Cq.region ?_
  refine Sq.assign .plain rfl rfl ?_
  refine Sq.nil ?_
  refine Eq.next ?_
  refine Cq.block ?_
  have hw0 : wadd f s [] [] = bfsw f s L 0 := wadd_F (by simp)
  rw [hw0] at hM
  refine Cq.loop (fun nn w ls => ∃ (i : Int), ls = [(2, lv), (3, fv), (13, Value.pointer (some ⟨b26, 0, none⟩)), (14, Value.func (.func 45) #[] #[Value.pointer (some ⟨b14, 0, none⟩), Value.pointer (some ⟨b1, 0, none⟩), Value.pointer (some ⟨b26, 0, none⟩)]), (15, Value.int .i64 i)] ∧ (0 ≤ i ∧ i ≤ (List.length (bfsw f s L i.toNat) : Int)) ∧ SMem w0 w 3 4 24 70 68 40 w2.heap.size b14 b26 b1 gv n f s (bfsw f s L i.toNat) ∧ (∀ v ∈ (bfsw f s L i.toNat), G (nodeOf f s v) = false) ∧ Ext w0 w ∧ nn = (151 - i).toNat) _ _ ⟨0, rfl, ⟨by omega, by show (0 : Int) ≤ ((1 : Nat) : Int); omega⟩, hM, (fun v hv => by rw [show v = [] by simpa [bfsw] using hv]; simpa [nodeOf] using hg0), E, rfl⟩ (.cons rfl (.cons rfl (.cons rfl (.cons rfl (.cons rfl (.nil)))))) ?_
  rintro nn wl1 ls ⟨i, rfl, hi, hM, hG, E, rfl⟩
  have hs38 := Below.size E
  have hbl := hbw i.toNat
  have hbl1 := hbw (i.toNat + 1)
  refine Cq.seq ?_
  refine Cq.seq ?_
  refine Cq.region ?_
  refine Sq.move .plain rfl rfl ?_
  have M39 := hM
  obtain ⟨svM39, tvM39, rsM39, _, _, hTM39, hWM39, hSM39, _⟩ := M39
  refine Sq.loadB one68 .plain rfl rfl hTM39 rfl ?_
  refine Sq.lenWid hWM39 .plain rfl und68 rfl ?_
  rw [rows3_length, hSM39.len]
  refine Sq.lss .plain rfl rfl rfl ?_
  refine Sq.part (fun c40 => ?_) (fun c40 => ?_)
  · refine Sq.nil ?_
    refine Eq.next ?_
    refine Cq.thn rfl ?_
    refine Cq.skip ?_
    refine Eq.next ?_
    refine Cq.seq ?_
    refine Cq.block ?_
    refine Cq.seq ?_
    refine Cq.region ?_
    refine Sq.move .plain rfl rfl ?_
    refine Sq.lenInts (hx.ext E) .plain rfl und28 rfl ?_
    refine Sq.move .plain rfl rfl ?_
    refine Sq.nil ?_
    refine Eq.next ?_
    refine Cq.block ?_
    obtain ⟨u, hu⟩ : ∃ u, (bfsw f s L i.toNat)[i.toNat]? = some u := ⟨_, List.getElem?_eq_getElem (by omega)⟩
    have hDu : D (nodeOf f s u) := nodeOf_in hD0 hD _ _ (List.mem_of_getElem? hu)
    have hul := bfsw_lets (f := f) (s := s) (i := i.toNat) hL u (List.mem_of_getElem? hu)
    refine Cq.loop (fun nn w ls => ∃ (k : Int), ls = [(2, lv), (3, fv), (13, Value.pointer (some ⟨b26, 0, none⟩)), (14, Value.func (.func 45) #[] #[Value.pointer (some ⟨b14, 0, none⟩), Value.pointer (some ⟨b1, 0, none⟩), Value.pointer (some ⟨b26, 0, none⟩)]), (15, Value.int .i64 i), (33, lv), (34, Value.int .i64 (List.length L : Int)), (35, Value.int .i64 k)] ∧ (0 ≤ k ∧ k ≤ L.length) ∧ SMem w0 w 3 4 24 70 68 40 w2.heap.size b14 b26 b1 gv n f s (wmid f s L i.toNat u k.toNat) ∧ (∀ v ∈ (wmid f s L i.toNat u k.toNat), G (nodeOf f s v) = false) ∧ Ext w0 w ∧ nn = ((L.length : Int) - k).toNat) _ _ ⟨0, rfl, by omega, hM, hG, E, rfl⟩ (.cons rfl (.cons rfl (.cons rfl (.cons rfl (.cons rfl (.cons rfl (.cons rfl (.cons rfl (.nil))))))))) ?_
    rintro nn wl2 ls ⟨k, rfl, hk, hM, hG, E, rfl⟩
    have hs41 := Below.size E
    have hmh := (wmid_last (f := f) (s := s) (L := L) (k := k.toNat) hu).length_le
    have hum : (wmid f s L i.toNat u k.toNat)[i.toNat]? = some u := by
      obtain ⟨t, ht⟩ := wmid_more (f := f) (s := s) (L := L) i.toNat u k.toNat
      rw [← ht, List.getElem?_append_left (List.getElem?_eq_some_iff.1 hu).1]; exact hu
    refine Cq.seq ?_
    refine Cq.region ?_
    refine Sq.lss .plain rfl rfl rfl ?_
    refine Sq.part (fun c42 => ?_) (fun c42 => ?_)
    · refine Sq.nil ?_
      refine Eq.next ?_
      refine Cq.seq ?_
      refine Cq.thn rfl ?_
      refine Cq.skip ?_
      refine Eq.next ?_
      refine Cq.seq ?_
      refine Cq.block ?_
      refine Cq.seq ?_
      refine Cq.region ?_
      refine Sq.idxInts sl28 one3 (hx.ext E) .plain rfl rfl rfl .plain rfl rfl (by omega) (by omega) ?_
      refine Sq.assign .plain rfl rfl ?_
      refine Sq.nil ?_
      refine Eq.next ?_
      refine Cq.seq ?_
      refine Cq.region ?_
      refine Sq.assign .plain rfl rfl ?_
      refine Sq.nil ?_
      refine Eq.next ?_
      refine Cq.seq ?_
      refine Cq.seq ?_
      refine Cq.region ?_
      have M43 := hM
      obtain ⟨svM43, tvM43, rsM43, _, _, hTM43, hWM43, hSM43, _⟩ := M43
      obtain ⟨pp, ll, fvv, hr, hlk, hfv⟩ := hSM43.row _ _ hum
      have hlt := (List.getElem?_eq_some_iff.1 hr).1
      refine Sq.loadB one68 .plain rfl rfl hTM43 rfl ?_
      refine Sq.move .plain rfl rfl ?_
      obtain ⟨gq44, kq44, hvq44, hlq44, haq44, hbq44, hcq44⟩ := Wid.triple hWM43 (i := i) (by omega) hr
      refine Sq.val .plain rfl rfl (Still.ixV slw68 hvq44 rfl rfl (by omega)) ?_
      refine Sq.fieldAddr fld70_2 .plain rfl rfl ?_
      refine Sq.val .plain rfl rfl (Still.load one28 rfl hcq44) ?_
      refine Sq.lenInts hfv .plain rfl und28 rfl ?_
      refine Sq.move .plain rfl rfl ?_
      refine Sq.nil ?_
      refine Eq.next ?_
      refine Cq.block ?_
      have hXm : (L.getD k.toNat 0) ∈ L := getD_mem (by omega)
      have hXr := hL _ hXm
      have hlu : ∀ x ∈ u ++ [(L.getD k.toNat 0)], 0 ≤ x ∧ x < 6 := by
        intro x hx
        rcases List.mem_append.1 hx with h | h
        · exact hul x h
        · rw [List.mem_singleton.1 h]; exact hXr
      have hul2 : u.length ≤ 150 := by have := bfsw_lenw hu; omega
      have hone : (List.length ([(nodeOf f s u)] : List Int) : Int) = 1 := rfl
      refine Cq.loop (fun nn w ls => ∃ (j : Int), ∃ (rv : Value), ls = [(2, lv), (3, fv), (13, Value.pointer (some ⟨b26, 0, none⟩)), (14, Value.func (.func 45) #[] #[Value.pointer (some ⟨b14, 0, none⟩), Value.pointer (some ⟨b1, 0, none⟩), Value.pointer (some ⟨b26, 0, none⟩)]), (15, Value.int .i64 i), (17, Value.int .i64 (L.getD k.toNat 0)), (18, rv), (33, lv), (34, Value.int .i64 (List.length L : Int)), (35, Value.int .i64 k), (43, fvv), (44, Value.int .i64 ((List.length ([(nodeOf f s u)] : List Int) : Int))), (45, Value.int .i64 j)] ∧ (0 ≤ j ∧ j ≤ 1) ∧ (j = 0 → rv = .slice none 0 0) ∧ (j = 1 → Ints w 3 rv [f (nodeOf f s u) (L.getD k.toNat 0)]) ∧ Ext w0 w ∧ Ints w 3 fvv [(nodeOf f s u)] ∧ SMem w0 w 3 4 24 70 68 40 w2.heap.size b14 b26 b1 gv n f s (wmid f s L i.toNat u k.toNat) ∧ nn = (1 - j).toNat) _ _ ⟨0, _, rfl, by omega, fun _ => rfl, fun h => absurd h (by decide), E, hfv, hM, rfl⟩ (.cons rfl (.cons rfl (.cons rfl (.cons rfl (.cons rfl (.cons rfl (.cons rfl (.cons rfl (.cons rfl (.cons rfl (.cons rfl (.cons rfl (.cons rfl (.nil)))))))))))))) ?_
      rintro nn wl3 ls ⟨j, rv, rfl, hj, hrv, hrr, E, hfv, hM, rfl⟩
      have hs45 := Below.size E
      refine Cq.seq ?_
      refine Cq.region ?_
      refine Sq.lss .plain rfl rfl rfl ?_
      refine Sq.part (fun c46 => ?_) (fun c46 => ?_)
      · refine Sq.nil ?_
        refine Eq.next ?_
        refine Cq.seq ?_
        refine Cq.thn rfl ?_
        refine Cq.skip ?_
        refine Eq.next ?_
        refine Cq.seq ?_
        refine Cq.block ?_
        refine Cq.seq ?_
        refine Cq.region ?_
        have hj0 : j = 0 := by omega
        obtain rfl := hrv hj0
        have hj1 : ([(nodeOf f s u)] : List Int).getD j.toNat 0 = (nodeOf f s u) := by rw [hj0]; rfl
        refine Sq.idxInts sl28 one3 hfv .plain rfl rfl rfl .plain rfl rfl (by omega) (by simp only [List.length_singleton]; omega) ?_
        rw [hj1]
        refine Sq.assign .plain rfl rfl ?_
        refine Sq.nil ?_
        refine Eq.next ?_
        refine Cq.region ?_
        refine Sq.move .plain rfl rfl ?_
        refine Sq.move .plain rfl rfl ?_
        refine Sq.move .plain rfl rfl ?_
        refine Sq.move .plain rfl rfl ?_
        refine Sq.callC hFn .plain rfl (by rw [← hfv0]; rfl) rfl (hcall _ _ _ E hDu hXr) ?_
        rintro vw47 w47 ⟨ho48, e49⟩
        have hs50 := Below.size e49
        replace E := E.trans e49
        replace hfv := hfv.ext e49
        replace hM := hM.ext e49
        refine Sq.assign .plain rfl rfl ?_
        refine Sq.nil ?_
        refine Eq.end ?_
        refine Eq.next ?_
        refine Cq.region ?_
        refine Sq.add .plain rfl rfl rfl (by omega) ?_
        refine Sq.move .plain rfl rfl ?_
        refine Sq.nil ?_
        refine Eq.round _ _ ⟨j + 1, _, rfl, by omega, fun h => absurd h (by omega), fun _ => Own.row ho48, E, hfv, hM, rfl⟩ (by omega) (.cons rfl (.cons rfl (.cons rfl (.cons rfl (.cons rfl (.cons rfl (.cons rfl (.cons rfl (.cons rfl (.cons rfl (.cons rfl (.cons rfl (.cons rfl (.nil))))))))))))))
      refine Sq.nil ?_
      refine Eq.next ?_
      refine Cq.seq ?_
      refine Cq.els rfl ?_
      refine Cq.exit ?_
      refine Eq.past ?_
      refine Eq.past ?_
      refine Eq.hit ?_
      refine Eq.next ?_
      refine Cq.seq ?_
      refine Cq.region ?_
      refine Sq.move .plain rfl rfl ?_
      refine Sq.move .plain rfl rfl ?_
      refine Sq.move .plain rfl rfl ?_
      refine Sq.move .plain rfl rfl ?_
      refine Sq.callC fn45 .plain rfl rfl rfl (visit_c _ _ _ _ _ _ _ _ _ f s _ D G hgo hM i (L.getD k.toNat 0) _ (u ++ [(L.getD k.toNat 0)]) (nodeOf_snoc ..).symm (hrr (by omega)) (.inr ⟨u, rfl, hi.1, hum⟩) hlu (hD _ hDu _ hXm) (hDn _ (hD _ hDu _ hXm)) (by omega)) ?_
      rintro _ w51 ⟨rfl, hM'⟩
      clear hM
      have hM := hM'
      clear hM'
      replace E := SMem.base hM
      have hs53 := Below.size E
      refine Sq.partB (fun hfd => ?_) (fun hfd => ?_)
      · refine Sq.nil ?_
        refine Eq.next ?_
        refine Cq.thn rfl ?_
        refine Cq.seq ?_
        refine Cq.region ?_
        have hnew : nodeOf f s (u ++ [(L.getD k.toNat 0)]) ∉ (wmid f s L i.toNat u k.toNat).map (nodeOf f s) ∧ G (nodeOf f s (u ++ [(L.getD k.toNat 0)])) = true := by rw [nodeOf_snoc]; simpa using hfd
        rw [wadd_F hnew.1] at hM
        have M54 := hM
        obtain ⟨svM54, tvM54, rsM54, _, _, hTM54, hWM54, hSM54, _⟩ := M54
        refine Sq.loadB one68 .plain rfl rfl hTM54 rfl ?_
        refine Sq.call fn46 .plain rfl rfl (pathWord_c _ _ _ _ f s _ hWM54 hSM54 (u ++ [(L.getD k.toNat 0)]) (by rw [List.length_append, List.length_singleton, Nat.add_sub_cancel, List.getElem?_append_right (Nat.le_refl _), Nat.sub_self]; rfl) (by rw [List.length_append, List.length_singleton]; omega) (by rw [List.length_append, List.length_singleton]; omega)) ?_
        rintro _ w55 ⟨rfl, e56⟩
        have hs57 := Below.size e56
        replace E := E.trans e56
        refine Sq.assign .plain rfl rfl ?_
        refine Sq.assign .plain rfl rfl ?_
        refine Sq.nil ?_
        refine Eq.next ?_
        refine Cq.ret ?_
        refine Eq.outRet ?_
        refine Eq.pastRet ?_
        refine Eq.pastRet ?_
        refine Eq.outRet ?_
        refine Eq.outRet ?_
        refine Eq.pastRet ?_
        refine Eq.pastRet ?_
        refine Eq.outRet ?_
        refine Eq.pastRet ?_
        refine Eq.ret2 rfl rfl rfl ?_
        have e1 := first_found hu (by omega) (by omega) hG hnew.1 hnew.2
        exact ⟨by rw [e1]; rfl, E⟩
      refine Sq.nil ?_
      refine Eq.next ?_
      refine Cq.els rfl ?_
      refine Cq.skip ?_
      refine Eq.end ?_
      refine Eq.next ?_
      refine Cq.region ?_
      refine Sq.add .plain rfl rfl rfl (by omega) ?_
      refine Sq.move .plain rfl rfl ?_
      refine Sq.nil ?_
      have e2 := toNat_succ hk.1
      have e5 := wmid_succ (f := f) (s := s) (i := i.toNat) (u := u) (k := k.toNat) (L := L) (by omega)
      refine Eq.round _ _ ⟨k + 1, rfl, by omega, by rw [e2, e5]; exact hM, by rw [e2, e5]; exact wadd_miss hG (by rw [nodeOf_snoc]; exact hfd), E, rfl⟩ (by omega) (.cons rfl (.cons rfl (.cons rfl (.cons rfl (.cons rfl (.cons rfl (.cons rfl (.cons rfl (.nil)))))))))
    refine Sq.nil ?_
    refine Eq.next ?_
    refine Cq.seq ?_
    refine Cq.els rfl ?_
    refine Cq.exit ?_
    refine Eq.past ?_
    refine Eq.past ?_
    refine Eq.hit ?_
    refine Eq.end ?_
    refine Eq.next ?_
    refine Cq.region ?_
    refine Sq.move .plain rfl rfl ?_
    refine Sq.add .plain rfl rfl rfl (by omega) ?_
    refine Sq.assign .plain rfl rfl ?_
    refine Sq.nil ?_
    have e1 := toNat_succ hi.1
    have e3 := wmid_done (k := k.toNat) (by omega) hu
    have e4 := (bfsw_prefix1 (f := f) (s := s) (L := L) i.toNat).length_le
    refine Eq.round _ _ ⟨i + 1, rfl, by rw [e1]; omega, by rw [e1, ← e3]; exact hM, by rw [e1, ← e3]; exact hG, E, rfl⟩ (by omega) (.cons rfl (.cons rfl (.cons rfl (.cons rfl (.cons rfl (.nil))))))
  refine Sq.nil ?_
  refine Eq.next ?_
  refine Cq.els rfl ?_
  refine Cq.exit ?_
  refine Eq.past ?_
  refine Eq.past ?_
  refine Eq.hit ?_
  refine Eq.next ?_
  refine Cq.seq ?_
  refine Cq.region ?_
  refine Sq.assign .plain rfl rfl ?_
  refine Sq.assign .plain rfl rfl ?_
  refine Sq.nil ?_
  refine Eq.next ?_
  refine Cq.ret ?_
  refine Eq.ret2 rfl rfl rfl ?_
  have e1 := first_missed (f := f) (s := s) (L := L) (G := G) (i := i.toNat) (by omega) (by omega) hG
  exact ⟨by rw [e1]; rfl, E⟩
end Go.Proofs.YtoboklelbbgcnaaDoor
set_option linter.unusedSimpArgs false
set_option linter.unusedVariables false
namespace Go.Proofs.YtoboklelbbgcnaaDoor
open Go.RowKit
set_option maxRecDepth 100000 in
theorem ss1_c (w0 : World) (x y : Bool) : Ret Tryd.prog 20 #[Value.bool x, Value.bool y] w0 (fun v w => v = .bool (x != y) ∧ w0 = w) := by
  refine Ret.of (args := [Value.bool x, Value.bool y]) Tryd.func20 rfl rfl rfl ?_
  rintro _ rfl
  show Cq _ _ _ _ [(0, Value.bool x), (1, Value.bool y)] _
  refine Cq.seq ?_
  refine Cq.region ?_
  refine Sq.assign .plain rfl rfl ?_
  refine Sq.nil ?_
  refine Eq.next ?_
  refine Cq.seq ?_
  refine Cq.region ?_
  refine Sq.move .plain rfl rfl ?_
  refine Sq.move .plain rfl rfl ?_
  refine Sq.neqB und4 .plain rfl rfl rfl ?_
  refine Sq.assign .plain rfl rfl ?_
  refine Sq.nil ?_
  refine Eq.next ?_
  refine Cq.ret ?_
  refine Eq.ret1 rfl rfl ?_
  exact ⟨by cases x <;> cases y <;> rfl, rfl⟩
end Go.Proofs.YtoboklelbbgcnaaDoor
set_option linter.unusedSimpArgs false
set_option linter.unusedVariables false
namespace Go.Proofs.YtoboklelbbgcnaaDoor
open Go.RowKit
set_option maxRecDepth 100000 in
theorem fb1_c (w0 : World) (q y0 : Int) (a b : A) (bs bn bt b1 b2 : Nat) (xs ys : List Int) (hS : Blk w0 bs 54 [Value.slice (some ⟨b1, 0, none⟩) a.next.length a.next.length]) (hN : Blk w0 bn 3 [Value.int .i64 (List.length b.next : Int)]) (hT : Blk w0 bt 54 [Value.slice (some ⟨b2, 0, none⟩) b.next.length b.next.length]) (h1 : Blk w0 b1 56 (xs.map (Value.int .i64))) (h2 : Blk w0 b2 56 (ys.map (Value.int .i64))) (hTab : Tab a xs) (hTab' : Tab b ys) (hv : validA a = true) (hv' : validA b = true) (hq : InP a b q) (hx : 0 ≤ y0 ∧ y0 < 6) : Ret Tryd.prog 33 #[Value.int .i64 q, Value.int .i64 y0, Value.slice none 0 0, Value.pointer (some ⟨bs, 0, none⟩), Value.pointer (some ⟨bn, 0, none⟩), Value.pointer (some ⟨bt, 0, none⟩)] w0 (fun v w => Own w w0.heap.size 3 v [Value.int .i64 (fP a b q y0)] ∧ Ext w0 w) := by
  have E := Ext.refl w0
  have hz := zero_in hv'
  have hz2 := (validA_spec.1 hv').2.1
  have hdv : (0 ≤ q / (List.length b.next : Int) ∧ q / (List.length b.next : Int) < (a.next.length : Int)) ∧ 0 ≤ q % (List.length b.next : Int) ∧ q % (List.length b.next : Int) < (List.length b.next : Int) := inP_div hv' hq
  have hmu := fP_mul hv hv' hq hx
  have hg2 : 0 ≤ goA b (q % (List.length b.next : Int)) y0 ∧ goA b (q % (List.length b.next : Int)) y0 < b.next.length := goA_in hv' hdv.2 hx
  have hqb : 0 ≤ q ∧ q ≤ 144 := ⟨hq.1, by have h8 := hq.2; have h9 := le144 hv hv'; omega⟩
  refine Ret.of (args := [Value.int .i64 q, Value.int .i64 y0, Value.slice none 0 0, Value.pointer (some ⟨bs, 0, none⟩), Value.pointer (some ⟨bn, 0, none⟩), Value.pointer (some ⟨bt, 0, none⟩)]) Tryd.func33 rfl rfl rfl ?_
  rintro _ rfl
  show Cq _ _ _ _ [(0, Value.int .i64 q), (1, Value.int .i64 y0), (2, Value.slice none 0 0), (3, Value.pointer (some ⟨bs, 0, none⟩)), (4, Value.pointer (some ⟨bn, 0, none⟩)), (5, Value.pointer (some ⟨bt, 0, none⟩))] _
  refine Cq.seq ?_
  refine Cq.region ?_
  refine Sq.assign .plain rfl rfl ?_
  refine Sq.nil ?_
  refine Eq.next ?_
  refine Cq.seq ?_
  refine Cq.drawS 22 (fun w' => Blk w' bs 54 [Value.slice (some ⟨b1, 0, none⟩) a.next.length a.next.length] ∧ Blk w' bn 3 [Value.int .i64 (List.length b.next : Int)] ∧ Blk w' bt 54 [Value.slice (some ⟨b2, 0, none⟩) b.next.length b.next.length] ∧ Blk w' b1 56 (xs.map (Value.int .i64)) ∧ Blk w' b2 56 (ys.map (Value.int .i64)) ∧ Ext w0 w') mixed (⟨hS, hN, hT, h1, h2, E⟩) (fun w1 e2 hS => ?_)
  clear hS
  have hs3 := Below.size e2
  replace E := E.trans e2
  replace hS := hS.ext e2
  replace hN := hN.ext e2
  replace hT := hT.ext e2
  replace h1 := h1.ext e2
  replace h2 := h2.ext e2
  refine Gq.st 0 rfl (by kernel_rfl) rfl .plain rfl (fun _ _ _ h => h) ⟨hS, hN, hT, h1, h2, E⟩ (fun w' x => Still.move rfl) ?_
  refine Gq.st 1 rfl (by kernel_rfl) rfl .plain rfl (fun _ _ _ h => h) ⟨hS, hN, hT, h1, h2, E⟩ (fun w' x => Still.loadB one54 rfl x.1 rfl) ?_
  refine Gq.st 2 rfl (by kernel_rfl) rfl .plain rfl (fun _ _ _ h => h) ⟨hS, hN, hT, h1, h2, E⟩ (fun w' x => Still.move rfl) ?_
  refine Gq.st 3 rfl (by kernel_rfl) rfl .plain rfl (fun _ _ _ h => h) ⟨hS, hN, hT, h1, h2, E⟩ (fun w' x => Still.loadB one3 rfl x.2.1 rfl) ?_
  refine Gq.st 4 rfl (by kernel_rfl) rfl .plain rfl (fun _ _ _ h => h) ⟨hS, hN, hT, h1, h2, E⟩ (fun w' x => Still.quo rfl rfl (by omega)) ?_
  refine Gq.st 5 rfl (by kernel_rfl) rfl .plain rfl (fun _ _ _ h => h) ⟨hS, hN, hT, h1, h2, E⟩ (fun w' x => Still.move rfl) ?_
  refine Gq.st 6 rfl (by kernel_rfl) rfl .plain rfl (fun _ _ _ h => h) ⟨hS, hN, hT, h1, h2, E⟩ (fun w' x => Still.ixS slk54 rfl rfl (by omega) (by omega)) ?_
  refine Gq.st 7 rfl (by kernel_rfl) rfl .plain rfl (fun _ _ _ h => h) ⟨hS, hN, hT, h1, h2, E⟩ (fun w' x => Still.ixA ar56 rfl rfl (by omega) (by omega)) ?_
  refine Gq.st 8 rfl (by kernel_rfl) rfl .plain rfl (fun _ _ _ h => h) ⟨hS, hN, hT, h1, h2, E⟩ (fun w' x => Still.loadB one3 rfl x.2.2.2.1 (by rw [Nat.zero_add, List.getElem?_map, hTab.2 (q / (List.length b.next : Int)) y0 (by first | omega | assumption) (by omega)]; rfl)) ?_
  refine Gq.st 9 rfl (by kernel_rfl) rfl .plain rfl (fun _ _ _ h => h) ⟨hS, hN, hT, h1, h2, E⟩ (fun w' x => Still.loadB one3 rfl x.2.1 rfl) ?_
  refine Gq.st 10 rfl (by kernel_rfl) rfl .plain rfl (fun _ _ _ h => h) ⟨hS, hN, hT, h1, h2, E⟩ (fun w' x => Still.mul rfl rfl (by omega)) ?_
  refine Gq.st 11 rfl (by kernel_rfl) rfl .plain rfl (fun _ _ _ h => h) ⟨hS, hN, hT, h1, h2, E⟩ (fun w' x => Still.loadB one54 rfl x.2.2.1 rfl) ?_
  refine Gq.st 12 rfl (by kernel_rfl) rfl .plain rfl (fun _ _ _ h => h) ⟨hS, hN, hT, h1, h2, E⟩ (fun w' x => Still.move rfl) ?_
  refine Gq.st 13 rfl (by kernel_rfl) rfl .plain rfl (fun _ _ _ h => h) ⟨hS, hN, hT, h1, h2, E⟩ (fun w' x => Still.loadB one3 rfl x.2.1 rfl) ?_
  refine Gq.st 14 rfl (by kernel_rfl) rfl .plain rfl (fun _ _ _ h => h) ⟨hS, hN, hT, h1, h2, E⟩ (fun w' x => Still.rem rfl rfl (by omega)) ?_
  refine Gq.st 15 rfl (by kernel_rfl) rfl .plain rfl (fun _ _ _ h => h) ⟨hS, hN, hT, h1, h2, E⟩ (fun w' x => Still.move rfl) ?_
  refine Gq.st 16 rfl (by kernel_rfl) rfl .plain rfl (fun _ _ _ h => h) ⟨hS, hN, hT, h1, h2, E⟩ (fun w' x => Still.ixS slk54 rfl rfl (by omega) (by omega)) ?_
  refine Gq.st 17 rfl (by kernel_rfl) rfl .plain rfl (fun _ _ _ h => h) ⟨hS, hN, hT, h1, h2, E⟩ (fun w' x => Still.ixA ar56 rfl rfl (by omega) (by omega)) ?_
  refine Gq.st 18 rfl (by kernel_rfl) rfl .plain rfl (fun _ _ _ h => h) ⟨hS, hN, hT, h1, h2, E⟩ (fun w' x => Still.loadB one3 rfl x.2.2.2.2.1 (by rw [Nat.zero_add, List.getElem?_map, hTab'.2 (q % (List.length b.next : Int)) y0 (by first | omega | assumption) (by omega)]; rfl)) ?_
  refine Gq.st 19 rfl (by kernel_rfl) rfl .plain rfl (fun _ _ _ h => h) ⟨hS, hN, hT, h1, h2, E⟩ (fun w' x => Still.add rfl rfl (by omega)) ?_
  refine Gq.one 20 rfl (by kernel_rfl) ?_
  refine Sq.lit sl28 rfl rfl .plain rfl rfl (one_cons rfl one_nil) (fun b4 w5 e6 hlo7 ho8 _ => ?_)
  replace ho8 := ho8 w1.heap.size (Nat.le_refl _)
  have hs10 := Below.size e6
  replace E := E.trans e6
  replace hS := hS.ext e6
  replace hN := hN.ext e6
  replace hT := hT.ext e6
  replace h1 := h1.ext e6
  replace h2 := h2.ext e6
  refine Sq.nil ?_
  refine Eq.goes (fun _ => ⟨hS, hN, hT, h1, h2, E⟩) ?_
  refine Gq.one 21 rfl (by kernel_rfl) ?_
  refine Sq.app sl28 (Own.nil w5 (w0.heap.size) 3) (by omega) (Own.row ho8) (one_cons rfl one_nil) (by simp) .plain rfl rfl rfl rfl (fun v11 w12 ho14 g13 => ?_)
  have hs15 := g13.size
  have e16 := Ext.of_grown g13
  have hs17 := Below.size e16
  replace E := E.trans e16
  replace hS := hS.ext e16
  replace hN := hN.ext e16
  replace hT := hT.ext e16
  replace h1 := h1.ext e16
  replace h2 := h2.ext e16
  refine Sq.nil ?_
  refine Eq.goes (fun _ => ⟨hS, hN, hT, h1, h2, E⟩) ?_
  refine Gq.one 22 rfl (by kernel_rfl) ?_
  refine Sq.assign .plain rfl rfl ?_
  refine Sq.nil ?_
  refine Eq.goes (fun h => absurd h (by decide)) ?_
  refine Gq.done (by kernel_rfl) ?_
  refine Eq.next ?_
  refine Cq.ret ?_
  refine Eq.ret1 rfl rfl ?_
  exact ⟨by simpa [fP] using ho14, E⟩
set_option maxRecDepth 100000 in
theorem fb2_c (w0 : World) (q : Int) (a b : A) (nx ac nx' ac' gv : Value) (g : Bool → Bool → Bool) (bg ba bn bb : Nat) (hG : Blk w0 bg 43 [gv]) (hA : Blk w0 ba 26 [Value.int .i64 a.al, nx, ac]) (hN : Blk w0 bn 3 [Value.int .i64 (List.length b.next : Int)]) (hB : Blk w0 bb 26 [Value.int .i64 b.al, nx', ac']) (hac : Bools w0 4 ac a.acc) (hac' : Bools w0 4 ac' b.acc) (hgo : BClo Tryd.prog w0 gv g) (hv : validA a = true) (hv' : validA b = true) (hq : InP a b q) : Ret Tryd.prog 35 #[Value.int .i64 q, Value.pointer (some ⟨bg, 0, none⟩), Value.pointer (some ⟨ba, 0, none⟩), Value.pointer (some ⟨bn, 0, none⟩), Value.pointer (some ⟨bb, 0, none⟩)] w0 (fun v w => v = .bool (g (accA a (q / (List.length b.next : Int))) (accA b (q % (List.length b.next : Int)))) ∧ Ext w0 w) := by
  have E := Ext.refl w0
  obtain ⟨kg, fg, cg, hgv, hFg, hgoal⟩ := hgo
  have hz := zero_in hv'
  have hz1 := (validA_spec.1 hv).2
  have hz2 := (validA_spec.1 hv').2
  have hdv : (0 ≤ q / (List.length b.next : Int) ∧ q / (List.length b.next : Int) < (a.next.length : Int)) ∧ 0 ≤ q % (List.length b.next : Int) ∧ q % (List.length b.next : Int) < (List.length b.next : Int) := inP_div hv' hq
  have hqb : 0 ≤ q ∧ q ≤ 144 := ⟨hq.1, by have h8 := hq.2; have h9 := le144 hv hv'; omega⟩
  refine Ret.of (args := [Value.int .i64 q, Value.pointer (some ⟨bg, 0, none⟩), Value.pointer (some ⟨ba, 0, none⟩), Value.pointer (some ⟨bn, 0, none⟩), Value.pointer (some ⟨bb, 0, none⟩)]) Tryd.func35 rfl rfl rfl ?_
  rintro _ rfl
  show Cq _ _ _ _ [(0, Value.int .i64 q), (1, Value.pointer (some ⟨bg, 0, none⟩)), (2, Value.pointer (some ⟨ba, 0, none⟩)), (3, Value.pointer (some ⟨bn, 0, none⟩)), (4, Value.pointer (some ⟨bb, 0, none⟩))] _
  refine Cq.seq ?_
  refine Cq.region ?_
  refine Sq.assign .plain rfl rfl ?_
  refine Sq.nil ?_
  refine Eq.next ?_
  refine Cq.seq ?_
  obtain ⟨phpA, hpA⟩ := Bools.at hac (i := q / (List.length b.next : Int)) (by omega) (by omega)
  obtain ⟨phpB, hpB⟩ := Bools.at hac' (i := q % (List.length b.next : Int)) (by omega) (by omega)
  refine Cq.drawS 16 (fun w' => Blk w' bg 43 [gv] ∧ Blk w' ba 26 [Value.int .i64 a.al, nx, ac] ∧ Blk w' bn 3 [Value.int .i64 (List.length b.next : Int)] ∧ Blk w' bb 26 [Value.int .i64 b.al, nx', ac'] ∧ At w' 4 ac (q / (List.length b.next : Int)) phpA (.bool (a.acc.getD (q / (List.length b.next : Int)).toNat false)) ∧ At w' 4 ac' (q % (List.length b.next : Int)) phpB (.bool (b.acc.getD (q % (List.length b.next : Int)).toNat false)) ∧ Ext w0 w') mixed (⟨hG, hA, hN, hB, hpA, hpB, E⟩) (fun w1 e2 hS => ?_)
  clear hS
  have hs3 := Below.size e2
  replace E := E.trans e2
  replace hG := hG.ext e2
  replace hA := hA.ext e2
  replace hN := hN.ext e2
  replace hB := hB.ext e2
  replace hpA := hpA.ext e2
  replace hpB := hpB.ext e2
  refine Gq.st 0 rfl (by kernel_rfl) rfl .plain rfl (fun _ _ _ h => h) ⟨hG, hA, hN, hB, hpA, hpB, E⟩ (fun w' x => Still.loadB one43 rfl x.1 rfl) ?_
  refine Gq.st 1 rfl (by kernel_rfl) rfl .plain rfl (fun _ _ _ h => h) ⟨hG, hA, hN, hB, hpA, hpB, E⟩ (fun w' x => Still.fieldAddr fld26_2 rfl) ?_
  refine Gq.st 2 rfl (by kernel_rfl) rfl .plain rfl (fun _ _ _ h => h) ⟨hG, hA, hN, hB, hpA, hpB, E⟩ (fun w' x => Still.loadB one24 rfl x.2.1 rfl) ?_
  refine Gq.st 3 rfl (by kernel_rfl) rfl .plain rfl (fun _ _ _ h => h) ⟨hG, hA, hN, hB, hpA, hpB, E⟩ (fun w' x => Still.move rfl) ?_
  refine Gq.st 4 rfl (by kernel_rfl) rfl .plain rfl (fun _ _ _ h => h) ⟨hG, hA, hN, hB, hpA, hpB, E⟩ (fun w' x => Still.loadB one3 rfl x.2.2.1 rfl) ?_
  refine Gq.st 5 rfl (by kernel_rfl) rfl .plain rfl (fun _ _ _ h => h) ⟨hG, hA, hN, hB, hpA, hpB, E⟩ (fun w' x => Still.quo rfl rfl (by omega)) ?_
  refine Gq.st 6 rfl (by kernel_rfl) rfl .plain rfl (fun _ _ _ h => h) ⟨hG, hA, hN, hB, hpA, hpB, E⟩ (fun w' x => Still.at' sl24 hpA rfl rfl) ?_
  refine Gq.st 7 rfl (by kernel_rfl) rfl .plain rfl (fun _ _ _ h => h) ⟨hG, hA, hN, hB, hpA, hpB, E⟩ (fun w' x => Still.loadA one4 rfl (x.2.2.2.2.1).1) ?_
  refine Gq.st 8 rfl (by kernel_rfl) rfl .plain rfl (fun _ _ _ h => h) ⟨hG, hA, hN, hB, hpA, hpB, E⟩ (fun w' x => Still.fieldAddr fld26_2 rfl) ?_
  refine Gq.st 9 rfl (by kernel_rfl) rfl .plain rfl (fun _ _ _ h => h) ⟨hG, hA, hN, hB, hpA, hpB, E⟩ (fun w' x => Still.loadB one24 rfl x.2.2.2.1 rfl) ?_
  refine Gq.st 10 rfl (by kernel_rfl) rfl .plain rfl (fun _ _ _ h => h) ⟨hG, hA, hN, hB, hpA, hpB, E⟩ (fun w' x => Still.move rfl) ?_
  refine Gq.st 11 rfl (by kernel_rfl) rfl .plain rfl (fun _ _ _ h => h) ⟨hG, hA, hN, hB, hpA, hpB, E⟩ (fun w' x => Still.loadB one3 rfl x.2.2.1 rfl) ?_
  refine Gq.st 12 rfl (by kernel_rfl) rfl .plain rfl (fun _ _ _ h => h) ⟨hG, hA, hN, hB, hpA, hpB, E⟩ (fun w' x => Still.rem rfl rfl (by omega)) ?_
  refine Gq.st 13 rfl (by kernel_rfl) rfl .plain rfl (fun _ _ _ h => h) ⟨hG, hA, hN, hB, hpA, hpB, E⟩ (fun w' x => Still.at' sl24 hpB rfl rfl) ?_
  refine Gq.st 14 rfl (by kernel_rfl) rfl .plain rfl (fun _ _ _ h => h) ⟨hG, hA, hN, hB, hpA, hpB, E⟩ (fun w' x => Still.loadA one4 rfl (x.2.2.2.2.2.1).1) ?_
  refine Gq.one 15 rfl (by kernel_rfl) ?_
  refine Sq.callC hFg .plain rfl (by rw [← hgv]; rfl) rfl (hgoal _ _ _ E) ?_
  rintro _ w4 ⟨rfl, e5⟩
  have hs6 := Below.size e5
  replace E := E.trans e5
  replace hG := hG.ext e5
  replace hA := hA.ext e5
  replace hN := hN.ext e5
  replace hB := hB.ext e5
  replace hpA := hpA.ext e5
  replace hpB := hpB.ext e5
  refine Sq.nil ?_
  refine Eq.goes (fun _ => ⟨hG, hA, hN, hB, hpA, hpB, E⟩) ?_
  refine Gq.one 16 rfl (by kernel_rfl) ?_
  refine Sq.assign .plain rfl rfl ?_
  refine Sq.nil ?_
  refine Eq.goes (fun h => absurd h (by decide)) ?_
  refine Gq.done (by kernel_rfl) ?_
  refine Eq.next ?_
  refine Cq.ret ?_
  refine Eq.ret1 rfl rfl ?_
  exact ⟨rfl, E⟩
set_option maxHeartbeats 1000000 in
set_option maxRecDepth 100000 in
theorem firstOfBoth_c (w0 : World) (a b : A) (nx ac nx' ac' : Value) (hnx : Rows w0 28 3 nx a.next) (hac : Bools w0 4 ac a.acc) (hnx' : Rows w0 28 3 nx' b.next) (hac' : Bools w0 4 ac' b.acc) (gv : Value) (g : Bool → Bool → Bool) (hgo : BClo Tryd.prog w0 gv g) (i0 j0 : Int) (hv : validA a = true) (hv' : validA b = true) (hp : In2 a b (i0, j0)) : Ret Tryd.prog 19 #[Value.agg #[Value.int .i64 a.al, nx, ac], Value.agg #[Value.int .i64 b.al, nx', ac'], Value.int .i64 i0, Value.int .i64 j0, gv] w0 (fun v w => v = resW (firstAB a b (i0, j0) g) ∧ Ext w0 w) := by
  have E := Ext.refl w0
  have hal := (validA_spec.1 hv).1
  have h144 := le144 hv hv'
  have hz1 := (validA_spec.1 hv).2
  have hz2 := (validA_spec.1 hv').2
  have hp1 := hp.1
  have hp2 := hp.2
  simp only at hp1 hp2
  have hee := inP_enc (p := (i0, j0)) hp
  unfold InP enc2 at hee
  simp only at hee
  have hm1 := mul144 hv hv'
  have hm2 := (Int.mul_nonneg (a := i0) (b := (List.length b.next : Int)) (by omega) (by omega))
  refine Ret.of (args := [Value.agg #[Value.int .i64 a.al, nx, ac], Value.agg #[Value.int .i64 b.al, nx', ac'], Value.int .i64 i0, Value.int .i64 j0, gv]) Tryd.func19 rfl rfl rfl ?_
  rintro _ rfl
  show Cq _ _ _ _ [(0, Value.agg #[Value.int .i64 a.al, nx, ac]), (1, Value.agg #[Value.int .i64 b.al, nx', ac']), (2, Value.int .i64 i0), (3, Value.int .i64 j0), (4, gv)] _
  refine Cq.seq ?_
  refine Cq.region ?_
  refine Sq.box .plain rfl rfl (fun b1 w2 e3 hB4 hlo5 => ?_)
  have hd6 := Nat.le_trans (Below.size E) hlo5
  have hs7 := Below.size e3
  replace E := E.trans e3
  refine Sq.box .plain rfl rfl (fun b8 w9 e10 hB11 hlo12 => ?_)
  have hd13 := Nat.le_trans (Below.size E) hlo12
  have hd14 := Nat.lt_of_lt_of_le hB4.lt hlo12
  have hs15 := Below.size e10
  replace E := E.trans e10
  replace hB4 := hB4.ext e10
  refine Sq.box1 .plain rfl rfl (BClo.one hgo) (fun b16 w17 e18 hB19 hlo20 => ?_)
  have hd21 := Nat.le_trans (Below.size E) hlo20
  have hd22 := Nat.lt_of_lt_of_le hB4.lt hlo20
  have hd23 := Nat.lt_of_lt_of_le hB11.lt hlo20
  have hs24 := Below.size e18
  replace E := E.trans e18
  replace hB4 := hB4.ext e18
  replace hB11 := hB11.ext e18
  refine Sq.assign .plain rfl rfl ?_
  refine Sq.assign .plain rfl rfl ?_
  refine Sq.nil ?_
  refine Eq.next ?_
  refine Cq.seq ?_
  refine Cq.cut (fun ls w => ∃ (c8 : Nat), ∃ (c9 : Nat), ∃ (t1 : Nat), ∃ (t2 : Nat), ∃ (xs : List Int), ∃ (ys0 : List Int), ls = [(2, Value.int .i64 i0), (3, Value.int .i64 j0), (5, Value.pointer (some ⟨b1, 0, none⟩)), (6, Value.pointer (some ⟨b8, 0, none⟩)), (9, Value.pointer (some ⟨b16, 0, none⟩)), (12, Value.pointer (some ⟨c8, 0, none⟩)), (13, Value.pointer (some ⟨c9, 0, none⟩))] ∧ Blk w c8 54 [Value.slice (some ⟨t1, 0, none⟩) a.next.length a.next.length] ∧ Blk w c9 54 [Value.slice (some ⟨t2, 0, none⟩) b.next.length b.next.length] ∧ Blk w t1 56 (xs.map (Value.int .i64)) ∧ Blk w t2 56 (ys0.map (Value.int .i64)) ∧ Tab a xs ∧ Tab b ys0 ∧ (b1 < c8 ∧ b1 < c9 ∧ b1 < t1 ∧ b1 < t2 ∧ b8 < c8 ∧ b8 < c9 ∧ b8 < t1 ∧ b8 < t2 ∧ b16 < c8 ∧ b16 < c9 ∧ b16 < t1 ∧ b16 < t2) ∧ Ext w0 w ∧ Blk w b1 26 [Value.int .i64 a.al, nx, ac] ∧ Blk w b8 26 [Value.int .i64 b.al, nx', ac'] ∧ Blk w b16 43 [gv]) ?_ ?_
  · refine Cq.drawS 7 (fun w' => Blk w' b1 26 [Value.int .i64 a.al, nx, ac] ∧ Blk w' b8 26 [Value.int .i64 b.al, nx', ac']) mixed (⟨hB4, hB11⟩) (fun w25 e26 hS => ?_)
    clear hS
    have hs27 := Below.size e26
    replace E := E.trans e26
    replace hB4 := hB4.ext e26
    replace hB11 := hB11.ext e26
    replace hB19 := hB19.ext e26
    refine Gq.st 0 rfl (by kernel_rfl) rfl .plain rfl (fun _ _ _ h => h) ⟨hB4, hB11⟩ (fun w' x => Still.loadAgg agg26 rfl x.1 rfl) ?_
    refine Gq.st 2 rfl (by kernel_rfl) rfl .plain rfl (fun _ _ _ h => h) ⟨hB4, hB11⟩ (fun w' x => Still.loadAgg agg26 rfl x.2 rfl) ?_
    refine Gq.three 1 4 5 rfl rfl rfl (by kernel_rfl) ?_ ?_ ?_
    · have hd36 := hB4.lt
      have hd37 := hB11.lt
      have hd38 := hB19.lt
      refine Sq.call fn32 .plain rfl rfl (tableOf_c _ a _ _ (hnx.ext E) (hac.ext E) hv) ?_
      rintro _ w29 ⟨⟨b31, xs32, rfl, hlo33, hT34, hTab35⟩, e30⟩
      have hs39 := Below.size E
      have hs40 := Below.size e30
      replace E := E.trans e30
      replace hB4 := hB4.ext e30
      replace hB11 := hB11.ext e30
      replace hB19 := hB19.ext e30
      refine Sq.nil ?_
      refine Eq.goes (fun _ => ⟨hB4, hB11⟩) ?_
      refine Gq.three 3 4 5 rfl rfl rfl (by kernel_rfl) ?_ ?_ ?_
      · have hd49 := hB4.lt
        have hd50 := hB11.lt
        have hd51 := hB19.lt
        have hd52 := hT34.lt
        refine Sq.call fn32 .plain rfl rfl (tableOf_c _ b _ _ (hnx'.ext E) (hac'.ext E) hv') ?_
        rintro _ w42 ⟨⟨b44, xs45, rfl, hlo46, hT47, hTab48⟩, e43⟩
        have hs53 := Below.size E
        have hs54 := Below.size e43
        replace E := E.trans e43
        replace hB4 := hB4.ext e43
        replace hB11 := hB11.ext e43
        replace hB19 := hB19.ext e43
        replace hT34 := hT34.ext e43
        refine Sq.nil ?_
        refine Eq.goes (fun _ => ⟨hB4, hB11⟩) ?_
        refine Gq.two 4 5 rfl rfl (by kernel_rfl) ?_ ?_
        · refine Sq.alloc1 zero54 rfl .plain rfl (fun b55 w56 e57 hB58 hlo59 => ?_)
          have hd60 := Nat.le_trans (Below.size E) hlo59
          have hd61 := Nat.lt_of_lt_of_le hB4.lt hlo59
          have hd62 := Nat.lt_of_lt_of_le hB11.lt hlo59
          have hd63 := Nat.lt_of_lt_of_le hB19.lt hlo59
          have hd64 := Nat.lt_of_lt_of_le hT34.lt hlo59
          have hd65 := Nat.lt_of_lt_of_le hT47.lt hlo59
          have hs66 := Below.size e57
          replace E := E.trans e57
          replace hB4 := hB4.ext e57
          replace hB11 := hB11.ext e57
          replace hB19 := hB19.ext e57
          replace hT34 := hT34.ext e57
          replace hT47 := hT47.ext e57
          refine Sq.nil ?_
          refine Eq.goes (fun _ => ⟨hB4, hB11⟩) ?_
          refine Gq.one 5 rfl (by kernel_rfl) ?_
          refine Sq.alloc1 zero54 rfl .plain rfl (fun b67 w68 e69 hB70 hlo71 => ?_)
          have hd72 := Nat.le_trans (Below.size E) hlo71
          have hd73 := Nat.lt_of_lt_of_le hB4.lt hlo71
          have hd74 := Nat.lt_of_lt_of_le hB11.lt hlo71
          have hd75 := Nat.lt_of_lt_of_le hB19.lt hlo71
          have hd76 := Nat.lt_of_lt_of_le hT34.lt hlo71
          have hd77 := Nat.lt_of_lt_of_le hT47.lt hlo71
          have hd78 := Nat.lt_of_lt_of_le hB58.lt hlo71
          have hs79 := Below.size e69
          replace E := E.trans e69
          replace hB4 := hB4.ext e69
          replace hB11 := hB11.ext e69
          replace hB19 := hB19.ext e69
          replace hT34 := hT34.ext e69
          replace hT47 := hT47.ext e69
          replace hB58 := hB58.ext e69
          refine Sq.nil ?_
          refine Eq.goes (fun _ => ⟨hB4, hB11⟩) ?_
          refine Gq.one 6 rfl (by kernel_rfl) ?_
          refine Sq.store one54 .plain rfl rfl rfl hB58 (by simp) (fun w80 g81 hB82 => ?_)
          have hs83 := World.grownBy.size g81
          replace E := E.grown g81 (fun k hk => by injection hk with hk; subst hk; omega)
          replace hB4 := hB4.grown g81 (by intro h; injection h with h; omega)
          replace hB11 := hB11.grown g81 (by intro h; injection h with h; omega)
          replace hB19 := hB19.grown g81 (by intro h; injection h with h; omega)
          replace hT34 := hT34.grown g81 (by intro h; injection h with h; omega)
          replace hT47 := hT47.grown g81 (by intro h; injection h with h; omega)
          replace hB70 := hB70.grown g81 (by intro h; injection h with h; omega)
          replace hB58 := hB82
          refine Sq.nil ?_
          refine Eq.goes (fun _ => ⟨hB4, hB11⟩) ?_
          refine Gq.one 7 rfl (by kernel_rfl) ?_
          refine Sq.store one54 .plain rfl rfl rfl hB70 (by simp) (fun w84 g85 hB86 => ?_)
          have hs87 := World.grownBy.size g85
          replace E := E.grown g85 (fun k hk => by injection hk with hk; subst hk; omega)
          replace hB4 := hB4.grown g85 (by intro h; injection h with h; omega)
          replace hB11 := hB11.grown g85 (by intro h; injection h with h; omega)
          replace hB19 := hB19.grown g85 (by intro h; injection h with h; omega)
          replace hT34 := hT34.grown g85 (by intro h; injection h with h; omega)
          replace hT47 := hT47.grown g85 (by intro h; injection h with h; omega)
          replace hB58 := hB58.grown g85 (by intro h; injection h with h; omega)
          replace hB70 := hB86
          refine Sq.nil ?_
          refine Eq.goes (fun h => absurd h (by decide)) ?_
          refine Gq.done (by kernel_rfl) ?_
          refine Eq.left _ ⟨b55, b67, _, _, _, _, rfl, hB58, hB70, hT34, hT47, hTab35, hTab48, by omega, E, hB4, hB11, hB19⟩ (.cons rfl (.cons rfl (.cons rfl (.cons rfl (.cons rfl (.cons rfl (.cons rfl (.nil))))))))
        refine Sq.alloc1 zero54 rfl .plain rfl (fun b88 w89 e90 hB91 hlo92 => ?_)
        have hd93 := Nat.le_trans (Below.size E) hlo92
        have hd94 := Nat.lt_of_lt_of_le hB4.lt hlo92
        have hd95 := Nat.lt_of_lt_of_le hB11.lt hlo92
        have hd96 := Nat.lt_of_lt_of_le hB19.lt hlo92
        have hd97 := Nat.lt_of_lt_of_le hT34.lt hlo92
        have hd98 := Nat.lt_of_lt_of_le hT47.lt hlo92
        have hs99 := Below.size e90
        replace E := E.trans e90
        replace hB4 := hB4.ext e90
        replace hB11 := hB11.ext e90
        replace hB19 := hB19.ext e90
        replace hT34 := hT34.ext e90
        replace hT47 := hT47.ext e90
        refine Sq.nil ?_
        refine Eq.goes (fun _ => ⟨hB4, hB11⟩) ?_
        refine Gq.one 4 rfl (by kernel_rfl) ?_
        refine Sq.alloc1 zero54 rfl .plain rfl (fun b100 w101 e102 hB103 hlo104 => ?_)
        have hd105 := Nat.le_trans (Below.size E) hlo104
        have hd106 := Nat.lt_of_lt_of_le hB4.lt hlo104
        have hd107 := Nat.lt_of_lt_of_le hB11.lt hlo104
        have hd108 := Nat.lt_of_lt_of_le hB19.lt hlo104
        have hd109 := Nat.lt_of_lt_of_le hT34.lt hlo104
        have hd110 := Nat.lt_of_lt_of_le hT47.lt hlo104
        have hd111 := Nat.lt_of_lt_of_le hB91.lt hlo104
        have hs112 := Below.size e102
        replace E := E.trans e102
        replace hB4 := hB4.ext e102
        replace hB11 := hB11.ext e102
        replace hB19 := hB19.ext e102
        replace hT34 := hT34.ext e102
        replace hT47 := hT47.ext e102
        replace hB91 := hB91.ext e102
        refine Sq.nil ?_
        refine Eq.goes (fun _ => ⟨hB4, hB11⟩) ?_
        refine Gq.one 6 rfl (by kernel_rfl) ?_
        refine Sq.store one54 .plain rfl rfl rfl hB103 (by simp) (fun w113 g114 hB115 => ?_)
        have hs116 := World.grownBy.size g114
        replace E := E.grown g114 (fun k hk => by injection hk with hk; subst hk; omega)
        replace hB4 := hB4.grown g114 (by intro h; injection h with h; omega)
        replace hB11 := hB11.grown g114 (by intro h; injection h with h; omega)
        replace hB19 := hB19.grown g114 (by intro h; injection h with h; omega)
        replace hT34 := hT34.grown g114 (by intro h; injection h with h; omega)
        replace hT47 := hT47.grown g114 (by intro h; injection h with h; omega)
        replace hB91 := hB91.grown g114 (by intro h; injection h with h; omega)
        replace hB103 := hB115
        refine Sq.nil ?_
        refine Eq.goes (fun _ => ⟨hB4, hB11⟩) ?_
        refine Gq.one 7 rfl (by kernel_rfl) ?_
        refine Sq.store one54 .plain rfl rfl rfl hB91 (by simp) (fun w117 g118 hB119 => ?_)
        have hs120 := World.grownBy.size g118
        replace E := E.grown g118 (fun k hk => by injection hk with hk; subst hk; omega)
        replace hB4 := hB4.grown g118 (by intro h; injection h with h; omega)
        replace hB11 := hB11.grown g118 (by intro h; injection h with h; omega)
        replace hB19 := hB19.grown g118 (by intro h; injection h with h; omega)
        replace hT34 := hT34.grown g118 (by intro h; injection h with h; omega)
        replace hT47 := hT47.grown g118 (by intro h; injection h with h; omega)
        replace hB103 := hB103.grown g118 (by intro h; injection h with h; omega)
        replace hB91 := hB119
        refine Sq.nil ?_
        refine Eq.goes (fun h => absurd h (by decide)) ?_
        refine Gq.done (by kernel_rfl) ?_
        refine Eq.left _ ⟨b100, b88, _, _, _, _, rfl, hB103, hB91, hT34, hT47, hTab35, hTab48, by omega, E, hB4, hB11, hB19⟩ (.cons rfl (.cons rfl (.cons rfl (.cons rfl (.cons rfl (.cons rfl (.cons rfl (.nil))))))))
      · refine Sq.alloc1 zero54 rfl .plain rfl (fun b121 w122 e123 hB124 hlo125 => ?_)
        have hd126 := Nat.le_trans (Below.size E) hlo125
        have hd127 := Nat.lt_of_lt_of_le hB4.lt hlo125
        have hd128 := Nat.lt_of_lt_of_le hB11.lt hlo125
        have hd129 := Nat.lt_of_lt_of_le hB19.lt hlo125
        have hd130 := Nat.lt_of_lt_of_le hT34.lt hlo125
        have hs131 := Below.size e123
        replace E := E.trans e123
        replace hB4 := hB4.ext e123
        replace hB11 := hB11.ext e123
        replace hB19 := hB19.ext e123
        replace hT34 := hT34.ext e123
        refine Sq.nil ?_
        refine Eq.goes (fun _ => ⟨hB4, hB11⟩) ?_
        refine Gq.two 3 5 rfl rfl (by kernel_rfl) ?_ ?_
        · have hd140 := hB4.lt
          have hd141 := hB11.lt
          have hd142 := hB19.lt
          have hd143 := hT34.lt
          have hd144 := hB124.lt
          refine Sq.call fn32 .plain rfl rfl (tableOf_c _ b _ _ (hnx'.ext E) (hac'.ext E) hv') ?_
          rintro _ w133 ⟨⟨b135, xs136, rfl, hlo137, hT138, hTab139⟩, e134⟩
          have hs145 := Below.size E
          have hs146 := Below.size e134
          replace E := E.trans e134
          replace hB4 := hB4.ext e134
          replace hB11 := hB11.ext e134
          replace hB19 := hB19.ext e134
          replace hT34 := hT34.ext e134
          replace hB124 := hB124.ext e134
          refine Sq.nil ?_
          refine Eq.goes (fun _ => ⟨hB4, hB11⟩) ?_
          refine Gq.one 5 rfl (by kernel_rfl) ?_
          refine Sq.alloc1 zero54 rfl .plain rfl (fun b147 w148 e149 hB150 hlo151 => ?_)
          have hd152 := Nat.le_trans (Below.size E) hlo151
          have hd153 := Nat.lt_of_lt_of_le hB4.lt hlo151
          have hd154 := Nat.lt_of_lt_of_le hB11.lt hlo151
          have hd155 := Nat.lt_of_lt_of_le hB19.lt hlo151
          have hd156 := Nat.lt_of_lt_of_le hT34.lt hlo151
          have hd157 := Nat.lt_of_lt_of_le hB124.lt hlo151
          have hd158 := Nat.lt_of_lt_of_le hT138.lt hlo151
          have hs159 := Below.size e149
          replace E := E.trans e149
          replace hB4 := hB4.ext e149
          replace hB11 := hB11.ext e149
          replace hB19 := hB19.ext e149
          replace hT34 := hT34.ext e149
          replace hB124 := hB124.ext e149
          replace hT138 := hT138.ext e149
          refine Sq.nil ?_
          refine Eq.goes (fun _ => ⟨hB4, hB11⟩) ?_
          refine Gq.one 6 rfl (by kernel_rfl) ?_
          refine Sq.store one54 .plain rfl rfl rfl hB124 (by simp) (fun w160 g161 hB162 => ?_)
          have hs163 := World.grownBy.size g161
          replace E := E.grown g161 (fun k hk => by injection hk with hk; subst hk; omega)
          replace hB4 := hB4.grown g161 (by intro h; injection h with h; omega)
          replace hB11 := hB11.grown g161 (by intro h; injection h with h; omega)
          replace hB19 := hB19.grown g161 (by intro h; injection h with h; omega)
          replace hT34 := hT34.grown g161 (by intro h; injection h with h; omega)
          replace hT138 := hT138.grown g161 (by intro h; injection h with h; omega)
          replace hB150 := hB150.grown g161 (by intro h; injection h with h; omega)
          replace hB124 := hB162
          refine Sq.nil ?_
          refine Eq.goes (fun _ => ⟨hB4, hB11⟩) ?_
          refine Gq.one 7 rfl (by kernel_rfl) ?_
          refine Sq.store one54 .plain rfl rfl rfl hB150 (by simp) (fun w164 g165 hB166 => ?_)
          have hs167 := World.grownBy.size g165
          replace E := E.grown g165 (fun k hk => by injection hk with hk; subst hk; omega)
          replace hB4 := hB4.grown g165 (by intro h; injection h with h; omega)
          replace hB11 := hB11.grown g165 (by intro h; injection h with h; omega)
          replace hB19 := hB19.grown g165 (by intro h; injection h with h; omega)
          replace hT34 := hT34.grown g165 (by intro h; injection h with h; omega)
          replace hB124 := hB124.grown g165 (by intro h; injection h with h; omega)
          replace hT138 := hT138.grown g165 (by intro h; injection h with h; omega)
          replace hB150 := hB166
          refine Sq.nil ?_
          refine Eq.goes (fun h => absurd h (by decide)) ?_
          refine Gq.done (by kernel_rfl) ?_
          refine Eq.left _ ⟨b121, b147, _, _, _, _, rfl, hB124, hB150, hT34, hT138, hTab35, hTab139, by omega, E, hB4, hB11, hB19⟩ (.cons rfl (.cons rfl (.cons rfl (.cons rfl (.cons rfl (.cons rfl (.cons rfl (.nil))))))))
        refine Sq.alloc1 zero54 rfl .plain rfl (fun b168 w169 e170 hB171 hlo172 => ?_)
        have hd173 := Nat.le_trans (Below.size E) hlo172
        have hd174 := Nat.lt_of_lt_of_le hB4.lt hlo172
        have hd175 := Nat.lt_of_lt_of_le hB11.lt hlo172
        have hd176 := Nat.lt_of_lt_of_le hB19.lt hlo172
        have hd177 := Nat.lt_of_lt_of_le hT34.lt hlo172
        have hd178 := Nat.lt_of_lt_of_le hB124.lt hlo172
        have hs179 := Below.size e170
        replace E := E.trans e170
        replace hB4 := hB4.ext e170
        replace hB11 := hB11.ext e170
        replace hB19 := hB19.ext e170
        replace hT34 := hT34.ext e170
        replace hB124 := hB124.ext e170
        refine Sq.nil ?_
        refine Eq.goes (fun _ => ⟨hB4, hB11⟩) ?_
        refine Gq.one 3 rfl (by kernel_rfl) ?_
        have hd188 := hB4.lt
        have hd189 := hB11.lt
        have hd190 := hB19.lt
        have hd191 := hT34.lt
        have hd192 := hB124.lt
        have hd193 := hB171.lt
        refine Sq.call fn32 .plain rfl rfl (tableOf_c _ b _ _ (hnx'.ext E) (hac'.ext E) hv') ?_
        rintro _ w181 ⟨⟨b183, xs184, rfl, hlo185, hT186, hTab187⟩, e182⟩
        have hs194 := Below.size E
        have hs195 := Below.size e182
        replace E := E.trans e182
        replace hB4 := hB4.ext e182
        replace hB11 := hB11.ext e182
        replace hB19 := hB19.ext e182
        replace hT34 := hT34.ext e182
        replace hB124 := hB124.ext e182
        replace hB171 := hB171.ext e182
        refine Sq.nil ?_
        refine Eq.goes (fun _ => ⟨hB4, hB11⟩) ?_
        refine Gq.one 6 rfl (by kernel_rfl) ?_
        refine Sq.store one54 .plain rfl rfl rfl hB124 (by simp) (fun w196 g197 hB198 => ?_)
        have hs199 := World.grownBy.size g197
        replace E := E.grown g197 (fun k hk => by injection hk with hk; subst hk; omega)
        replace hB4 := hB4.grown g197 (by intro h; injection h with h; omega)
        replace hB11 := hB11.grown g197 (by intro h; injection h with h; omega)
        replace hB19 := hB19.grown g197 (by intro h; injection h with h; omega)
        replace hT34 := hT34.grown g197 (by intro h; injection h with h; omega)
        replace hB171 := hB171.grown g197 (by intro h; injection h with h; omega)
        replace hT186 := hT186.grown g197 (by intro h; injection h with h; omega)
        replace hB124 := hB198
        refine Sq.nil ?_
        refine Eq.goes (fun _ => ⟨hB4, hB11⟩) ?_
        refine Gq.one 7 rfl (by kernel_rfl) ?_
        refine Sq.store one54 .plain rfl rfl rfl hB171 (by simp) (fun w200 g201 hB202 => ?_)
        have hs203 := World.grownBy.size g201
        replace E := E.grown g201 (fun k hk => by injection hk with hk; subst hk; omega)
        replace hB4 := hB4.grown g201 (by intro h; injection h with h; omega)
        replace hB11 := hB11.grown g201 (by intro h; injection h with h; omega)
        replace hB19 := hB19.grown g201 (by intro h; injection h with h; omega)
        replace hT34 := hT34.grown g201 (by intro h; injection h with h; omega)
        replace hB124 := hB124.grown g201 (by intro h; injection h with h; omega)
        replace hT186 := hT186.grown g201 (by intro h; injection h with h; omega)
        replace hB171 := hB202
        refine Sq.nil ?_
        refine Eq.goes (fun h => absurd h (by decide)) ?_
        refine Gq.done (by kernel_rfl) ?_
        refine Eq.left _ ⟨b121, b168, _, _, _, _, rfl, hB124, hB171, hT34, hT186, hTab35, hTab187, by omega, E, hB4, hB11, hB19⟩ (.cons rfl (.cons rfl (.cons rfl (.cons rfl (.cons rfl (.cons rfl (.cons rfl (.nil))))))))
      refine Sq.alloc1 zero54 rfl .plain rfl (fun b204 w205 e206 hB207 hlo208 => ?_)
      have hd209 := Nat.le_trans (Below.size E) hlo208
      have hd210 := Nat.lt_of_lt_of_le hB4.lt hlo208
      have hd211 := Nat.lt_of_lt_of_le hB11.lt hlo208
      have hd212 := Nat.lt_of_lt_of_le hB19.lt hlo208
      have hd213 := Nat.lt_of_lt_of_le hT34.lt hlo208
      have hs214 := Below.size e206
      replace E := E.trans e206
      replace hB4 := hB4.ext e206
      replace hB11 := hB11.ext e206
      replace hB19 := hB19.ext e206
      replace hT34 := hT34.ext e206
      refine Sq.nil ?_
      refine Eq.goes (fun _ => ⟨hB4, hB11⟩) ?_
      refine Gq.two 3 4 rfl rfl (by kernel_rfl) ?_ ?_
      · have hd223 := hB4.lt
        have hd224 := hB11.lt
        have hd225 := hB19.lt
        have hd226 := hT34.lt
        have hd227 := hB207.lt
        refine Sq.call fn32 .plain rfl rfl (tableOf_c _ b _ _ (hnx'.ext E) (hac'.ext E) hv') ?_
        rintro _ w216 ⟨⟨b218, xs219, rfl, hlo220, hT221, hTab222⟩, e217⟩
        have hs228 := Below.size E
        have hs229 := Below.size e217
        replace E := E.trans e217
        replace hB4 := hB4.ext e217
        replace hB11 := hB11.ext e217
        replace hB19 := hB19.ext e217
        replace hT34 := hT34.ext e217
        replace hB207 := hB207.ext e217
        refine Sq.nil ?_
        refine Eq.goes (fun _ => ⟨hB4, hB11⟩) ?_
        refine Gq.one 4 rfl (by kernel_rfl) ?_
        refine Sq.alloc1 zero54 rfl .plain rfl (fun b230 w231 e232 hB233 hlo234 => ?_)
        have hd235 := Nat.le_trans (Below.size E) hlo234
        have hd236 := Nat.lt_of_lt_of_le hB4.lt hlo234
        have hd237 := Nat.lt_of_lt_of_le hB11.lt hlo234
        have hd238 := Nat.lt_of_lt_of_le hB19.lt hlo234
        have hd239 := Nat.lt_of_lt_of_le hT34.lt hlo234
        have hd240 := Nat.lt_of_lt_of_le hB207.lt hlo234
        have hd241 := Nat.lt_of_lt_of_le hT221.lt hlo234
        have hs242 := Below.size e232
        replace E := E.trans e232
        replace hB4 := hB4.ext e232
        replace hB11 := hB11.ext e232
        replace hB19 := hB19.ext e232
        replace hT34 := hT34.ext e232
        replace hB207 := hB207.ext e232
        replace hT221 := hT221.ext e232
        refine Sq.nil ?_
        refine Eq.goes (fun _ => ⟨hB4, hB11⟩) ?_
        refine Gq.one 6 rfl (by kernel_rfl) ?_
        refine Sq.store one54 .plain rfl rfl rfl hB233 (by simp) (fun w243 g244 hB245 => ?_)
        have hs246 := World.grownBy.size g244
        replace E := E.grown g244 (fun k hk => by injection hk with hk; subst hk; omega)
        replace hB4 := hB4.grown g244 (by intro h; injection h with h; omega)
        replace hB11 := hB11.grown g244 (by intro h; injection h with h; omega)
        replace hB19 := hB19.grown g244 (by intro h; injection h with h; omega)
        replace hT34 := hT34.grown g244 (by intro h; injection h with h; omega)
        replace hB207 := hB207.grown g244 (by intro h; injection h with h; omega)
        replace hT221 := hT221.grown g244 (by intro h; injection h with h; omega)
        replace hB233 := hB245
        refine Sq.nil ?_
        refine Eq.goes (fun _ => ⟨hB4, hB11⟩) ?_
        refine Gq.one 7 rfl (by kernel_rfl) ?_
        refine Sq.store one54 .plain rfl rfl rfl hB207 (by simp) (fun w247 g248 hB249 => ?_)
        have hs250 := World.grownBy.size g248
        replace E := E.grown g248 (fun k hk => by injection hk with hk; subst hk; omega)
        replace hB4 := hB4.grown g248 (by intro h; injection h with h; omega)
        replace hB11 := hB11.grown g248 (by intro h; injection h with h; omega)
        replace hB19 := hB19.grown g248 (by intro h; injection h with h; omega)
        replace hT34 := hT34.grown g248 (by intro h; injection h with h; omega)
        replace hT221 := hT221.grown g248 (by intro h; injection h with h; omega)
        replace hB233 := hB233.grown g248 (by intro h; injection h with h; omega)
        replace hB207 := hB249
        refine Sq.nil ?_
        refine Eq.goes (fun h => absurd h (by decide)) ?_
        refine Gq.done (by kernel_rfl) ?_
        refine Eq.left _ ⟨b230, b204, _, _, _, _, rfl, hB233, hB207, hT34, hT221, hTab35, hTab222, by omega, E, hB4, hB11, hB19⟩ (.cons rfl (.cons rfl (.cons rfl (.cons rfl (.cons rfl (.cons rfl (.cons rfl (.nil))))))))
      refine Sq.alloc1 zero54 rfl .plain rfl (fun b251 w252 e253 hB254 hlo255 => ?_)
      have hd256 := Nat.le_trans (Below.size E) hlo255
      have hd257 := Nat.lt_of_lt_of_le hB4.lt hlo255
      have hd258 := Nat.lt_of_lt_of_le hB11.lt hlo255
      have hd259 := Nat.lt_of_lt_of_le hB19.lt hlo255
      have hd260 := Nat.lt_of_lt_of_le hT34.lt hlo255
      have hd261 := Nat.lt_of_lt_of_le hB207.lt hlo255
      have hs262 := Below.size e253
      replace E := E.trans e253
      replace hB4 := hB4.ext e253
      replace hB11 := hB11.ext e253
      replace hB19 := hB19.ext e253
      replace hT34 := hT34.ext e253
      replace hB207 := hB207.ext e253
      refine Sq.nil ?_
      refine Eq.goes (fun _ => ⟨hB4, hB11⟩) ?_
      refine Gq.one 3 rfl (by kernel_rfl) ?_
      have hd271 := hB4.lt
      have hd272 := hB11.lt
      have hd273 := hB19.lt
      have hd274 := hT34.lt
      have hd275 := hB207.lt
      have hd276 := hB254.lt
      refine Sq.call fn32 .plain rfl rfl (tableOf_c _ b _ _ (hnx'.ext E) (hac'.ext E) hv') ?_
      rintro _ w264 ⟨⟨b266, xs267, rfl, hlo268, hT269, hTab270⟩, e265⟩
      have hs277 := Below.size E
      have hs278 := Below.size e265
      replace E := E.trans e265
      replace hB4 := hB4.ext e265
      replace hB11 := hB11.ext e265
      replace hB19 := hB19.ext e265
      replace hT34 := hT34.ext e265
      replace hB207 := hB207.ext e265
      replace hB254 := hB254.ext e265
      refine Sq.nil ?_
      refine Eq.goes (fun _ => ⟨hB4, hB11⟩) ?_
      refine Gq.one 6 rfl (by kernel_rfl) ?_
      refine Sq.store one54 .plain rfl rfl rfl hB254 (by simp) (fun w279 g280 hB281 => ?_)
      have hs282 := World.grownBy.size g280
      replace E := E.grown g280 (fun k hk => by injection hk with hk; subst hk; omega)
      replace hB4 := hB4.grown g280 (by intro h; injection h with h; omega)
      replace hB11 := hB11.grown g280 (by intro h; injection h with h; omega)
      replace hB19 := hB19.grown g280 (by intro h; injection h with h; omega)
      replace hT34 := hT34.grown g280 (by intro h; injection h with h; omega)
      replace hB207 := hB207.grown g280 (by intro h; injection h with h; omega)
      replace hT269 := hT269.grown g280 (by intro h; injection h with h; omega)
      replace hB254 := hB281
      refine Sq.nil ?_
      refine Eq.goes (fun _ => ⟨hB4, hB11⟩) ?_
      refine Gq.one 7 rfl (by kernel_rfl) ?_
      refine Sq.store one54 .plain rfl rfl rfl hB207 (by simp) (fun w283 g284 hB285 => ?_)
      have hs286 := World.grownBy.size g284
      replace E := E.grown g284 (fun k hk => by injection hk with hk; subst hk; omega)
      replace hB4 := hB4.grown g284 (by intro h; injection h with h; omega)
      replace hB11 := hB11.grown g284 (by intro h; injection h with h; omega)
      replace hB19 := hB19.grown g284 (by intro h; injection h with h; omega)
      replace hT34 := hT34.grown g284 (by intro h; injection h with h; omega)
      replace hB254 := hB254.grown g284 (by intro h; injection h with h; omega)
      replace hT269 := hT269.grown g284 (by intro h; injection h with h; omega)
      replace hB207 := hB285
      refine Sq.nil ?_
      refine Eq.goes (fun h => absurd h (by decide)) ?_
      refine Gq.done (by kernel_rfl) ?_
      refine Eq.left _ ⟨b251, b204, _, _, _, _, rfl, hB254, hB207, hT34, hT269, hTab35, hTab270, by omega, E, hB4, hB11, hB19⟩ (.cons rfl (.cons rfl (.cons rfl (.cons rfl (.cons rfl (.cons rfl (.cons rfl (.nil))))))))
    · refine Sq.alloc1 zero54 rfl .plain rfl (fun b287 w288 e289 hB290 hlo291 => ?_)
      have hd292 := Nat.le_trans (Below.size E) hlo291
      have hd293 := Nat.lt_of_lt_of_le hB4.lt hlo291
      have hd294 := Nat.lt_of_lt_of_le hB11.lt hlo291
      have hd295 := Nat.lt_of_lt_of_le hB19.lt hlo291
      have hs296 := Below.size e289
      replace E := E.trans e289
      replace hB4 := hB4.ext e289
      replace hB11 := hB11.ext e289
      replace hB19 := hB19.ext e289
      refine Sq.nil ?_
      refine Eq.goes (fun _ => ⟨hB4, hB11⟩) ?_
      refine Gq.two 1 5 rfl rfl (by kernel_rfl) ?_ ?_
      · have hd305 := hB4.lt
        have hd306 := hB11.lt
        have hd307 := hB19.lt
        have hd308 := hB290.lt
        refine Sq.call fn32 .plain rfl rfl (tableOf_c _ a _ _ (hnx.ext E) (hac.ext E) hv) ?_
        rintro _ w298 ⟨⟨b300, xs301, rfl, hlo302, hT303, hTab304⟩, e299⟩
        have hs309 := Below.size E
        have hs310 := Below.size e299
        replace E := E.trans e299
        replace hB4 := hB4.ext e299
        replace hB11 := hB11.ext e299
        replace hB19 := hB19.ext e299
        replace hB290 := hB290.ext e299
        refine Sq.nil ?_
        refine Eq.goes (fun _ => ⟨hB4, hB11⟩) ?_
        refine Gq.two 3 5 rfl rfl (by kernel_rfl) ?_ ?_
        · have hd319 := hB4.lt
          have hd320 := hB11.lt
          have hd321 := hB19.lt
          have hd322 := hB290.lt
          have hd323 := hT303.lt
          refine Sq.call fn32 .plain rfl rfl (tableOf_c _ b _ _ (hnx'.ext E) (hac'.ext E) hv') ?_
          rintro _ w312 ⟨⟨b314, xs315, rfl, hlo316, hT317, hTab318⟩, e313⟩
          have hs324 := Below.size E
          have hs325 := Below.size e313
          replace E := E.trans e313
          replace hB4 := hB4.ext e313
          replace hB11 := hB11.ext e313
          replace hB19 := hB19.ext e313
          replace hB290 := hB290.ext e313
          replace hT303 := hT303.ext e313
          refine Sq.nil ?_
          refine Eq.goes (fun _ => ⟨hB4, hB11⟩) ?_
          refine Gq.one 5 rfl (by kernel_rfl) ?_
          refine Sq.alloc1 zero54 rfl .plain rfl (fun b326 w327 e328 hB329 hlo330 => ?_)
          have hd331 := Nat.le_trans (Below.size E) hlo330
          have hd332 := Nat.lt_of_lt_of_le hB4.lt hlo330
          have hd333 := Nat.lt_of_lt_of_le hB11.lt hlo330
          have hd334 := Nat.lt_of_lt_of_le hB19.lt hlo330
          have hd335 := Nat.lt_of_lt_of_le hB290.lt hlo330
          have hd336 := Nat.lt_of_lt_of_le hT303.lt hlo330
          have hd337 := Nat.lt_of_lt_of_le hT317.lt hlo330
          have hs338 := Below.size e328
          replace E := E.trans e328
          replace hB4 := hB4.ext e328
          replace hB11 := hB11.ext e328
          replace hB19 := hB19.ext e328
          replace hB290 := hB290.ext e328
          replace hT303 := hT303.ext e328
          replace hT317 := hT317.ext e328
          refine Sq.nil ?_
          refine Eq.goes (fun _ => ⟨hB4, hB11⟩) ?_
          refine Gq.one 6 rfl (by kernel_rfl) ?_
          refine Sq.store one54 .plain rfl rfl rfl hB290 (by simp) (fun w339 g340 hB341 => ?_)
          have hs342 := World.grownBy.size g340
          replace E := E.grown g340 (fun k hk => by injection hk with hk; subst hk; omega)
          replace hB4 := hB4.grown g340 (by intro h; injection h with h; omega)
          replace hB11 := hB11.grown g340 (by intro h; injection h with h; omega)
          replace hB19 := hB19.grown g340 (by intro h; injection h with h; omega)
          replace hT303 := hT303.grown g340 (by intro h; injection h with h; omega)
          replace hT317 := hT317.grown g340 (by intro h; injection h with h; omega)
          replace hB329 := hB329.grown g340 (by intro h; injection h with h; omega)
          replace hB290 := hB341
          refine Sq.nil ?_
          refine Eq.goes (fun _ => ⟨hB4, hB11⟩) ?_
          refine Gq.one 7 rfl (by kernel_rfl) ?_
          refine Sq.store one54 .plain rfl rfl rfl hB329 (by simp) (fun w343 g344 hB345 => ?_)
          have hs346 := World.grownBy.size g344
          replace E := E.grown g344 (fun k hk => by injection hk with hk; subst hk; omega)
          replace hB4 := hB4.grown g344 (by intro h; injection h with h; omega)
          replace hB11 := hB11.grown g344 (by intro h; injection h with h; omega)
          replace hB19 := hB19.grown g344 (by intro h; injection h with h; omega)
          replace hB290 := hB290.grown g344 (by intro h; injection h with h; omega)
          replace hT303 := hT303.grown g344 (by intro h; injection h with h; omega)
          replace hT317 := hT317.grown g344 (by intro h; injection h with h; omega)
          replace hB329 := hB345
          refine Sq.nil ?_
          refine Eq.goes (fun h => absurd h (by decide)) ?_
          refine Gq.done (by kernel_rfl) ?_
          refine Eq.left _ ⟨b287, b326, _, _, _, _, rfl, hB290, hB329, hT303, hT317, hTab304, hTab318, by omega, E, hB4, hB11, hB19⟩ (.cons rfl (.cons rfl (.cons rfl (.cons rfl (.cons rfl (.cons rfl (.cons rfl (.nil))))))))
        refine Sq.alloc1 zero54 rfl .plain rfl (fun b347 w348 e349 hB350 hlo351 => ?_)
        have hd352 := Nat.le_trans (Below.size E) hlo351
        have hd353 := Nat.lt_of_lt_of_le hB4.lt hlo351
        have hd354 := Nat.lt_of_lt_of_le hB11.lt hlo351
        have hd355 := Nat.lt_of_lt_of_le hB19.lt hlo351
        have hd356 := Nat.lt_of_lt_of_le hB290.lt hlo351
        have hd357 := Nat.lt_of_lt_of_le hT303.lt hlo351
        have hs358 := Below.size e349
        replace E := E.trans e349
        replace hB4 := hB4.ext e349
        replace hB11 := hB11.ext e349
        replace hB19 := hB19.ext e349
        replace hB290 := hB290.ext e349
        replace hT303 := hT303.ext e349
        refine Sq.nil ?_
        refine Eq.goes (fun _ => ⟨hB4, hB11⟩) ?_
        refine Gq.one 3 rfl (by kernel_rfl) ?_
        have hd367 := hB4.lt
        have hd368 := hB11.lt
        have hd369 := hB19.lt
        have hd370 := hB290.lt
        have hd371 := hT303.lt
        have hd372 := hB350.lt
        refine Sq.call fn32 .plain rfl rfl (tableOf_c _ b _ _ (hnx'.ext E) (hac'.ext E) hv') ?_
        rintro _ w360 ⟨⟨b362, xs363, rfl, hlo364, hT365, hTab366⟩, e361⟩
        have hs373 := Below.size E
        have hs374 := Below.size e361
        replace E := E.trans e361
        replace hB4 := hB4.ext e361
        replace hB11 := hB11.ext e361
        replace hB19 := hB19.ext e361
        replace hB290 := hB290.ext e361
        replace hT303 := hT303.ext e361
        replace hB350 := hB350.ext e361
        refine Sq.nil ?_
        refine Eq.goes (fun _ => ⟨hB4, hB11⟩) ?_
        refine Gq.one 6 rfl (by kernel_rfl) ?_
        refine Sq.store one54 .plain rfl rfl rfl hB290 (by simp) (fun w375 g376 hB377 => ?_)
        have hs378 := World.grownBy.size g376
        replace E := E.grown g376 (fun k hk => by injection hk with hk; subst hk; omega)
        replace hB4 := hB4.grown g376 (by intro h; injection h with h; omega)
        replace hB11 := hB11.grown g376 (by intro h; injection h with h; omega)
        replace hB19 := hB19.grown g376 (by intro h; injection h with h; omega)
        replace hT303 := hT303.grown g376 (by intro h; injection h with h; omega)
        replace hB350 := hB350.grown g376 (by intro h; injection h with h; omega)
        replace hT365 := hT365.grown g376 (by intro h; injection h with h; omega)
        replace hB290 := hB377
        refine Sq.nil ?_
        refine Eq.goes (fun _ => ⟨hB4, hB11⟩) ?_
        refine Gq.one 7 rfl (by kernel_rfl) ?_
        refine Sq.store one54 .plain rfl rfl rfl hB350 (by simp) (fun w379 g380 hB381 => ?_)
        have hs382 := World.grownBy.size g380
        replace E := E.grown g380 (fun k hk => by injection hk with hk; subst hk; omega)
        replace hB4 := hB4.grown g380 (by intro h; injection h with h; omega)
        replace hB11 := hB11.grown g380 (by intro h; injection h with h; omega)
        replace hB19 := hB19.grown g380 (by intro h; injection h with h; omega)
        replace hB290 := hB290.grown g380 (by intro h; injection h with h; omega)
        replace hT303 := hT303.grown g380 (by intro h; injection h with h; omega)
        replace hT365 := hT365.grown g380 (by intro h; injection h with h; omega)
        replace hB350 := hB381
        refine Sq.nil ?_
        refine Eq.goes (fun h => absurd h (by decide)) ?_
        refine Gq.done (by kernel_rfl) ?_
        refine Eq.left _ ⟨b287, b347, _, _, _, _, rfl, hB290, hB350, hT303, hT365, hTab304, hTab366, by omega, E, hB4, hB11, hB19⟩ (.cons rfl (.cons rfl (.cons rfl (.cons rfl (.cons rfl (.cons rfl (.cons rfl (.nil))))))))
      refine Sq.alloc1 zero54 rfl .plain rfl (fun b383 w384 e385 hB386 hlo387 => ?_)
      have hd388 := Nat.le_trans (Below.size E) hlo387
      have hd389 := Nat.lt_of_lt_of_le hB4.lt hlo387
      have hd390 := Nat.lt_of_lt_of_le hB11.lt hlo387
      have hd391 := Nat.lt_of_lt_of_le hB19.lt hlo387
      have hd392 := Nat.lt_of_lt_of_le hB290.lt hlo387
      have hs393 := Below.size e385
      replace E := E.trans e385
      replace hB4 := hB4.ext e385
      replace hB11 := hB11.ext e385
      replace hB19 := hB19.ext e385
      replace hB290 := hB290.ext e385
      refine Sq.nil ?_
      refine Eq.goes (fun _ => ⟨hB4, hB11⟩) ?_
      refine Gq.one 1 rfl (by kernel_rfl) ?_
      have hd402 := hB4.lt
      have hd403 := hB11.lt
      have hd404 := hB19.lt
      have hd405 := hB290.lt
      have hd406 := hB386.lt
      refine Sq.call fn32 .plain rfl rfl (tableOf_c _ a _ _ (hnx.ext E) (hac.ext E) hv) ?_
      rintro _ w395 ⟨⟨b397, xs398, rfl, hlo399, hT400, hTab401⟩, e396⟩
      have hs407 := Below.size E
      have hs408 := Below.size e396
      replace E := E.trans e396
      replace hB4 := hB4.ext e396
      replace hB11 := hB11.ext e396
      replace hB19 := hB19.ext e396
      replace hB290 := hB290.ext e396
      replace hB386 := hB386.ext e396
      refine Sq.nil ?_
      refine Eq.goes (fun _ => ⟨hB4, hB11⟩) ?_
      refine Gq.one 3 rfl (by kernel_rfl) ?_
      have hd417 := hB4.lt
      have hd418 := hB11.lt
      have hd419 := hB19.lt
      have hd420 := hB290.lt
      have hd421 := hB386.lt
      have hd422 := hT400.lt
      refine Sq.call fn32 .plain rfl rfl (tableOf_c _ b _ _ (hnx'.ext E) (hac'.ext E) hv') ?_
      rintro _ w410 ⟨⟨b412, xs413, rfl, hlo414, hT415, hTab416⟩, e411⟩
      have hs423 := Below.size E
      have hs424 := Below.size e411
      replace E := E.trans e411
      replace hB4 := hB4.ext e411
      replace hB11 := hB11.ext e411
      replace hB19 := hB19.ext e411
      replace hB290 := hB290.ext e411
      replace hB386 := hB386.ext e411
      replace hT400 := hT400.ext e411
      refine Sq.nil ?_
      refine Eq.goes (fun _ => ⟨hB4, hB11⟩) ?_
      refine Gq.one 6 rfl (by kernel_rfl) ?_
      refine Sq.store one54 .plain rfl rfl rfl hB290 (by simp) (fun w425 g426 hB427 => ?_)
      have hs428 := World.grownBy.size g426
      replace E := E.grown g426 (fun k hk => by injection hk with hk; subst hk; omega)
      replace hB4 := hB4.grown g426 (by intro h; injection h with h; omega)
      replace hB11 := hB11.grown g426 (by intro h; injection h with h; omega)
      replace hB19 := hB19.grown g426 (by intro h; injection h with h; omega)
      replace hB386 := hB386.grown g426 (by intro h; injection h with h; omega)
      replace hT400 := hT400.grown g426 (by intro h; injection h with h; omega)
      replace hT415 := hT415.grown g426 (by intro h; injection h with h; omega)
      replace hB290 := hB427
      refine Sq.nil ?_
      refine Eq.goes (fun _ => ⟨hB4, hB11⟩) ?_
      refine Gq.one 7 rfl (by kernel_rfl) ?_
      refine Sq.store one54 .plain rfl rfl rfl hB386 (by simp) (fun w429 g430 hB431 => ?_)
      have hs432 := World.grownBy.size g430
      replace E := E.grown g430 (fun k hk => by injection hk with hk; subst hk; omega)
      replace hB4 := hB4.grown g430 (by intro h; injection h with h; omega)
      replace hB11 := hB11.grown g430 (by intro h; injection h with h; omega)
      replace hB19 := hB19.grown g430 (by intro h; injection h with h; omega)
      replace hB290 := hB290.grown g430 (by intro h; injection h with h; omega)
      replace hT400 := hT400.grown g430 (by intro h; injection h with h; omega)
      replace hT415 := hT415.grown g430 (by intro h; injection h with h; omega)
      replace hB386 := hB431
      refine Sq.nil ?_
      refine Eq.goes (fun h => absurd h (by decide)) ?_
      refine Gq.done (by kernel_rfl) ?_
      refine Eq.left _ ⟨b287, b383, _, _, _, _, rfl, hB290, hB386, hT400, hT415, hTab401, hTab416, by omega, E, hB4, hB11, hB19⟩ (.cons rfl (.cons rfl (.cons rfl (.cons rfl (.cons rfl (.cons rfl (.cons rfl (.nil))))))))
    refine Sq.alloc1 zero54 rfl .plain rfl (fun b433 w434 e435 hB436 hlo437 => ?_)
    have hd438 := Nat.le_trans (Below.size E) hlo437
    have hd439 := Nat.lt_of_lt_of_le hB4.lt hlo437
    have hd440 := Nat.lt_of_lt_of_le hB11.lt hlo437
    have hd441 := Nat.lt_of_lt_of_le hB19.lt hlo437
    have hs442 := Below.size e435
    replace E := E.trans e435
    replace hB4 := hB4.ext e435
    replace hB11 := hB11.ext e435
    replace hB19 := hB19.ext e435
    refine Sq.nil ?_
    refine Eq.goes (fun _ => ⟨hB4, hB11⟩) ?_
    refine Gq.two 1 4 rfl rfl (by kernel_rfl) ?_ ?_
    · have hd451 := hB4.lt
      have hd452 := hB11.lt
      have hd453 := hB19.lt
      have hd454 := hB436.lt
      refine Sq.call fn32 .plain rfl rfl (tableOf_c _ a _ _ (hnx.ext E) (hac.ext E) hv) ?_
      rintro _ w444 ⟨⟨b446, xs447, rfl, hlo448, hT449, hTab450⟩, e445⟩
      have hs455 := Below.size E
      have hs456 := Below.size e445
      replace E := E.trans e445
      replace hB4 := hB4.ext e445
      replace hB11 := hB11.ext e445
      replace hB19 := hB19.ext e445
      replace hB436 := hB436.ext e445
      refine Sq.nil ?_
      refine Eq.goes (fun _ => ⟨hB4, hB11⟩) ?_
      refine Gq.two 3 4 rfl rfl (by kernel_rfl) ?_ ?_
      · have hd465 := hB4.lt
        have hd466 := hB11.lt
        have hd467 := hB19.lt
        have hd468 := hB436.lt
        have hd469 := hT449.lt
        refine Sq.call fn32 .plain rfl rfl (tableOf_c _ b _ _ (hnx'.ext E) (hac'.ext E) hv') ?_
        rintro _ w458 ⟨⟨b460, xs461, rfl, hlo462, hT463, hTab464⟩, e459⟩
        have hs470 := Below.size E
        have hs471 := Below.size e459
        replace E := E.trans e459
        replace hB4 := hB4.ext e459
        replace hB11 := hB11.ext e459
        replace hB19 := hB19.ext e459
        replace hB436 := hB436.ext e459
        replace hT449 := hT449.ext e459
        refine Sq.nil ?_
        refine Eq.goes (fun _ => ⟨hB4, hB11⟩) ?_
        refine Gq.one 4 rfl (by kernel_rfl) ?_
        refine Sq.alloc1 zero54 rfl .plain rfl (fun b472 w473 e474 hB475 hlo476 => ?_)
        have hd477 := Nat.le_trans (Below.size E) hlo476
        have hd478 := Nat.lt_of_lt_of_le hB4.lt hlo476
        have hd479 := Nat.lt_of_lt_of_le hB11.lt hlo476
        have hd480 := Nat.lt_of_lt_of_le hB19.lt hlo476
        have hd481 := Nat.lt_of_lt_of_le hB436.lt hlo476
        have hd482 := Nat.lt_of_lt_of_le hT449.lt hlo476
        have hd483 := Nat.lt_of_lt_of_le hT463.lt hlo476
        have hs484 := Below.size e474
        replace E := E.trans e474
        replace hB4 := hB4.ext e474
        replace hB11 := hB11.ext e474
        replace hB19 := hB19.ext e474
        replace hB436 := hB436.ext e474
        replace hT449 := hT449.ext e474
        replace hT463 := hT463.ext e474
        refine Sq.nil ?_
        refine Eq.goes (fun _ => ⟨hB4, hB11⟩) ?_
        refine Gq.one 6 rfl (by kernel_rfl) ?_
        refine Sq.store one54 .plain rfl rfl rfl hB475 (by simp) (fun w485 g486 hB487 => ?_)
        have hs488 := World.grownBy.size g486
        replace E := E.grown g486 (fun k hk => by injection hk with hk; subst hk; omega)
        replace hB4 := hB4.grown g486 (by intro h; injection h with h; omega)
        replace hB11 := hB11.grown g486 (by intro h; injection h with h; omega)
        replace hB19 := hB19.grown g486 (by intro h; injection h with h; omega)
        replace hB436 := hB436.grown g486 (by intro h; injection h with h; omega)
        replace hT449 := hT449.grown g486 (by intro h; injection h with h; omega)
        replace hT463 := hT463.grown g486 (by intro h; injection h with h; omega)
        replace hB475 := hB487
        refine Sq.nil ?_
        refine Eq.goes (fun _ => ⟨hB4, hB11⟩) ?_
        refine Gq.one 7 rfl (by kernel_rfl) ?_
        refine Sq.store one54 .plain rfl rfl rfl hB436 (by simp) (fun w489 g490 hB491 => ?_)
        have hs492 := World.grownBy.size g490
        replace E := E.grown g490 (fun k hk => by injection hk with hk; subst hk; omega)
        replace hB4 := hB4.grown g490 (by intro h; injection h with h; omega)
        replace hB11 := hB11.grown g490 (by intro h; injection h with h; omega)
        replace hB19 := hB19.grown g490 (by intro h; injection h with h; omega)
        replace hT449 := hT449.grown g490 (by intro h; injection h with h; omega)
        replace hT463 := hT463.grown g490 (by intro h; injection h with h; omega)
        replace hB475 := hB475.grown g490 (by intro h; injection h with h; omega)
        replace hB436 := hB491
        refine Sq.nil ?_
        refine Eq.goes (fun h => absurd h (by decide)) ?_
        refine Gq.done (by kernel_rfl) ?_
        refine Eq.left _ ⟨b472, b433, _, _, _, _, rfl, hB475, hB436, hT449, hT463, hTab450, hTab464, by omega, E, hB4, hB11, hB19⟩ (.cons rfl (.cons rfl (.cons rfl (.cons rfl (.cons rfl (.cons rfl (.cons rfl (.nil))))))))
      refine Sq.alloc1 zero54 rfl .plain rfl (fun b493 w494 e495 hB496 hlo497 => ?_)
      have hd498 := Nat.le_trans (Below.size E) hlo497
      have hd499 := Nat.lt_of_lt_of_le hB4.lt hlo497
      have hd500 := Nat.lt_of_lt_of_le hB11.lt hlo497
      have hd501 := Nat.lt_of_lt_of_le hB19.lt hlo497
      have hd502 := Nat.lt_of_lt_of_le hB436.lt hlo497
      have hd503 := Nat.lt_of_lt_of_le hT449.lt hlo497
      have hs504 := Below.size e495
      replace E := E.trans e495
      replace hB4 := hB4.ext e495
      replace hB11 := hB11.ext e495
      replace hB19 := hB19.ext e495
      replace hB436 := hB436.ext e495
      replace hT449 := hT449.ext e495
      refine Sq.nil ?_
      refine Eq.goes (fun _ => ⟨hB4, hB11⟩) ?_
      refine Gq.one 3 rfl (by kernel_rfl) ?_
      have hd513 := hB4.lt
      have hd514 := hB11.lt
      have hd515 := hB19.lt
      have hd516 := hB436.lt
      have hd517 := hT449.lt
      have hd518 := hB496.lt
      refine Sq.call fn32 .plain rfl rfl (tableOf_c _ b _ _ (hnx'.ext E) (hac'.ext E) hv') ?_
      rintro _ w506 ⟨⟨b508, xs509, rfl, hlo510, hT511, hTab512⟩, e507⟩
      have hs519 := Below.size E
      have hs520 := Below.size e507
      replace E := E.trans e507
      replace hB4 := hB4.ext e507
      replace hB11 := hB11.ext e507
      replace hB19 := hB19.ext e507
      replace hB436 := hB436.ext e507
      replace hT449 := hT449.ext e507
      replace hB496 := hB496.ext e507
      refine Sq.nil ?_
      refine Eq.goes (fun _ => ⟨hB4, hB11⟩) ?_
      refine Gq.one 6 rfl (by kernel_rfl) ?_
      refine Sq.store one54 .plain rfl rfl rfl hB496 (by simp) (fun w521 g522 hB523 => ?_)
      have hs524 := World.grownBy.size g522
      replace E := E.grown g522 (fun k hk => by injection hk with hk; subst hk; omega)
      replace hB4 := hB4.grown g522 (by intro h; injection h with h; omega)
      replace hB11 := hB11.grown g522 (by intro h; injection h with h; omega)
      replace hB19 := hB19.grown g522 (by intro h; injection h with h; omega)
      replace hB436 := hB436.grown g522 (by intro h; injection h with h; omega)
      replace hT449 := hT449.grown g522 (by intro h; injection h with h; omega)
      replace hT511 := hT511.grown g522 (by intro h; injection h with h; omega)
      replace hB496 := hB523
      refine Sq.nil ?_
      refine Eq.goes (fun _ => ⟨hB4, hB11⟩) ?_
      refine Gq.one 7 rfl (by kernel_rfl) ?_
      refine Sq.store one54 .plain rfl rfl rfl hB436 (by simp) (fun w525 g526 hB527 => ?_)
      have hs528 := World.grownBy.size g526
      replace E := E.grown g526 (fun k hk => by injection hk with hk; subst hk; omega)
      replace hB4 := hB4.grown g526 (by intro h; injection h with h; omega)
      replace hB11 := hB11.grown g526 (by intro h; injection h with h; omega)
      replace hB19 := hB19.grown g526 (by intro h; injection h with h; omega)
      replace hT449 := hT449.grown g526 (by intro h; injection h with h; omega)
      replace hB496 := hB496.grown g526 (by intro h; injection h with h; omega)
      replace hT511 := hT511.grown g526 (by intro h; injection h with h; omega)
      replace hB436 := hB527
      refine Sq.nil ?_
      refine Eq.goes (fun h => absurd h (by decide)) ?_
      refine Gq.done (by kernel_rfl) ?_
      refine Eq.left _ ⟨b493, b433, _, _, _, _, rfl, hB496, hB436, hT449, hT511, hTab450, hTab512, by omega, E, hB4, hB11, hB19⟩ (.cons rfl (.cons rfl (.cons rfl (.cons rfl (.cons rfl (.cons rfl (.cons rfl (.nil))))))))
    refine Sq.alloc1 zero54 rfl .plain rfl (fun b529 w530 e531 hB532 hlo533 => ?_)
    have hd534 := Nat.le_trans (Below.size E) hlo533
    have hd535 := Nat.lt_of_lt_of_le hB4.lt hlo533
    have hd536 := Nat.lt_of_lt_of_le hB11.lt hlo533
    have hd537 := Nat.lt_of_lt_of_le hB19.lt hlo533
    have hd538 := Nat.lt_of_lt_of_le hB436.lt hlo533
    have hs539 := Below.size e531
    replace E := E.trans e531
    replace hB4 := hB4.ext e531
    replace hB11 := hB11.ext e531
    replace hB19 := hB19.ext e531
    replace hB436 := hB436.ext e531
    refine Sq.nil ?_
    refine Eq.goes (fun _ => ⟨hB4, hB11⟩) ?_
    refine Gq.one 1 rfl (by kernel_rfl) ?_
    have hd548 := hB4.lt
    have hd549 := hB11.lt
    have hd550 := hB19.lt
    have hd551 := hB436.lt
    have hd552 := hB532.lt
    refine Sq.call fn32 .plain rfl rfl (tableOf_c _ a _ _ (hnx.ext E) (hac.ext E) hv) ?_
    rintro _ w541 ⟨⟨b543, xs544, rfl, hlo545, hT546, hTab547⟩, e542⟩
    have hs553 := Below.size E
    have hs554 := Below.size e542
    replace E := E.trans e542
    replace hB4 := hB4.ext e542
    replace hB11 := hB11.ext e542
    replace hB19 := hB19.ext e542
    replace hB436 := hB436.ext e542
    replace hB532 := hB532.ext e542
    refine Sq.nil ?_
    refine Eq.goes (fun _ => ⟨hB4, hB11⟩) ?_
    refine Gq.one 3 rfl (by kernel_rfl) ?_
    have hd563 := hB4.lt
    have hd564 := hB11.lt
    have hd565 := hB19.lt
    have hd566 := hB436.lt
    have hd567 := hB532.lt
    have hd568 := hT546.lt
    refine Sq.call fn32 .plain rfl rfl (tableOf_c _ b _ _ (hnx'.ext E) (hac'.ext E) hv') ?_
    rintro _ w556 ⟨⟨b558, xs559, rfl, hlo560, hT561, hTab562⟩, e557⟩
    have hs569 := Below.size E
    have hs570 := Below.size e557
    replace E := E.trans e557
    replace hB4 := hB4.ext e557
    replace hB11 := hB11.ext e557
    replace hB19 := hB19.ext e557
    replace hB436 := hB436.ext e557
    replace hB532 := hB532.ext e557
    replace hT546 := hT546.ext e557
    refine Sq.nil ?_
    refine Eq.goes (fun _ => ⟨hB4, hB11⟩) ?_
    refine Gq.one 6 rfl (by kernel_rfl) ?_
    refine Sq.store one54 .plain rfl rfl rfl hB532 (by simp) (fun w571 g572 hB573 => ?_)
    have hs574 := World.grownBy.size g572
    replace E := E.grown g572 (fun k hk => by injection hk with hk; subst hk; omega)
    replace hB4 := hB4.grown g572 (by intro h; injection h with h; omega)
    replace hB11 := hB11.grown g572 (by intro h; injection h with h; omega)
    replace hB19 := hB19.grown g572 (by intro h; injection h with h; omega)
    replace hB436 := hB436.grown g572 (by intro h; injection h with h; omega)
    replace hT546 := hT546.grown g572 (by intro h; injection h with h; omega)
    replace hT561 := hT561.grown g572 (by intro h; injection h with h; omega)
    replace hB532 := hB573
    refine Sq.nil ?_
    refine Eq.goes (fun _ => ⟨hB4, hB11⟩) ?_
    refine Gq.one 7 rfl (by kernel_rfl) ?_
    refine Sq.store one54 .plain rfl rfl rfl hB436 (by simp) (fun w575 g576 hB577 => ?_)
    have hs578 := World.grownBy.size g576
    replace E := E.grown g576 (fun k hk => by injection hk with hk; subst hk; omega)
    replace hB4 := hB4.grown g576 (by intro h; injection h with h; omega)
    replace hB11 := hB11.grown g576 (by intro h; injection h with h; omega)
    replace hB19 := hB19.grown g576 (by intro h; injection h with h; omega)
    replace hB532 := hB532.grown g576 (by intro h; injection h with h; omega)
    replace hT546 := hT546.grown g576 (by intro h; injection h with h; omega)
    replace hT561 := hT561.grown g576 (by intro h; injection h with h; omega)
    replace hB436 := hB577
    refine Sq.nil ?_
    refine Eq.goes (fun h => absurd h (by decide)) ?_
    refine Gq.done (by kernel_rfl) ?_
    refine Eq.left _ ⟨b529, b433, _, _, _, _, rfl, hB532, hB436, hT546, hT561, hTab547, hTab562, by omega, E, hB4, hB11, hB19⟩ (.cons rfl (.cons rfl (.cons rfl (.cons rfl (.cons rfl (.cons rfl (.cons rfl (.nil))))))))
  rintro ls wc1 ⟨c8, c9, t1, t2, xs, ys0, rfl, hP1, hP2, hT1, hT2, hTab, hTab', hbb, E, hB4, hB11, hB19⟩
  have hs579 := Below.size E
  refine Eq.next ?_
  refine Cq.seq ?_
  refine Cq.region ?_
  refine Sq.loadB one54 .plain rfl rfl hP2 rfl ?_
  refine Sq.len .plain rfl und54 rfl ?_
  refine Sq.alloc1 zero3 rfl .plain rfl (fun b580 w581 e582 hB583 hlo584 => ?_)
  have hd585 := Nat.le_trans (Below.size E) hlo584
  have hd586 := Nat.lt_of_lt_of_le hB4.lt hlo584
  have hd587 := Nat.lt_of_lt_of_le hB11.lt hlo584
  have hd588 := Nat.lt_of_lt_of_le hB19.lt hlo584
  have hd589 := Nat.lt_of_lt_of_le hP1.lt hlo584
  have hd590 := Nat.lt_of_lt_of_le hP2.lt hlo584
  have hd591 := Nat.lt_of_lt_of_le hT1.lt hlo584
  have hd592 := Nat.lt_of_lt_of_le hT2.lt hlo584
  have hs593 := Below.size e582
  replace E := E.trans e582
  replace hB4 := hB4.ext e582
  replace hB11 := hB11.ext e582
  replace hB19 := hB19.ext e582
  replace hP1 := hP1.ext e582
  replace hP2 := hP2.ext e582
  replace hT1 := hT1.ext e582
  replace hT2 := hT2.ext e582
  refine Sq.store one3 .plain rfl rfl rfl hB583 (by simp) (fun w594 g595 hB596 => ?_)
  have hs597 := World.grownBy.size g595
  replace E := E.grown g595 (fun k hk => by injection hk with hk; subst hk; omega)
  replace hB4 := hB4.grown g595 (by intro h; injection h with h; omega)
  replace hB11 := hB11.grown g595 (by intro h; injection h with h; omega)
  replace hB19 := hB19.grown g595 (by intro h; injection h with h; omega)
  replace hP1 := hP1.grown g595 (by intro h; injection h with h; omega)
  replace hP2 := hP2.grown g595 (by intro h; injection h with h; omega)
  replace hT1 := hT1.grown g595 (by intro h; injection h with h; omega)
  replace hT2 := hT2.grown g595 (by intro h; injection h with h; omega)
  replace hB583 := hB596
  refine Sq.nil ?_
  refine Eq.next ?_
  refine Cq.seq ?_
  refine Cq.region ?_
  refine Sq.makeFunc .plain rfl rfl ?_
  refine Sq.assign .plain rfl rfl ?_
  refine Sq.nil ?_
  refine Eq.next ?_
  refine Cq.seq ?_
  refine Cq.drawS 18 (fun w' => Blk w' c8 54 [Value.slice (some ⟨t1, 0, none⟩) a.next.length a.next.length] ∧ Blk w' c9 54 [Value.slice (some ⟨t2, 0, none⟩) b.next.length b.next.length] ∧ Blk w' t1 56 (xs.map (Value.int .i64)) ∧ Blk w' t2 56 (ys0.map (Value.int .i64)) ∧ Blk w' b580 3 [Value.int .i64 (List.length b.next : Int)] ∧ Blk w' b1 26 [Value.int .i64 a.al, nx, ac] ∧ Blk w' b8 26 [Value.int .i64 b.al, nx', ac'] ∧ Blk w' b16 43 [gv] ∧ Ext w0 w') mixed (⟨hP1, hP2, hT1, hT2, hB583, hB4, hB11, hB19, E⟩) (fun w598 e599 hS => ?_)
  clear hS
  have hs600 := Below.size e599
  replace E := E.trans e599
  replace hB4 := hB4.ext e599
  replace hB11 := hB11.ext e599
  replace hB19 := hB19.ext e599
  replace hP1 := hP1.ext e599
  replace hP2 := hP2.ext e599
  replace hT1 := hT1.ext e599
  replace hT2 := hT2.ext e599
  replace hB583 := hB583.ext e599
  refine Gq.st 0 rfl (by kernel_rfl) rfl .plain rfl (fun _ _ _ h => h) ⟨hP1, hP2, hT1, hT2, hB583, hB4, hB11, hB19, E⟩ (fun w' x => Still.loadB one54 rfl x.1 rfl) ?_
  refine Gq.st 1 rfl (by kernel_rfl) rfl .plain rfl (fun _ _ _ h => h) ⟨hP1, hP2, hT1, hT2, hB583, hB4, hB11, hB19, E⟩ (fun w' x => Still.len und54 rfl) ?_
  refine Gq.st 2 rfl (by kernel_rfl) rfl .plain rfl (fun _ _ _ h => h) ⟨hP1, hP2, hT1, hT2, hB583, hB4, hB11, hB19, E⟩ (fun w' x => Still.loadB one3 rfl x.2.2.2.2.1 rfl) ?_
  refine Gq.st 3 rfl (by kernel_rfl) rfl .plain rfl (fun _ _ _ h => h) ⟨hP1, hP2, hT1, hT2, hB583, hB4, hB11, hB19, E⟩ (fun w' x => Still.mul rfl rfl (by omega)) ?_
  refine Gq.st 4 rfl (by kernel_rfl) rfl .plain rfl (fun _ _ _ h => h) ⟨hP1, hP2, hT1, hT2, hB583, hB4, hB11, hB19, E⟩ (fun w' x => Still.move rfl) ?_
  refine Gq.st 5 rfl (by kernel_rfl) rfl .plain rfl (fun _ _ _ h => h) ⟨hP1, hP2, hT1, hT2, hB583, hB4, hB11, hB19, E⟩ (fun w' x => Still.loadB one3 rfl x.2.2.2.2.1 rfl) ?_
  refine Gq.st 6 rfl (by kernel_rfl) rfl .plain rfl (fun _ _ _ h => h) ⟨hP1, hP2, hT1, hT2, hB583, hB4, hB11, hB19, E⟩ (fun w' x => Still.mul rfl rfl (by omega)) ?_
  refine Gq.st 7 rfl (by kernel_rfl) rfl .plain rfl (fun _ _ _ h => h) ⟨hP1, hP2, hT1, hT2, hB583, hB4, hB11, hB19, E⟩ (fun w' x => Still.move rfl) ?_
  refine Gq.st 8 rfl (by kernel_rfl) rfl .plain rfl (fun _ _ _ h => h) ⟨hP1, hP2, hT1, hT2, hB583, hB4, hB11, hB19, E⟩ (fun w' x => Still.add rfl rfl (by omega)) ?_
  refine Gq.st 10 rfl (by kernel_rfl) rfl .plain rfl (fun _ _ _ h => h) ⟨hP1, hP2, hT1, hT2, hB583, hB4, hB11, hB19, E⟩ (fun w' x => Still.fieldAddr fld26_0 rfl) ?_
  refine Gq.st 11 rfl (by kernel_rfl) rfl .plain rfl (fun _ _ _ h => h) ⟨hP1, hP2, hT1, hT2, hB583, hB4, hB11, hB19, E⟩ (fun w' x => Still.loadB one3 rfl x.2.2.2.2.2.1 rfl) ?_
  refine Gq.st 13 rfl (by kernel_rfl) rfl .plain rfl (fun _ _ _ h => h) ⟨hP1, hP2, hT1, hT2, hB583, hB4, hB11, hB19, E⟩ (fun w' x => Still.move rfl) ?_
  refine Gq.st 14 rfl (by kernel_rfl) rfl .plain rfl (fun _ _ _ h => h) ⟨hP1, hP2, hT1, hT2, hB583, hB4, hB11, hB19, E⟩ (fun w' x => Still.makeFunc rfl) ?_
  refine Gq.two 9 12 rfl rfl (by kernel_rfl) ?_ ?_
  · refine Sq.lit sl28 rfl rfl .plain rfl rfl (one_cons rfl one_nil) (fun b601 w602 e603 hlo604 ho605 _ => ?_)
    replace ho605 := ho605 w598.heap.size (Nat.le_refl _)
    have hs607 := Below.size e603
    replace E := E.trans e603
    replace hB4 := hB4.ext e603
    replace hB11 := hB11.ext e603
    replace hB19 := hB19.ext e603
    replace hP1 := hP1.ext e603
    replace hP2 := hP2.ext e603
    replace hT1 := hT1.ext e603
    replace hT2 := hT2.ext e603
    replace hB583 := hB583.ext e603
    refine Sq.nil ?_
    refine Eq.goes (fun _ => ⟨hP1, hP2, hT1, hT2, hB583, hB4, hB11, hB19, E⟩) ?_
    refine Gq.one 12 rfl (by kernel_rfl) ?_
    have hd612 := hB4.lt
    have hd613 := hB11.lt
    have hd614 := hB19.lt
    have hd615 := hP1.lt
    have hd616 := hP2.lt
    have hd617 := hT1.lt
    have hd618 := hT2.lt
    have hd619 := hB583.lt
    refine Sq.call fn18 .plain rfl rfl (lettersOf_c a.al (by omega) _) ?_
    rintro v608 w609 ⟨hl611, e610⟩
    have hs620 := Below.size E
    have hs621 := Below.size e610
    replace E := E.trans e610
    replace hB4 := hB4.ext e610
    replace hB11 := hB11.ext e610
    replace hB19 := hB19.ext e610
    replace hP1 := hP1.ext e610
    replace hP2 := hP2.ext e610
    replace hT1 := hT1.ext e610
    replace hT2 := hT2.ext e610
    replace hB583 := hB583.ext e610
    replace ho605 := ho605.ext e610
    refine Sq.nil ?_
    refine Eq.goes (fun _ => ⟨hP1, hP2, hT1, hT2, hB583, hB4, hB11, hB19, E⟩) ?_
    refine Gq.one 15 rfl (by kernel_rfl) ?_
    have hd624 := hB4.lt
    have hd625 := hB11.lt
    have hd626 := hB19.lt
    have hd627 := hP1.lt
    have hd628 := hP2.lt
    have hd629 := hT1.lt
    have hd630 := hT2.lt
    have hd631 := hB583.lt
    have hlet := letters_len6 a.al
    refine Sq.call fn34 .plain rfl rfl (firstPath_c _ ((List.length a.next : Int) * (List.length b.next : Int)) (a.next.length * b.next.length) (i0 * (List.length b.next : Int) + j0) (letters a.al) _ _ _ _ (fP a b) (fun q => g (accA a (q / (List.length b.next : Int))) (accA b (q % (List.length b.next : Int)))) (fun q => InP a b q) (Int.natCast_mul _ _).symm (Own.row ho605) (Own.row hl611) (by omega) (fun x hx => ⟨(mem_letters hx).1, (mem_letters hx).2.1⟩) (inP_enc (p := (i0, j0)) hp) (fun q hq x hx => fP_in hv hv' hq ⟨(mem_letters hx).1, (mem_letters hx).2.1⟩) (fun q hq => hq) (by omega) ⟨33, _, [Value.pointer (some ⟨c8, 0, none⟩), Value.pointer (some ⟨b580, 0, none⟩), Value.pointer (some ⟨c9, 0, none⟩)], rfl, fn33, fun w q y0 hx hq hxx => fb1_c w q y0 a b _ _ _ _ _ _ _ (hP1.ext hx) (hB583.ext hx) (hP2.ext hx) (hT1.ext hx) (hT2.ext hx) hTab hTab' hv hv' hq hxx⟩ ⟨35, _, [Value.pointer (some ⟨b16, 0, none⟩), Value.pointer (some ⟨b1, 0, none⟩), Value.pointer (some ⟨b580, 0, none⟩), Value.pointer (some ⟨b8, 0, none⟩)], rfl, fn35, fun w q hx hq => fb2_c w q a b _ _ _ _ _ g _ _ _ _ (hB19.ext hx) (hB4.ext hx) (hB583.ext hx) (hB11.ext hx) ((hac.ext E).ext hx) ((hac'.ext E).ext hx) ((BClo.up hgo E).up hx) hv hv' hq⟩) ?_
    rintro _ w622 ⟨rfl, e623⟩
    have hs632 := Below.size E
    have hs633 := Below.size e623
    replace E := E.trans e623
    replace hB4 := hB4.ext e623
    replace hB11 := hB11.ext e623
    replace hB19 := hB19.ext e623
    replace hP1 := hP1.ext e623
    replace hP2 := hP2.ext e623
    replace hT1 := hT1.ext e623
    replace hT2 := hT2.ext e623
    replace hB583 := hB583.ext e623
    refine Sq.nil ?_
    refine Eq.goes (fun _ => ⟨hP1, hP2, hT1, hT2, hB583, hB4, hB11, hB19, E⟩) ?_
    refine Gq.st 16 rfl (by kernel_rfl) rfl .plain rfl (fun _ _ _ h => h) ⟨hP1, hP2, hT1, hT2, hB583, hB4, hB11, hB19, E⟩ (fun w' x => Still.extract rfl rfl) ?_
    refine Gq.st 17 rfl (by kernel_rfl) rfl .plain rfl (fun _ _ _ h => h) ⟨hP1, hP2, hT1, hT2, hB583, hB4, hB11, hB19, E⟩ (fun w' x => Still.extract rfl rfl) ?_
    refine Gq.one 18 rfl (by kernel_rfl) ?_
    refine Sq.assign .plain rfl rfl ?_
    refine Sq.nil ?_
    refine Eq.goes (fun h => absurd h (by decide)) ?_
    refine Gq.one 19 rfl (by kernel_rfl) ?_
    refine Sq.assign .plain rfl rfl ?_
    refine Sq.nil ?_
    refine Eq.goes (fun h => absurd h (by decide)) ?_
    refine Gq.done (by kernel_rfl) ?_
    refine Eq.next ?_
    refine Cq.ret ?_
    refine Eq.ret2 rfl rfl rfl ?_
    rw [← firstAB_enc hv hv' hp]
    exact ⟨rfl, E⟩
  have hd638 := hB4.lt
  have hd639 := hB11.lt
  have hd640 := hB19.lt
  have hd641 := hP1.lt
  have hd642 := hP2.lt
  have hd643 := hT1.lt
  have hd644 := hT2.lt
  have hd645 := hB583.lt
  refine Sq.call fn18 .plain rfl rfl (lettersOf_c a.al (by omega) _) ?_
  rintro v634 w635 ⟨hl637, e636⟩
  have hs646 := Below.size E
  have hs647 := Below.size e636
  replace E := E.trans e636
  replace hB4 := hB4.ext e636
  replace hB11 := hB11.ext e636
  replace hB19 := hB19.ext e636
  replace hP1 := hP1.ext e636
  replace hP2 := hP2.ext e636
  replace hT1 := hT1.ext e636
  replace hT2 := hT2.ext e636
  replace hB583 := hB583.ext e636
  refine Sq.nil ?_
  refine Eq.goes (fun _ => ⟨hP1, hP2, hT1, hT2, hB583, hB4, hB11, hB19, E⟩) ?_
  refine Gq.one 9 rfl (by kernel_rfl) ?_
  refine Sq.lit sl28 rfl rfl .plain rfl rfl (one_cons rfl one_nil) (fun b648 w649 e650 hlo651 ho652 _ => ?_)
  replace ho652 := ho652 w635.heap.size (Nat.le_refl _)
  have hs654 := Below.size e650
  replace E := E.trans e650
  replace hB4 := hB4.ext e650
  replace hB11 := hB11.ext e650
  replace hB19 := hB19.ext e650
  replace hP1 := hP1.ext e650
  replace hP2 := hP2.ext e650
  replace hT1 := hT1.ext e650
  replace hT2 := hT2.ext e650
  replace hB583 := hB583.ext e650
  replace hl637 := hl637.ext e650
  refine Sq.nil ?_
  refine Eq.goes (fun _ => ⟨hP1, hP2, hT1, hT2, hB583, hB4, hB11, hB19, E⟩) ?_
  refine Gq.one 15 rfl (by kernel_rfl) ?_
  have hd657 := hB4.lt
  have hd658 := hB11.lt
  have hd659 := hB19.lt
  have hd660 := hP1.lt
  have hd661 := hP2.lt
  have hd662 := hT1.lt
  have hd663 := hT2.lt
  have hd664 := hB583.lt
  have hlet := letters_len6 a.al
  refine Sq.call fn34 .plain rfl rfl (firstPath_c _ ((List.length a.next : Int) * (List.length b.next : Int)) (a.next.length * b.next.length) (i0 * (List.length b.next : Int) + j0) (letters a.al) _ _ _ _ (fP a b) (fun q => g (accA a (q / (List.length b.next : Int))) (accA b (q % (List.length b.next : Int)))) (fun q => InP a b q) (Int.natCast_mul _ _).symm (Own.row ho652) (Own.row hl637) (by omega) (fun x hx => ⟨(mem_letters hx).1, (mem_letters hx).2.1⟩) (inP_enc (p := (i0, j0)) hp) (fun q hq x hx => fP_in hv hv' hq ⟨(mem_letters hx).1, (mem_letters hx).2.1⟩) (fun q hq => hq) (by omega) ⟨33, _, [Value.pointer (some ⟨c8, 0, none⟩), Value.pointer (some ⟨b580, 0, none⟩), Value.pointer (some ⟨c9, 0, none⟩)], rfl, fn33, fun w q y0 hx hq hxx => fb1_c w q y0 a b _ _ _ _ _ _ _ (hP1.ext hx) (hB583.ext hx) (hP2.ext hx) (hT1.ext hx) (hT2.ext hx) hTab hTab' hv hv' hq hxx⟩ ⟨35, _, [Value.pointer (some ⟨b16, 0, none⟩), Value.pointer (some ⟨b1, 0, none⟩), Value.pointer (some ⟨b580, 0, none⟩), Value.pointer (some ⟨b8, 0, none⟩)], rfl, fn35, fun w q hx hq => fb2_c w q a b _ _ _ _ _ g _ _ _ _ (hB19.ext hx) (hB4.ext hx) (hB583.ext hx) (hB11.ext hx) ((hac.ext E).ext hx) ((hac'.ext E).ext hx) ((BClo.up hgo E).up hx) hv hv' hq⟩) ?_
  rintro _ w655 ⟨rfl, e656⟩
  have hs665 := Below.size E
  have hs666 := Below.size e656
  replace E := E.trans e656
  replace hB4 := hB4.ext e656
  replace hB11 := hB11.ext e656
  replace hB19 := hB19.ext e656
  replace hP1 := hP1.ext e656
  replace hP2 := hP2.ext e656
  replace hT1 := hT1.ext e656
  replace hT2 := hT2.ext e656
  replace hB583 := hB583.ext e656
  refine Sq.nil ?_
  refine Eq.goes (fun _ => ⟨hP1, hP2, hT1, hT2, hB583, hB4, hB11, hB19, E⟩) ?_
  refine Gq.st 16 rfl (by kernel_rfl) rfl .plain rfl (fun _ _ _ h => h) ⟨hP1, hP2, hT1, hT2, hB583, hB4, hB11, hB19, E⟩ (fun w' x => Still.extract rfl rfl) ?_
  refine Gq.st 17 rfl (by kernel_rfl) rfl .plain rfl (fun _ _ _ h => h) ⟨hP1, hP2, hT1, hT2, hB583, hB4, hB11, hB19, E⟩ (fun w' x => Still.extract rfl rfl) ?_
  refine Gq.one 18 rfl (by kernel_rfl) ?_
  refine Sq.assign .plain rfl rfl ?_
  refine Sq.nil ?_
  refine Eq.goes (fun h => absurd h (by decide)) ?_
  refine Gq.one 19 rfl (by kernel_rfl) ?_
  refine Sq.assign .plain rfl rfl ?_
  refine Sq.nil ?_
  refine Eq.goes (fun h => absurd h (by decide)) ?_
  refine Gq.done (by kernel_rfl) ?_
  refine Eq.next ?_
  refine Cq.ret ?_
  refine Eq.ret2 rfl rfl rfl ?_
  rw [← firstAB_enc hv hv' hp]
  exact ⟨rfl, E⟩
end Go.Proofs.YtoboklelbbgcnaaDoor
set_option linter.unusedSimpArgs false
set_option linter.unusedVariables false
namespace Go.Proofs.YtoboklelbbgcnaaDoor
open Go.RowKit
set_option maxRecDepth 100000 in
theorem fSplit_c (w0 : World) (a : A) (nx ac : Value) (hnx : Rows w0 28 3 nx a.next) (hac : Bools w0 4 ac a.acc) (i j : Int) : Ret Tryd.prog 11 #[Value.agg #[Value.int .i64 a.al, nx, ac], Value.int .i64 i, Value.int .i64 j] w0 (fun v w => v = resW (fSplit a i j) ∧ Ext w0 w) := by
  have E := Ext.refl w0
  refine Ret.of (args := [Value.agg #[Value.int .i64 a.al, nx, ac], Value.int .i64 i, Value.int .i64 j]) Tryd.func11 rfl rfl rfl ?_
  rintro _ rfl
  show Cq _ _ _ _ [(0, Value.agg #[Value.int .i64 a.al, nx, ac]), (1, Value.int .i64 i), (2, Value.int .i64 j)] _
  refine Cq.seq ?_
  refine Cq.region ?_
  refine Sq.box .plain rfl rfl (fun b1 w2 e3 hB4 hlo5 => ?_)
  have hd6 := Nat.le_trans (Below.size E) hlo5
  have hs7 := Below.size e3
  replace E := E.trans e3
  refine Sq.assign .plain rfl rfl ?_
  refine Sq.assign .plain rfl rfl ?_
  refine Sq.nil ?_
  refine Eq.next ?_
  refine Cq.seq ?_
  refine Cq.region ?_
  refine Sq.fieldAddr fld26_1 .plain rfl rfl ?_
  refine Sq.loadB one23 .plain rfl rfl hB4 rfl ?_
  refine Sq.lenRows (hnx.ext E) .plain rfl und23 rfl ?_
  refine Sq.assign .plain rfl rfl ?_
  refine Sq.nil ?_
  refine Eq.next ?_
  refine Cq.seq ?_
  refine Cq.seq ?_
  refine Cq.region ?_
  refine Sq.loadAgg agg26 .plain rfl rfl hB4 rfl ?_
  have hd11 := hB4.lt
  refine Sq.call fn10 .plain rfl rfl (valid_c _ a _ _ (hnx.ext E) (hac.ext E)) ?_
  rintro _ w9 ⟨rfl, e10⟩
  have hs12 := Below.size E
  have hs13 := Below.size e10
  replace E := E.trans e10
  replace hB4 := hB4.ext e10
  refine Sq.partB (fun hv => ?_) (fun hv => ?_)
  · refine Sq.notT .plain rfl rfl ?_
    refine Sq.move .plain rfl rfl ?_
    refine Sq.move (.met rfl rfl rfl) rfl rfl ?_
    refine Sq.lss (.met rfl rfl rfl) rfl rfl rfl ?_
    refine Sq.part (fun hi0 => ?_) (fun hi0 => ?_)
    · refine Sq.pickF .plain rfl rfl rfl ?_
      refine Sq.move .plain rfl rfl ?_
      refine Sq.off rfl rfl rfl rfl rfl rfl ?_
      refine Sq.off rfl rfl rfl rfl rfl rfl ?_
      refine Sq.off rfl rfl rfl rfl rfl rfl ?_
      refine Sq.pickT .plain rfl rfl rfl ?_
      refine Sq.move .plain rfl rfl ?_
      refine Sq.off rfl rfl rfl rfl rfl rfl ?_
      refine Sq.off rfl rfl rfl rfl rfl rfl ?_
      refine Sq.pickT .plain rfl rfl rfl ?_
      refine Sq.move .plain rfl rfl ?_
      refine Sq.off rfl rfl rfl rfl rfl rfl ?_
      refine Sq.off rfl rfl rfl rfl rfl rfl ?_
      refine Sq.off rfl rfl rfl rfl rfl rfl ?_
      refine Sq.pickT .plain rfl rfl rfl ?_
      refine Sq.nil ?_
      refine Eq.next ?_
      refine Cq.thn rfl ?_
      refine Cq.seq ?_
      refine Cq.region ?_
      refine Sq.assign .plain rfl rfl ?_
      refine Sq.assign .plain rfl rfl ?_
      refine Sq.nil ?_
      refine Eq.next ?_
      refine Cq.ret ?_
      refine Eq.pastRet ?_
      refine Eq.ret2 rfl rfl rfl ?_
      have hC : ¬ (validA a && (inA a i && inA a j)) = true := by simp [inA, hv] <;> omega
      exact ⟨by rw [fSplit, if_neg hC]; rfl, E⟩
    refine Sq.pickF .plain rfl rfl rfl ?_
    refine Sq.move .plain rfl rfl ?_
    refine Sq.move (.met rfl rfl rfl) rfl rfl ?_
    refine Sq.move (.met rfl rfl rfl) rfl rfl ?_
    refine Sq.geq (.met rfl rfl rfl) rfl rfl rfl ?_
    refine Sq.part (fun hi1 => ?_) (fun hi1 => ?_)
    · refine Sq.pickF .plain rfl rfl rfl ?_
      refine Sq.move .plain rfl rfl ?_
      refine Sq.off rfl rfl rfl rfl rfl rfl ?_
      refine Sq.off rfl rfl rfl rfl rfl rfl ?_
      refine Sq.pickT .plain rfl rfl rfl ?_
      refine Sq.move .plain rfl rfl ?_
      refine Sq.off rfl rfl rfl rfl rfl rfl ?_
      refine Sq.off rfl rfl rfl rfl rfl rfl ?_
      refine Sq.off rfl rfl rfl rfl rfl rfl ?_
      refine Sq.pickT .plain rfl rfl rfl ?_
      refine Sq.nil ?_
      refine Eq.next ?_
      refine Cq.thn rfl ?_
      refine Cq.seq ?_
      refine Cq.region ?_
      refine Sq.assign .plain rfl rfl ?_
      refine Sq.assign .plain rfl rfl ?_
      refine Sq.nil ?_
      refine Eq.next ?_
      refine Cq.ret ?_
      refine Eq.pastRet ?_
      refine Eq.ret2 rfl rfl rfl ?_
      have hC : ¬ (validA a && (inA a i && inA a j)) = true := by simp [inA, hv] <;> omega
      exact ⟨by rw [fSplit, if_neg hC]; rfl, E⟩
    refine Sq.pickF .plain rfl rfl rfl ?_
    refine Sq.move .plain rfl rfl ?_
    refine Sq.move (.met rfl rfl rfl) rfl rfl ?_
    refine Sq.lss (.met rfl rfl rfl) rfl rfl rfl ?_
    refine Sq.part (fun hj0 => ?_) (fun hj0 => ?_)
    · refine Sq.pickF .plain rfl rfl rfl ?_
      refine Sq.move .plain rfl rfl ?_
      refine Sq.off rfl rfl rfl rfl rfl rfl ?_
      refine Sq.off rfl rfl rfl rfl rfl rfl ?_
      refine Sq.off rfl rfl rfl rfl rfl rfl ?_
      refine Sq.pickT .plain rfl rfl rfl ?_
      refine Sq.nil ?_
      refine Eq.next ?_
      refine Cq.thn rfl ?_
      refine Cq.seq ?_
      refine Cq.region ?_
      refine Sq.assign .plain rfl rfl ?_
      refine Sq.assign .plain rfl rfl ?_
      refine Sq.nil ?_
      refine Eq.next ?_
      refine Cq.ret ?_
      refine Eq.pastRet ?_
      refine Eq.ret2 rfl rfl rfl ?_
      have hC : ¬ (validA a && (inA a i && inA a j)) = true := by simp [inA, hv] <;> omega
      exact ⟨by rw [fSplit, if_neg hC]; rfl, E⟩
    refine Sq.pickF .plain rfl rfl rfl ?_
    refine Sq.move .plain rfl rfl ?_
    refine Sq.move (.met rfl rfl rfl) rfl rfl ?_
    refine Sq.move (.met rfl rfl rfl) rfl rfl ?_
    refine Sq.geq (.met rfl rfl rfl) rfl rfl rfl ?_
    refine Sq.part (fun hj1 => ?_) (fun hj1 => ?_)
    · refine Sq.pickF .plain rfl rfl rfl ?_
      refine Sq.nil ?_
      refine Eq.next ?_
      refine Cq.thn rfl ?_
      refine Cq.seq ?_
      refine Cq.region ?_
      refine Sq.assign .plain rfl rfl ?_
      refine Sq.assign .plain rfl rfl ?_
      refine Sq.nil ?_
      refine Eq.next ?_
      refine Cq.ret ?_
      refine Eq.pastRet ?_
      refine Eq.ret2 rfl rfl rfl ?_
      have hC : ¬ (validA a && (inA a i && inA a j)) = true := by simp [inA, hv] <;> omega
      exact ⟨by rw [fSplit, if_neg hC]; rfl, E⟩
    refine Sq.pickF .plain rfl rfl rfl ?_
    refine Sq.nil ?_
    refine Eq.next ?_
    refine Cq.els rfl ?_
    refine Cq.skip ?_
    refine Eq.next ?_
    refine Cq.seq ?_
    refine Cq.region ?_
    refine Sq.loadAgg agg26 .plain rfl rfl hB4 rfl ?_
    refine Sq.loadAgg agg26 .plain rfl rfl hB4 rfl ?_
    refine Sq.move .plain rfl rfl ?_
    refine Sq.move .plain rfl rfl ?_
    have hd17 := hB4.lt
    refine Sq.call fn19 .plain rfl rfl (firstOfBoth_c _ a a _ _ _ _ (hnx.ext E) (hac.ext E) (hnx.ext E) (hac.ext E) _ (fun x y => x != y) ⟨20, _, [], rfl, fn20, fun w x y hx => (ss1_c w x y).mono fun v w' h => ⟨h.1, h.2 ▸ Ext.refl w⟩⟩ i j hv hv ⟨⟨by omega, by omega⟩, by omega, by omega⟩) ?_
    rintro _ w15 ⟨rfl, e16⟩
    have hs18 := Below.size E
    have hs19 := Below.size e16
    replace E := E.trans e16
    refine Sq.extract .plain rfl rfl rfl ?_
    refine Sq.extract .plain rfl rfl rfl ?_
    refine Sq.assign .plain rfl rfl ?_
    refine Sq.assign .plain rfl rfl ?_
    refine Sq.nil ?_
    refine Eq.next ?_
    refine Cq.ret ?_
    refine Eq.ret2 rfl rfl rfl ?_
    have hC : (validA a && (inA a i && inA a j)) = true := by simp [inA, hv]; omega
    exact ⟨by rw [fSplit, if_pos hC]; rfl, E⟩
  refine Sq.notF .plain rfl rfl ?_
  refine Sq.move .plain rfl rfl ?_
  refine Sq.off rfl rfl rfl rfl rfl rfl ?_
  refine Sq.off rfl rfl rfl rfl rfl rfl ?_
  refine Sq.pickT .plain rfl rfl rfl ?_
  refine Sq.move .plain rfl rfl ?_
  refine Sq.off rfl rfl rfl rfl rfl rfl ?_
  refine Sq.off rfl rfl rfl rfl rfl rfl ?_
  refine Sq.off rfl rfl rfl rfl rfl rfl ?_
  refine Sq.pickT .plain rfl rfl rfl ?_
  refine Sq.move .plain rfl rfl ?_
  refine Sq.off rfl rfl rfl rfl rfl rfl ?_
  refine Sq.off rfl rfl rfl rfl rfl rfl ?_
  refine Sq.pickT .plain rfl rfl rfl ?_
  refine Sq.move .plain rfl rfl ?_
  refine Sq.off rfl rfl rfl rfl rfl rfl ?_
  refine Sq.off rfl rfl rfl rfl rfl rfl ?_
  refine Sq.off rfl rfl rfl rfl rfl rfl ?_
  refine Sq.pickT .plain rfl rfl rfl ?_
  refine Sq.nil ?_
  refine Eq.next ?_
  refine Cq.thn rfl ?_
  refine Cq.seq ?_
  refine Cq.region ?_
  refine Sq.assign .plain rfl rfl ?_
  refine Sq.assign .plain rfl rfl ?_
  refine Sq.nil ?_
  refine Eq.next ?_
  refine Cq.ret ?_
  refine Eq.pastRet ?_
  refine Eq.ret2 rfl rfl rfl ?_
  have hC : ¬ (validA a && (inA a i && inA a j)) = true := by simp [inA, hv] <;> omega
  exact ⟨by rw [fSplit, if_neg hC]; rfl, E⟩
end Go.Proofs.YtoboklelbbgcnaaDoor
set_option linter.unusedSimpArgs false
set_option linter.unusedVariables false
namespace Go.Proofs.YtoboklelbbgcnaaDoor
open Go.RowKit
set_option maxRecDepth 100000 in
theorem lClasses (w0 : World) (e : TypeId) (a0 : Option Addr) (c0 : Nat) (cs : List UInt8) (hc : Bytes w0 e (.slice a0 cs.length c0) cs) (hcap : cs.length ≤ c0) : Ret Tryd.prog 3 #[Value.slice a0 cs.length c0] w0 (fun v w => v = .bool true ∧ Ext w0 w) := by
  have E := Ext.refl w0
  refine Ret.of (args := [Value.slice a0 cs.length c0]) Tryd.func3 rfl rfl rfl ?_
  rintro _ rfl
  show Cq _ _ _ _ [(0, Value.slice a0 cs.length c0)] _
  refine Cq.seq ?_
  refine Cq.region ?_
  refine Sq.assign .plain rfl rfl ?_
  refine Sq.nil ?_
  refine Eq.next ?_
  refine Cq.seq ?_
  refine Cq.seq ?_
  refine Cq.region ?_
  refine Sq.move .plain rfl rfl ?_
  refine Sq.lenBytes (hc.ext E) .plain rfl und22 rfl ?_
  refine Sq.gtr .plain rfl rfl rfl ?_
  refine Sq.part (fun c1 => ?_) (fun c1 => ?_)
  · refine Sq.nil ?_
    refine Eq.next ?_
    refine Cq.thn rfl ?_
    refine Cq.seq ?_
    refine Cq.region ?_
    refine Sq.assign .plain rfl rfl ?_
    refine Sq.nil ?_
    refine Eq.next ?_
    refine Cq.ret ?_
    refine Eq.pastRet ?_
    refine Eq.ret1 rfl rfl ?_
    exact ⟨rfl, E⟩
  refine Sq.nil ?_
  refine Eq.next ?_
  refine Cq.els rfl ?_
  refine Cq.skip ?_
  refine Eq.next ?_
  refine Cq.seq ?_
  refine Cq.region ?_
  refine Sq.move .plain rfl rfl ?_
  refine Sq.call fn6 .plain rfl rfl (drawClasses_c _ _ _ _ _ (hc.ext E) hcap) ?_
  rintro _ w3 ⟨⟨a5, ⟨nx6, ac7, rfl, hn8, ha9⟩, hsm10⟩, e4⟩
  have hs11 := Below.size E
  have hs12 := Below.size e4
  replace E := E.trans e4
  refine Sq.alloc zero26 .plain rfl (fun b13 w14 e15 hB16 hlo17 => ?_)
  have hd18 := Nat.le_trans (Below.size E) hlo17
  have hs19 := Below.size e15
  replace E := E.trans e15
  replace hn8 := hn8.ext e15
  replace ha9 := ha9.ext e15
  refine Sq.storeAgg agg26 .plain rfl rfl (one_cons rfl (one_cons (Rows.one hn8) (one_cons (Row.one ha9) one_nil))) hB16 rfl rfl (fun w20 g21 hB22 => ?_)
  have hs23 := World.grownBy.size g21
  replace E := E.grown g21 (fun k hk => by injection hk with hk; subst hk; omega)
  replace hn8 := hn8.stored g21 hB16 (by decide) (by decide)
  replace ha9 := ha9.stored g21 hB16 (by decide)
  replace hB16 := hB22
  refine Sq.nil ?_
  refine Eq.next ?_
  refine Cq.seq ?_
  refine Cq.region ?_
  refine Sq.loadAgg agg26 .plain rfl rfl hB16 rfl ?_
  have hd28 := hB16.lt
  refine Sq.call fn7 .plain rfl rfl (sc_c _ a5 _ _ hn8 ha9) ?_
  rintro v24 w25 ⟨hl27, e26⟩
  have hs29 := Below.size E
  have hs30 := Below.size e26
  replace E := E.trans e26
  replace hn8 := hn8.ext e26
  replace ha9 := ha9.ext e26
  replace hB16 := hB16.ext e26
  refine Sq.assign .plain rfl rfl ?_
  refine Sq.nil ?_
  refine Eq.next ?_
  refine Cq.seq ?_
  refine Cq.seq ?_
  refine Cq.region ?_
  refine Sq.move .plain rfl rfl ?_
  refine Sq.loadAgg agg26 .plain rfl rfl hB16 rfl ?_
  have hd35 := hB16.lt
  refine Sq.call fn9 .plain rfl rfl (sClasses_c _ a5 _ _ hn8 ha9) ?_
  rintro v31 w32 ⟨hl34, e33⟩
  have hs36 := Below.size E
  have hs37 := Below.size e33
  replace E := E.trans e33
  replace hn8 := hn8.ext e33
  replace ha9 := ha9.ext e33
  replace hB16 := hB16.ext e33
  replace hl27 := hl27.ext e33
  have hd41 := hB16.lt
  refine Sq.call fn8 .plain rfl rfl (agInts_c _ _ _ _ _ (Own.row hl27) (Own.row hl34) (by exact Nat.le_trans clsA_small (by decide))) ?_
  rintro _ w39 ⟨rfl, e40⟩
  have hs42 := Below.size E
  have hs43 := Below.size e40
  replace E := E.trans e40
  replace hn8 := hn8.ext e40
  replace ha9 := ha9.ext e40
  replace hB16 := hB16.ext e40
  replace hl27 := hl27.ext e40
  refine Sq.beT (beq_self_eq_true _) ?_
  refine Sq.notT .plain rfl rfl ?_
  refine Sq.move .plain rfl rfl ?_
  refine Sq.loadAgg agg26 (.met rfl rfl rfl) rfl rfl hB16 rfl ?_
  have hd47 := hB16.lt
  refine Sq.call fn10 (.met rfl rfl rfl) rfl rfl (valid_c _ a5 _ _ hn8 ha9) ?_
  rintro _ w45 ⟨rfl, e46⟩
  have hs48 := Below.size E
  have hs49 := Below.size e46
  replace E := E.trans e46
  replace hn8 := hn8.ext e46
  replace ha9 := ha9.ext e46
  replace hB16 := hB16.ext e46
  replace hl27 := hl27.ext e46
  refine Sq.partB (fun hv => ?_) (fun hv => ?_)
  · refine Sq.notT (.met rfl rfl rfl) rfl rfl ?_
    refine Sq.pickF .plain rfl rfl rfl ?_
    refine Sq.nil ?_
    refine Eq.next ?_
    refine Cq.els rfl ?_
    refine Cq.skip ?_
    refine Eq.next ?_
    refine Cq.seq ?_
    refine Cq.seq ?_
    refine Cq.region ?_
    replace hl27 := Own.row hl27
    have Ew := Ext.refl w45
    refine Sq.assign .plain rfl rfl ?_
    refine Sq.nil ?_
    refine Eq.next ?_
    refine Cq.block ?_
    have hcs := clsA_small (a := a5)
    have hcl := clsA_length hv
    refine Cq.loop (fun nn w ls => ∃ (i : Int), ls = [(3, Value.pointer (some ⟨b13, 0, none⟩)), (4, v24), (5, Value.int .i64 i)] ∧ (0 ≤ i ∧ i ≤ (clsA a5).length) ∧ Ext w0 w ∧ Ext w45 w ∧ Blk w b13 26 [Value.int .i64 a5.al, nx6, ac7] ∧ nn = (((clsA a5).length : Int) - i).toNat) _ _ ⟨0, rfl, by omega, E, Ew, hB16, rfl⟩ (.cons rfl (.cons rfl (.cons rfl (.nil)))) ?_
    rintro nn wl1 ls ⟨i, rfl, hi, E, Ew, hB16, rfl⟩
    have hs50 := Below.size E
    have hs51 := Below.size Ew
    refine Cq.seq ?_
    refine Cq.seq ?_
    refine Cq.region ?_
    refine Sq.move .plain rfl rfl ?_
    refine Sq.move .plain rfl rfl ?_
    refine Sq.lenInts (hl27.ext Ew) .plain rfl und28 rfl ?_
    refine Sq.lss .plain rfl rfl rfl ?_
    refine Sq.part (fun c52 => ?_) (fun c52 => ?_)
    · refine Sq.nil ?_
      refine Eq.next ?_
      refine Cq.thn rfl ?_
      refine Cq.skip ?_
      refine Eq.next ?_
      refine Cq.seq ?_
      refine Cq.block ?_
      refine Cq.seq ?_
      refine Cq.region ?_
      refine Sq.assign .plain rfl rfl ?_
      refine Sq.nil ?_
      refine Eq.next ?_
      refine Cq.block ?_
      refine Cq.loop (fun nn w ls => ∃ (j : Int), ls = [(3, Value.pointer (some ⟨b13, 0, none⟩)), (4, v24), (5, Value.int .i64 i), (6, Value.int .i64 j)] ∧ (0 ≤ j ∧ j ≤ i) ∧ Ext w0 w ∧ Ext w45 w ∧ Blk w b13 26 [Value.int .i64 a5.al, nx6, ac7] ∧ nn = (i - j).toNat) _ _ ⟨0, rfl, by omega, E, Ew, hB16, rfl⟩ (.cons rfl (.cons rfl (.cons rfl (.cons rfl (.nil))))) ?_
      rintro nn wl2 ls ⟨j, rfl, hj, E, Ew, hB16, rfl⟩
      have hs53 := Below.size E
      have hs54 := Below.size Ew
      refine Cq.seq ?_
      refine Cq.seq ?_
      refine Cq.region ?_
      refine Sq.move .plain rfl rfl ?_
      refine Sq.move .plain rfl rfl ?_
      refine Sq.lss .plain rfl rfl rfl ?_
      refine Sq.part (fun c55 => ?_) (fun c55 => ?_)
      · refine Sq.nil ?_
        refine Eq.next ?_
        refine Cq.thn rfl ?_
        refine Cq.skip ?_
        refine Eq.next ?_
        refine Cq.seq ?_
        refine Cq.block ?_
        refine Cq.seq ?_
        refine Cq.region ?_
        refine Sq.loadAgg agg26 .plain rfl rfl hB16 rfl ?_
        refine Sq.move .plain rfl rfl ?_
        refine Sq.move .plain rfl rfl ?_
        have hd59 := hB16.lt
        refine Sq.call fn11 .plain rfl rfl (fSplit_c _ a5 _ _ (hn8.ext Ew) (ha9.ext Ew) i j) ?_
        rintro _ w57 ⟨rfl, e58⟩
        have hs60 := Below.size E
        have hs61 := Below.size Ew
        have hs62 := Below.size e58
        replace E := E.trans e58
        replace Ew := Ew.trans e58
        replace hB16 := hB16.ext e58
        refine Sq.move .plain rfl rfl ?_
        refine Sq.extract .plain rfl rfl rfl ?_
        refine Sq.extract .plain rfl rfl rfl ?_
        refine Sq.assign .plain rfl rfl ?_
        refine Sq.assign .plain rfl rfl ?_
        refine Sq.nil ?_
        refine Eq.next ?_
        refine Cq.seq ?_
        obtain ⟨phpI, hpI⟩ := Ints.at hl27 (i := i) (by omega) (by omega)
        replace hpI := hpI.ext Ew
        obtain ⟨phpJ, hpJ⟩ := Ints.at hl27 (i := j) (by omega) (by omega)
        replace hpJ := hpJ.ext Ew
        refine Cq.drawS 11 (fun w' => At w' 3 v24 i phpI (.int .i64 ((clsA a5).getD i.toNat 0)) ∧ At w' 3 v24 j phpJ (.int .i64 ((clsA a5).getD j.toNat 0))) mixed (⟨hpI, hpJ⟩) (fun w63 e64 hS => ?_)
        clear hS
        have hs65 := Below.size e64
        replace E := E.trans e64
        replace Ew := Ew.trans e64
        replace hB16 := hB16.ext e64
        replace hpI := hpI.ext e64
        replace hpJ := hpJ.ext e64
        refine Gq.st 0 rfl (by kernel_rfl) rfl .plain rfl (fun _ _ _ h => h) ⟨hpI, hpJ⟩ (fun w' x => Still.move rfl) ?_
        refine Gq.st 1 rfl (by kernel_rfl) rfl .plain rfl (fun _ _ _ h => h) ⟨hpI, hpJ⟩ (fun w' x => Still.move rfl) ?_
        refine Gq.st 2 rfl (by kernel_rfl) rfl .plain rfl (fun _ _ _ h => h) ⟨hpI, hpJ⟩ (fun w' x => Still.move rfl) ?_
        refine Gq.st 3 rfl (by kernel_rfl) rfl .plain rfl (fun _ _ _ h => h) ⟨hpI, hpJ⟩ (fun w' x => Still.at' sl28 hpI rfl rfl) ?_
        refine Gq.st 4 rfl (by kernel_rfl) rfl .plain rfl (fun _ _ _ h => h) ⟨hpI, hpJ⟩ (fun w' x => Still.loadA one3 rfl (x.1).1) ?_
        refine Gq.st 5 rfl (by kernel_rfl) rfl .plain rfl (fun _ _ _ h => h) ⟨hpI, hpJ⟩ (fun w' x => Still.move rfl) ?_
        refine Gq.st 6 rfl (by kernel_rfl) rfl .plain rfl (fun _ _ _ h => h) ⟨hpI, hpJ⟩ (fun w' x => Still.move rfl) ?_
        refine Gq.st 7 rfl (by kernel_rfl) rfl .plain rfl (fun _ _ _ h => h) ⟨hpI, hpJ⟩ (fun w' x => Still.at' sl28 hpJ rfl rfl) ?_
        refine Gq.st 8 rfl (by kernel_rfl) rfl .plain rfl (fun _ _ _ h => h) ⟨hpI, hpJ⟩ (fun w' x => Still.loadA one3 rfl (x.2).1) ?_
        refine Gq.st 9 rfl (by kernel_rfl) rfl .plain rfl (fun _ _ _ h => h) ⟨hpI, hpJ⟩ (fun w' x => Still.eql rfl rfl) ?_
        refine Gq.st 10 rfl (by kernel_rfl) rfl .plain rfl (fun _ _ _ h => h) ⟨hpI, hpJ⟩ (fun w' x => Still.eqlB und4 rfl rfl) ?_
        refine Gq.beF (clsA_split hv ⟨by omega, by omega⟩ ⟨by omega, by omega⟩) ?_
        refine Gq.done (by kernel_rfl) ?_
        refine Eq.next ?_
        refine Cq.els rfl ?_
        refine Cq.skip ?_
        refine Eq.end ?_
        refine Eq.next ?_
        refine Cq.region ?_
        refine Sq.move .plain rfl rfl ?_
        refine Sq.add .plain rfl rfl rfl (by omega) ?_
        refine Sq.assign .plain rfl rfl ?_
        refine Sq.nil ?_
        refine Eq.round _ _ ⟨j + 1, rfl, by omega, E, Ew, hB16, rfl⟩ (by omega) (.cons rfl (.cons rfl (.cons rfl (.cons rfl (.nil)))))
      refine Sq.nil ?_
      refine Eq.next ?_
      refine Cq.els rfl ?_
      refine Cq.exit ?_
      refine Eq.past ?_
      refine Eq.past ?_
      refine Eq.hit ?_
      refine Eq.end ?_
      refine Eq.next ?_
      refine Cq.region ?_
      refine Sq.move .plain rfl rfl ?_
      refine Sq.add .plain rfl rfl rfl (by omega) ?_
      refine Sq.assign .plain rfl rfl ?_
      refine Sq.nil ?_
      refine Eq.round _ _ ⟨i + 1, rfl, by omega, E, Ew, hB16, rfl⟩ (by omega) (.cons rfl (.cons rfl (.cons rfl (.nil))))
    refine Sq.nil ?_
    refine Eq.next ?_
    refine Cq.els rfl ?_
    refine Cq.exit ?_
    refine Eq.past ?_
    refine Eq.past ?_
    refine Eq.hit ?_
    refine Eq.next ?_
    refine Cq.seq ?_
    refine Cq.region ?_
    refine Sq.move .plain rfl rfl ?_
    refine Sq.lenInts (hl27.ext Ew) .plain rfl und28 rfl ?_
    refine Sq.fieldAddr fld26_1 .plain rfl rfl ?_
    refine Sq.loadB one23 .plain rfl rfl hB16 rfl ?_
    refine Sq.lenRows (hn8.ext Ew) .plain rfl und23 rfl ?_
    refine Sq.eql .plain rfl rfl rfl ?_
    refine Sq.isT (by rw [clsA_length hv]) ?_
    refine Sq.assign .plain rfl rfl ?_
    refine Sq.nil ?_
    refine Eq.next ?_
    refine Cq.ret ?_
    refine Eq.ret1 rfl rfl ?_
    exact ⟨rfl, E⟩
  refine Sq.notF (.met rfl rfl rfl) rfl rfl ?_
  refine Sq.pickF .plain rfl rfl rfl ?_
  refine Sq.nil ?_
  refine Eq.next ?_
  refine Cq.thn rfl ?_
  refine Cq.seq ?_
  refine Cq.region ?_
  refine Sq.move .plain rfl rfl ?_
  refine Sq.loadAgg agg26 .plain rfl rfl hB16 rfl ?_
  have hd70 := hB16.lt
  refine Sq.call fn9 .plain rfl rfl (sClasses_c _ a5 _ _ hn8 ha9) ?_
  rintro v66 w67 ⟨hl69, e68⟩
  have hs71 := Below.size E
  have hs72 := Below.size e68
  replace E := E.trans e68
  replace hB16 := hB16.ext e68
  replace hl27 := hl27.ext e68
  have hd76 := hB16.lt
  refine Sq.call fn8 .plain rfl rfl (agInts_c _ _ _ _ _ (Own.row hl27) (Own.row hl69) (by exact Nat.le_trans clsA_small (by decide))) ?_
  rintro _ w74 ⟨rfl, e75⟩
  have hs77 := Below.size E
  have hs78 := Below.size e75
  replace E := E.trans e75
  replace hl27 := hl27.ext e75
  refine Sq.beT (beq_self_eq_true _) ?_
  refine Sq.move .plain rfl rfl ?_
  refine Sq.move (.met rfl rfl rfl) rfl rfl ?_
  refine Sq.lenInts (Own.row hl27) (.met rfl rfl rfl) rfl und28 rfl ?_
  refine Sq.eql (.met rfl rfl rfl) rfl rfl rfl ?_
  refine Sq.isT (by rw [clsA_no hv]; rfl) ?_
  refine Sq.pickT .plain rfl rfl rfl ?_
  refine Sq.assign .plain rfl rfl ?_
  refine Sq.nil ?_
  refine Eq.next ?_
  refine Cq.ret ?_
  refine Eq.pastRet ?_
  refine Eq.ret1 rfl rfl ?_
  exact ⟨rfl, E⟩
set_option maxRecDepth 100000 in
theorem lClassesNext (w0 : World) (e : TypeId) (a0 : Option Addr) (c0 : Nat) (cs : List UInt8) (hc : Bytes w0 e (.slice a0 cs.length c0) cs) (hcap : cs.length ≤ c0) : Ret Tryd.prog 4 #[Value.slice a0 cs.length c0] w0 (fun v w => v = .bool true ∧ Ext w0 w) := by
  have E := Ext.refl w0
  refine Ret.of (args := [Value.slice a0 cs.length c0]) Tryd.func4 rfl rfl rfl ?_
  rintro _ rfl
  show Cq _ _ _ _ [(0, Value.slice a0 cs.length c0)] _
  refine Cq.seq ?_
  refine Cq.region ?_
  refine Sq.assign .plain rfl rfl ?_
  refine Sq.nil ?_
  refine Eq.next ?_
  refine Cq.seq ?_
  refine Cq.seq ?_
  refine Cq.region ?_
  refine Sq.move .plain rfl rfl ?_
  refine Sq.lenBytes (hc.ext E) .plain rfl und22 rfl ?_
  refine Sq.gtr .plain rfl rfl rfl ?_
  refine Sq.part (fun c1 => ?_) (fun c1 => ?_)
  · refine Sq.nil ?_
    refine Eq.next ?_
    refine Cq.thn rfl ?_
    refine Cq.seq ?_
    refine Cq.region ?_
    refine Sq.assign .plain rfl rfl ?_
    refine Sq.nil ?_
    refine Eq.next ?_
    refine Cq.ret ?_
    refine Eq.pastRet ?_
    refine Eq.ret1 rfl rfl ?_
    exact ⟨rfl, E⟩
  refine Sq.nil ?_
  refine Eq.next ?_
  refine Cq.els rfl ?_
  refine Cq.skip ?_
  refine Eq.next ?_
  refine Cq.seq ?_
  refine Cq.region ?_
  refine Sq.move .plain rfl rfl ?_
  refine Sq.call fn6 .plain rfl rfl (drawClasses_c _ _ _ _ _ (hc.ext E) hcap) ?_
  rintro _ w3 ⟨⟨a5, ⟨nx6, ac7, rfl, hn8, ha9⟩, hsm10⟩, e4⟩
  have hs11 := Below.size E
  have hs12 := Below.size e4
  replace E := E.trans e4
  refine Sq.alloc zero26 .plain rfl (fun b13 w14 e15 hB16 hlo17 => ?_)
  have hd18 := Nat.le_trans (Below.size E) hlo17
  have hs19 := Below.size e15
  replace E := E.trans e15
  replace hn8 := hn8.ext e15
  replace ha9 := ha9.ext e15
  refine Sq.storeAgg agg26 .plain rfl rfl (one_cons rfl (one_cons (Rows.one hn8) (one_cons (Row.one ha9) one_nil))) hB16 rfl rfl (fun w20 g21 hB22 => ?_)
  have hs23 := World.grownBy.size g21
  replace E := E.grown g21 (fun k hk => by injection hk with hk; subst hk; omega)
  replace hn8 := hn8.stored g21 hB16 (by decide) (by decide)
  replace ha9 := ha9.stored g21 hB16 (by decide)
  replace hB16 := hB22
  refine Sq.nil ?_
  refine Eq.next ?_
  refine Cq.seq ?_
  refine Cq.region ?_
  refine Sq.loadAgg agg26 .plain rfl rfl hB16 rfl ?_
  have hd28 := hB16.lt
  refine Sq.call fn7 .plain rfl rfl (sc_c _ a5 _ _ hn8 ha9) ?_
  rintro v24 w25 ⟨hl27, e26⟩
  have hs29 := Below.size E
  have hs30 := Below.size e26
  replace E := E.trans e26
  replace hn8 := hn8.ext e26
  replace ha9 := ha9.ext e26
  replace hB16 := hB16.ext e26
  refine Sq.assign .plain rfl rfl ?_
  refine Sq.nil ?_
  refine Eq.next ?_
  refine Cq.seq ?_
  refine Cq.seq ?_
  refine Cq.region ?_
  refine Sq.move .plain rfl rfl ?_
  refine Sq.loadAgg agg26 .plain rfl rfl hB16 rfl ?_
  have hd35 := hB16.lt
  refine Sq.call fn9 .plain rfl rfl (sClasses_c _ a5 _ _ hn8 ha9) ?_
  rintro v31 w32 ⟨hl34, e33⟩
  have hs36 := Below.size E
  have hs37 := Below.size e33
  replace E := E.trans e33
  replace hn8 := hn8.ext e33
  replace hB16 := hB16.ext e33
  replace hl27 := hl27.ext e33
  have hd41 := hB16.lt
  refine Sq.call fn8 .plain rfl rfl (agInts_c _ _ _ _ _ (Own.row hl27) (Own.row hl34) (by exact Nat.le_trans clsA_small (by decide))) ?_
  rintro _ w39 ⟨rfl, e40⟩
  have hs42 := Below.size E
  have hs43 := Below.size e40
  replace E := E.trans e40
  replace hn8 := hn8.ext e40
  replace hB16 := hB16.ext e40
  replace hl27 := hl27.ext e40
  refine Sq.beT (beq_self_eq_true _) ?_
  refine Sq.notT .plain rfl rfl ?_
  refine Sq.nil ?_
  refine Eq.next ?_
  refine Cq.els rfl ?_
  refine Cq.skip ?_
  refine Eq.next ?_
  refine Cq.seq ?_
  refine Cq.seq ?_
  refine Cq.region ?_
  replace hl27 := Own.row hl27
  have Ew := Ext.refl w39
  refine Sq.assign .plain rfl rfl ?_
  refine Sq.nil ?_
  refine Eq.next ?_
  refine Cq.block ?_
  have hcs := clsA_small (a := a5)
  refine Cq.loop (fun nn w ls => ∃ (i : Int), ls = [(3, Value.pointer (some ⟨b13, 0, none⟩)), (4, v24), (5, Value.int .i64 i)] ∧ (0 ≤ i ∧ i ≤ (clsA a5).length) ∧ Ext w0 w ∧ Ext w39 w ∧ Blk w b13 26 [Value.int .i64 a5.al, nx6, ac7] ∧ nn = (((clsA a5).length : Int) - i).toNat) _ _ ⟨0, rfl, by omega, E, Ew, hB16, rfl⟩ (.cons rfl (.cons rfl (.cons rfl (.nil)))) ?_
  rintro nn wl1 ls ⟨i, rfl, hi, E, Ew, hB16, rfl⟩
  have hs44 := Below.size E
  have hs45 := Below.size Ew
  refine Cq.seq ?_
  refine Cq.seq ?_
  refine Cq.region ?_
  refine Sq.move .plain rfl rfl ?_
  refine Sq.move .plain rfl rfl ?_
  refine Sq.lenInts (hl27.ext Ew) .plain rfl und28 rfl ?_
  refine Sq.lss .plain rfl rfl rfl ?_
  refine Sq.part (fun c46 => ?_) (fun c46 => ?_)
  · refine Sq.nil ?_
    refine Eq.next ?_
    refine Cq.thn rfl ?_
    refine Cq.skip ?_
    refine Eq.next ?_
    refine Cq.seq ?_
    refine Cq.block ?_
    refine Cq.seq ?_
    refine Cq.region ?_
    have hv := clsA_ok (a := a5) (k := i.toNat) (by omega)
    have hcl := clsA_length hv
    have hvs := validA_spec.1 hv
    have hv1 := hvs.2.1
    have hv2 := hvs.2.2.1
    refine Sq.assign .plain rfl rfl ?_
    refine Sq.nil ?_
    refine Eq.next ?_
    refine Cq.block ?_
    refine Cq.loop (fun nn w ls => ∃ (j : Int), ls = [(3, Value.pointer (some ⟨b13, 0, none⟩)), (4, v24), (5, Value.int .i64 i), (6, Value.int .i64 j)] ∧ (0 ≤ j ∧ j ≤ i) ∧ Ext w0 w ∧ Ext w39 w ∧ Blk w b13 26 [Value.int .i64 a5.al, nx6, ac7] ∧ nn = (i - j).toNat) _ _ ⟨0, rfl, by omega, E, Ew, hB16, rfl⟩ (.cons rfl (.cons rfl (.cons rfl (.cons rfl (.nil))))) ?_
    rintro nn wl2 ls ⟨j, rfl, hj, E, Ew, hB16, rfl⟩
    have hs47 := Below.size E
    have hs48 := Below.size Ew
    refine Cq.seq ?_
    refine Cq.seq ?_
    refine Cq.region ?_
    refine Sq.move .plain rfl rfl ?_
    refine Sq.move .plain rfl rfl ?_
    refine Sq.lss .plain rfl rfl rfl ?_
    refine Sq.part (fun c49 => ?_) (fun c49 => ?_)
    · refine Sq.nil ?_
      refine Eq.next ?_
      refine Cq.thn rfl ?_
      refine Cq.skip ?_
      refine Eq.next ?_
      refine Cq.seq ?_
      refine Cq.block ?_
      refine Cq.seq ?_
      refine Cq.region ?_
      refine Sq.assign .plain rfl rfl ?_
      refine Sq.nil ?_
      refine Eq.next ?_
      refine Cq.block ?_
      have hrl := valid_row hv (k := i.toNat) (by omega)
      have hrl2 := valid_row hv (k := j.toNat) (by omega)
      have hl6 := letters_len6 a5.al
      refine Cq.loop (fun nn w ls => ∃ (k : Int), ls = [(3, Value.pointer (some ⟨b13, 0, none⟩)), (4, v24), (5, Value.int .i64 i), (6, Value.int .i64 j), (7, Value.int .i64 k)] ∧ (0 ≤ k ∧ k ≤ (a5.next.getD i.toNat []).length) ∧ Ext w0 w ∧ Ext w39 w ∧ Blk w b13 26 [Value.int .i64 a5.al, nx6, ac7] ∧ nn = (((a5.next.getD i.toNat []).length : Int) - k).toNat) _ _ ⟨0, rfl, by omega, E, Ew, hB16, rfl⟩ (.cons rfl (.cons rfl (.cons rfl (.cons rfl (.cons rfl (.nil)))))) ?_
      rintro nn wl3 ls ⟨k, rfl, hk, E, Ew, hB16, rfl⟩
      have hs50 := Below.size E
      have hs51 := Below.size Ew
      refine Cq.seq ?_
      refine Cq.seq ?_
      obtain ⟨phpI, hpI⟩ := Ints.at hl27 (i := i) (by omega) (by omega)
      replace hpI := hpI.ext Ew
      obtain ⟨phpJ, hpJ⟩ := Ints.at hl27 (i := j) (by omega) (by omega)
      replace hpJ := hpJ.ext Ew
      obtain ⟨pRX, rRX, hpRX, hrRX⟩ := Rows.at hn8 (i := i) (by omega) (by omega)
      replace hpRX := hpRX.ext Ew
      refine Cq.drawS 19 (fun w' => Blk w' b13 26 [Value.int .i64 a5.al, nx6, ac7] ∧ At w' 3 v24 i phpI (.int .i64 ((clsA a5).getD i.toNat 0)) ∧ At w' 3 v24 j phpJ (.int .i64 ((clsA a5).getD j.toNat 0)) ∧ At w' 28 nx6 i pRX rRX) mixed (⟨hB16, hpI, hpJ, hpRX⟩) (fun w52 e53 hS => ?_)
      clear hS
      have hs54 := Below.size e53
      replace E := E.trans e53
      replace Ew := Ew.trans e53
      replace hB16 := hB16.ext e53
      replace hpI := hpI.ext e53
      replace hpJ := hpJ.ext e53
      replace hpRX := hpRX.ext e53
      refine Gq.st 0 rfl (by kernel_rfl) rfl .plain rfl (fun _ _ _ h => h) ⟨hB16, hpI, hpJ, hpRX⟩ (fun w' x => Still.move rfl) ?_
      refine Gq.st 1 rfl (by kernel_rfl) rfl .plain rfl (fun _ _ _ h => h) ⟨hB16, hpI, hpJ, hpRX⟩ (fun w' x => Still.fieldAddr fld26_1 rfl) ?_
      refine Gq.st 2 rfl (by kernel_rfl) rfl .plain rfl (fun _ _ _ h => h) ⟨hB16, hpI, hpJ, hpRX⟩ (fun w' x => Still.loadB one23 rfl x.1 rfl) ?_
      refine Gq.st 3 rfl (by kernel_rfl) rfl .plain rfl (fun _ _ _ h => h) ⟨hB16, hpI, hpJ, hpRX⟩ (fun w' x => Still.move rfl) ?_
      refine Gq.st 4 rfl (by kernel_rfl) rfl .plain rfl (fun _ _ _ h => h) ⟨hB16, hpI, hpJ, hpRX⟩ (fun w' x => Still.at' sl23 hpRX rfl rfl) ?_
      refine Gq.st 5 rfl (by kernel_rfl) rfl .plain rfl (fun _ _ _ h => h) ⟨hB16, hpI, hpJ, hpRX⟩ (fun w' x => Still.loadA one28 rfl (x.2.2.2).1) ?_
      refine Gq.one 6 rfl (by kernel_rfl) ?_
      refine Sq.lenInts (hrRX.ext Ew) .plain rfl und28 rfl ?_
      refine Sq.nil ?_
      refine Eq.goes (fun _ => ⟨hB16, hpI, hpJ, hpRX⟩) ?_
      refine Gq.st 7 rfl (by kernel_rfl) rfl .plain rfl (fun _ _ _ h => h) ⟨hB16, hpI, hpJ, hpRX⟩ (fun w' x => Still.lss rfl rfl) ?_
      refine Gq.part (fun hkl => ?_) (fun hkl => ?_)
      · refine Gq.st 8 rfl (by kernel_rfl) rfl .plain rfl (fun _ _ _ h => h) ⟨hB16, hpI, hpJ, hpRX⟩ (fun w' x => Still.move rfl) ?_
        refine Gq.st 9 rfl (by kernel_rfl) rfl (.met rfl rfl rfl) rfl (fun _ _ _ h => h) ⟨hB16, hpI, hpJ, hpRX⟩ (fun w' x => Still.move rfl) ?_
        refine Gq.st 10 rfl (by kernel_rfl) rfl (.met rfl rfl rfl) rfl (fun _ _ _ h => h) ⟨hB16, hpI, hpJ, hpRX⟩ (fun w' x => Still.move rfl) ?_
        refine Gq.st 11 rfl (by kernel_rfl) rfl (.met rfl rfl rfl) rfl (fun _ _ _ h => h) ⟨hB16, hpI, hpJ, hpRX⟩ (fun w' x => Still.at' sl28 hpI rfl rfl) ?_
        refine Gq.st 12 rfl (by kernel_rfl) rfl (.met rfl rfl rfl) rfl (fun _ _ _ h => h) ⟨hB16, hpI, hpJ, hpRX⟩ (fun w' x => Still.loadA one3 rfl (x.2.1).1) ?_
        refine Gq.st 13 rfl (by kernel_rfl) rfl (.met rfl rfl rfl) rfl (fun _ _ _ h => h) ⟨hB16, hpI, hpJ, hpRX⟩ (fun w' x => Still.move rfl) ?_
        refine Gq.st 14 rfl (by kernel_rfl) rfl (.met rfl rfl rfl) rfl (fun _ _ _ h => h) ⟨hB16, hpI, hpJ, hpRX⟩ (fun w' x => Still.move rfl) ?_
        refine Gq.st 15 rfl (by kernel_rfl) rfl (.met rfl rfl rfl) rfl (fun _ _ _ h => h) ⟨hB16, hpI, hpJ, hpRX⟩ (fun w' x => Still.at' sl28 hpJ rfl rfl) ?_
        refine Gq.st 16 rfl (by kernel_rfl) rfl (.met rfl rfl rfl) rfl (fun _ _ _ h => h) ⟨hB16, hpI, hpJ, hpRX⟩ (fun w' x => Still.loadA one3 rfl (x.2.2.1).1) ?_
        refine Gq.st 17 rfl (by kernel_rfl) rfl (.met rfl rfl rfl) rfl (fun _ _ _ h => h) ⟨hB16, hpI, hpJ, hpRX⟩ (fun w' x => Still.eql rfl rfl) ?_
        refine Gq.part (fun he => ?_) (fun he => ?_)
        · refine Gq.st 18 rfl (by kernel_rfl) rfl .plain rfl (fun _ _ _ h => h) ⟨hB16, hpI, hpJ, hpRX⟩ (fun w' x => Still.pickT rfl rfl) ?_
          refine Gq.done (by kernel_rfl) ?_
          refine Eq.next ?_
          refine Cq.thn rfl ?_
          refine Cq.skip ?_
          refine Eq.next ?_
          refine Cq.seq ?_
          refine Cq.block ?_
          refine Cq.seq ?_
          obtain ⟨pRY, rRY, hpRY, hrRY⟩ := Rows.at hn8 (i := j) (by omega) (by omega)
          replace hpRY := hpRY.ext Ew
          have htX := valid_at hv (k := i.toNat) (j := k.toNat) (by omega) (by omega)
          obtain ⟨pTX, hpTX⟩ := Ints.at hrRX (i := k) (by omega) (by omega)
          obtain ⟨pCX, hpCX⟩ := Ints.at hl27 (i := ((a5.next.getD i.toNat []).getD k.toNat 0)) (by omega) (by omega)
          replace hpTX := hpTX.ext Ew
          replace hpCX := hpCX.ext Ew
          have htY := valid_at hv (k := j.toNat) (j := k.toNat) (by omega) (by omega)
          obtain ⟨pTY, hpTY⟩ := Ints.at hrRY (i := k) (by omega) (by omega)
          obtain ⟨pCY, hpCY⟩ := Ints.at hl27 (i := ((a5.next.getD j.toNat []).getD k.toNat 0)) (by omega) (by omega)
          replace hpTY := hpTY.ext Ew
          replace hpCY := hpCY.ext Ew
          refine Cq.drawS 23 (fun w' => Blk w' b13 26 [Value.int .i64 a5.al, nx6, ac7] ∧ At w' 28 nx6 i pRX rRX ∧ At w' 28 nx6 j pRY rRY ∧ At w' 3 rRX k pTX (.int .i64 ((a5.next.getD i.toNat []).getD k.toNat 0)) ∧ At w' 3 rRY k pTY (.int .i64 ((a5.next.getD j.toNat []).getD k.toNat 0)) ∧ At w' 3 v24 ((a5.next.getD i.toNat []).getD k.toNat 0) pCX (.int .i64 ((clsA a5).getD ((a5.next.getD i.toNat []).getD k.toNat 0).toNat 0)) ∧ At w' 3 v24 ((a5.next.getD j.toNat []).getD k.toNat 0) pCY (.int .i64 ((clsA a5).getD ((a5.next.getD j.toNat []).getD k.toNat 0).toNat 0))) mixed (⟨hB16, hpRX, hpRY, hpTX, hpTY, hpCX, hpCY⟩) (fun w55 e56 hS => ?_)
          clear hS
          have hs57 := Below.size e56
          replace E := E.trans e56
          replace Ew := Ew.trans e56
          replace hB16 := hB16.ext e56
          replace hpRX := hpRX.ext e56
          replace hpRY := hpRY.ext e56
          replace hpTX := hpTX.ext e56
          replace hpCX := hpCX.ext e56
          replace hpTY := hpTY.ext e56
          replace hpCY := hpCY.ext e56
          refine Gq.st 0 rfl (by kernel_rfl) rfl .plain rfl (fun _ _ _ h => h) ⟨hB16, hpRX, hpRY, hpTX, hpTY, hpCX, hpCY⟩ (fun w' x => Still.move rfl) ?_
          refine Gq.st 1 rfl (by kernel_rfl) rfl .plain rfl (fun _ _ _ h => h) ⟨hB16, hpRX, hpRY, hpTX, hpTY, hpCX, hpCY⟩ (fun w' x => Still.fieldAddr fld26_1 rfl) ?_
          refine Gq.st 2 rfl (by kernel_rfl) rfl .plain rfl (fun _ _ _ h => h) ⟨hB16, hpRX, hpRY, hpTX, hpTY, hpCX, hpCY⟩ (fun w' x => Still.loadB one23 rfl x.1 rfl) ?_
          refine Gq.st 3 rfl (by kernel_rfl) rfl .plain rfl (fun _ _ _ h => h) ⟨hB16, hpRX, hpRY, hpTX, hpTY, hpCX, hpCY⟩ (fun w' x => Still.move rfl) ?_
          refine Gq.st 4 rfl (by kernel_rfl) rfl .plain rfl (fun _ _ _ h => h) ⟨hB16, hpRX, hpRY, hpTX, hpTY, hpCX, hpCY⟩ (fun w' x => Still.at' sl23 hpRX rfl rfl) ?_
          refine Gq.st 5 rfl (by kernel_rfl) rfl .plain rfl (fun _ _ _ h => h) ⟨hB16, hpRX, hpRY, hpTX, hpTY, hpCX, hpCY⟩ (fun w' x => Still.loadA one28 rfl (x.2.1).1) ?_
          refine Gq.st 6 rfl (by kernel_rfl) rfl .plain rfl (fun _ _ _ h => h) ⟨hB16, hpRX, hpRY, hpTX, hpTY, hpCX, hpCY⟩ (fun w' x => Still.move rfl) ?_
          refine Gq.st 7 rfl (by kernel_rfl) rfl .plain rfl (fun _ _ _ h => h) ⟨hB16, hpRX, hpRY, hpTX, hpTY, hpCX, hpCY⟩ (fun w' x => Still.at' sl28 hpTX rfl rfl) ?_
          refine Gq.st 8 rfl (by kernel_rfl) rfl .plain rfl (fun _ _ _ h => h) ⟨hB16, hpRX, hpRY, hpTX, hpTY, hpCX, hpCY⟩ (fun w' x => Still.loadA one3 rfl (x.2.2.2.1).1) ?_
          refine Gq.st 9 rfl (by kernel_rfl) rfl .plain rfl (fun _ _ _ h => h) ⟨hB16, hpRX, hpRY, hpTX, hpTY, hpCX, hpCY⟩ (fun w' x => Still.at' sl28 hpCX rfl rfl) ?_
          refine Gq.st 10 rfl (by kernel_rfl) rfl .plain rfl (fun _ _ _ h => h) ⟨hB16, hpRX, hpRY, hpTX, hpTY, hpCX, hpCY⟩ (fun w' x => Still.loadA one3 rfl (x.2.2.2.2.2.1).1) ?_
          refine Gq.st 11 rfl (by kernel_rfl) rfl .plain rfl (fun _ _ _ h => h) ⟨hB16, hpRX, hpRY, hpTX, hpTY, hpCX, hpCY⟩ (fun w' x => Still.move rfl) ?_
          refine Gq.st 12 rfl (by kernel_rfl) rfl .plain rfl (fun _ _ _ h => h) ⟨hB16, hpRX, hpRY, hpTX, hpTY, hpCX, hpCY⟩ (fun w' x => Still.fieldAddr fld26_1 rfl) ?_
          refine Gq.st 13 rfl (by kernel_rfl) rfl .plain rfl (fun _ _ _ h => h) ⟨hB16, hpRX, hpRY, hpTX, hpTY, hpCX, hpCY⟩ (fun w' x => Still.loadB one23 rfl x.1 rfl) ?_
          refine Gq.st 14 rfl (by kernel_rfl) rfl .plain rfl (fun _ _ _ h => h) ⟨hB16, hpRX, hpRY, hpTX, hpTY, hpCX, hpCY⟩ (fun w' x => Still.move rfl) ?_
          refine Gq.st 15 rfl (by kernel_rfl) rfl .plain rfl (fun _ _ _ h => h) ⟨hB16, hpRX, hpRY, hpTX, hpTY, hpCX, hpCY⟩ (fun w' x => Still.at' sl23 hpRY rfl rfl) ?_
          refine Gq.st 16 rfl (by kernel_rfl) rfl .plain rfl (fun _ _ _ h => h) ⟨hB16, hpRX, hpRY, hpTX, hpTY, hpCX, hpCY⟩ (fun w' x => Still.loadA one28 rfl (x.2.2.1).1) ?_
          refine Gq.st 17 rfl (by kernel_rfl) rfl .plain rfl (fun _ _ _ h => h) ⟨hB16, hpRX, hpRY, hpTX, hpTY, hpCX, hpCY⟩ (fun w' x => Still.move rfl) ?_
          refine Gq.st 18 rfl (by kernel_rfl) rfl .plain rfl (fun _ _ _ h => h) ⟨hB16, hpRX, hpRY, hpTX, hpTY, hpCX, hpCY⟩ (fun w' x => Still.at' sl28 hpTY rfl rfl) ?_
          refine Gq.st 19 rfl (by kernel_rfl) rfl .plain rfl (fun _ _ _ h => h) ⟨hB16, hpRX, hpRY, hpTX, hpTY, hpCX, hpCY⟩ (fun w' x => Still.loadA one3 rfl (x.2.2.2.2.1).1) ?_
          refine Gq.st 20 rfl (by kernel_rfl) rfl .plain rfl (fun _ _ _ h => h) ⟨hB16, hpRX, hpRY, hpTX, hpTY, hpCX, hpCY⟩ (fun w' x => Still.at' sl28 hpCY rfl rfl) ?_
          refine Gq.st 21 rfl (by kernel_rfl) rfl .plain rfl (fun _ _ _ h => h) ⟨hB16, hpRX, hpRY, hpTX, hpTY, hpCX, hpCY⟩ (fun w' x => Still.loadA one3 rfl (x.2.2.2.2.2.2).1) ?_
          refine Gq.st 22 rfl (by kernel_rfl) rfl .plain rfl (fun _ _ _ h => h) ⟨hB16, hpRX, hpRY, hpTX, hpTY, hpCX, hpCY⟩ (fun w' x => Still.neq rfl rfl) ?_
          refine Gq.isF (fun h => h (clsA_row hv ⟨by omega, by omega⟩ ⟨by omega, by omega⟩ (by omega) he)) ?_
          refine Gq.done (by kernel_rfl) ?_
          refine Eq.next ?_
          refine Cq.els rfl ?_
          refine Cq.skip ?_
          refine Eq.end ?_
          refine Eq.next ?_
          refine Cq.region ?_
          refine Sq.move .plain rfl rfl ?_
          refine Sq.add .plain rfl rfl rfl (by omega) ?_
          refine Sq.assign .plain rfl rfl ?_
          refine Sq.nil ?_
          refine Eq.round _ _ ⟨k + 1, rfl, by omega, E, Ew, hB16, rfl⟩ (by omega) (.cons rfl (.cons rfl (.cons rfl (.cons rfl (.cons rfl (.nil))))))
        refine Gq.st 18 rfl (by kernel_rfl) rfl .plain rfl (fun _ _ _ h => h) ⟨hB16, hpI, hpJ, hpRX⟩ (fun w' x => Still.pickT rfl rfl) ?_
        refine Gq.done (by kernel_rfl) ?_
        refine Eq.next ?_
        refine Cq.els rfl ?_
        refine Cq.exit ?_
        refine Eq.past ?_
        refine Eq.past ?_
        refine Eq.hit ?_
        refine Eq.end ?_
        refine Eq.next ?_
        refine Cq.region ?_
        refine Sq.move .plain rfl rfl ?_
        refine Sq.add .plain rfl rfl rfl (by omega) ?_
        refine Sq.assign .plain rfl rfl ?_
        refine Sq.nil ?_
        refine Eq.round _ _ ⟨j + 1, rfl, by omega, E, Ew, hB16, rfl⟩ (by omega) (.cons rfl (.cons rfl (.cons rfl (.cons rfl (.nil)))))
      refine Gq.st 8 rfl (by kernel_rfl) rfl .plain rfl (fun _ _ _ h => h) ⟨hB16, hpI, hpJ, hpRX⟩ (fun w' x => Still.move rfl) ?_
      refine Gq.off 9 rfl (by kernel_rfl) rfl rfl rfl rfl rfl rfl (fun _ _ _ h => h) ⟨hB16, hpI, hpJ, hpRX⟩ ?_
      refine Gq.off 10 rfl (by kernel_rfl) rfl rfl rfl rfl rfl rfl (fun _ _ _ h => h) ⟨hB16, hpI, hpJ, hpRX⟩ ?_
      refine Gq.off 11 rfl (by kernel_rfl) rfl rfl rfl rfl rfl rfl (fun _ _ _ h => h) ⟨hB16, hpI, hpJ, hpRX⟩ ?_
      refine Gq.off 12 rfl (by kernel_rfl) rfl rfl rfl rfl rfl rfl (fun _ _ _ h => h) ⟨hB16, hpI, hpJ, hpRX⟩ ?_
      refine Gq.off 13 rfl (by kernel_rfl) rfl rfl rfl rfl rfl rfl (fun _ _ _ h => h) ⟨hB16, hpI, hpJ, hpRX⟩ ?_
      refine Gq.off 14 rfl (by kernel_rfl) rfl rfl rfl rfl rfl rfl (fun _ _ _ h => h) ⟨hB16, hpI, hpJ, hpRX⟩ ?_
      refine Gq.off 15 rfl (by kernel_rfl) rfl rfl rfl rfl rfl rfl (fun _ _ _ h => h) ⟨hB16, hpI, hpJ, hpRX⟩ ?_
      refine Gq.off 16 rfl (by kernel_rfl) rfl rfl rfl rfl rfl rfl (fun _ _ _ h => h) ⟨hB16, hpI, hpJ, hpRX⟩ ?_
      refine Gq.off 17 rfl (by kernel_rfl) rfl rfl rfl rfl rfl rfl (fun _ _ _ h => h) ⟨hB16, hpI, hpJ, hpRX⟩ ?_
      refine Gq.st 18 rfl (by kernel_rfl) rfl .plain rfl (fun _ _ _ h => h) ⟨hB16, hpI, hpJ, hpRX⟩ (fun w' x => Still.pickF rfl rfl) ?_
      refine Gq.done (by kernel_rfl) ?_
      refine Eq.next ?_
      refine Cq.els rfl ?_
      refine Cq.exit ?_
      refine Eq.past ?_
      refine Eq.past ?_
      refine Eq.hit ?_
      refine Eq.end ?_
      refine Eq.next ?_
      refine Cq.region ?_
      refine Sq.move .plain rfl rfl ?_
      refine Sq.add .plain rfl rfl rfl (by omega) ?_
      refine Sq.assign .plain rfl rfl ?_
      refine Sq.nil ?_
      refine Eq.round _ _ ⟨j + 1, rfl, by omega, E, Ew, hB16, rfl⟩ (by omega) (.cons rfl (.cons rfl (.cons rfl (.cons rfl (.nil)))))
    refine Sq.nil ?_
    refine Eq.next ?_
    refine Cq.els rfl ?_
    refine Cq.exit ?_
    refine Eq.past ?_
    refine Eq.past ?_
    refine Eq.hit ?_
    refine Eq.end ?_
    refine Eq.next ?_
    refine Cq.region ?_
    refine Sq.move .plain rfl rfl ?_
    refine Sq.add .plain rfl rfl rfl (by omega) ?_
    refine Sq.assign .plain rfl rfl ?_
    refine Sq.nil ?_
    refine Eq.round _ _ ⟨i + 1, rfl, by omega, E, Ew, hB16, rfl⟩ (by omega) (.cons rfl (.cons rfl (.cons rfl (.nil))))
  refine Sq.nil ?_
  refine Eq.next ?_
  refine Cq.els rfl ?_
  refine Cq.exit ?_
  refine Eq.past ?_
  refine Eq.past ?_
  refine Eq.hit ?_
  refine Eq.next ?_
  refine Cq.seq ?_
  refine Cq.region ?_
  refine Sq.assign .plain rfl rfl ?_
  refine Sq.nil ?_
  refine Eq.next ?_
  refine Cq.ret ?_
  refine Eq.ret1 rfl rfl ?_
  exact ⟨rfl, E⟩
set_option maxRecDepth 100000 in
theorem lClassesOrder (w0 : World) (e : TypeId) (a0 : Option Addr) (c0 : Nat) (cs : List UInt8) (hc : Bytes w0 e (.slice a0 cs.length c0) cs) (hcap : cs.length ≤ c0) : Ret Tryd.prog 5 #[Value.slice a0 cs.length c0] w0 (fun v w => v = .bool true ∧ Ext w0 w) := by
  have E := Ext.refl w0
  refine Ret.of (args := [Value.slice a0 cs.length c0]) Tryd.func5 rfl rfl rfl ?_
  rintro _ rfl
  show Cq _ _ _ _ [(0, Value.slice a0 cs.length c0)] _
  refine Cq.seq ?_
  refine Cq.region ?_
  refine Sq.assign .plain rfl rfl ?_
  refine Sq.nil ?_
  refine Eq.next ?_
  refine Cq.seq ?_
  refine Cq.seq ?_
  refine Cq.region ?_
  refine Sq.move .plain rfl rfl ?_
  refine Sq.lenBytes (hc.ext E) .plain rfl und22 rfl ?_
  refine Sq.gtr .plain rfl rfl rfl ?_
  refine Sq.part (fun c1 => ?_) (fun c1 => ?_)
  · refine Sq.nil ?_
    refine Eq.next ?_
    refine Cq.thn rfl ?_
    refine Cq.seq ?_
    refine Cq.region ?_
    refine Sq.assign .plain rfl rfl ?_
    refine Sq.nil ?_
    refine Eq.next ?_
    refine Cq.ret ?_
    refine Eq.pastRet ?_
    refine Eq.ret1 rfl rfl ?_
    exact ⟨rfl, E⟩
  refine Sq.nil ?_
  refine Eq.next ?_
  refine Cq.els rfl ?_
  refine Cq.skip ?_
  refine Eq.next ?_
  refine Cq.seq ?_
  refine Cq.region ?_
  refine Sq.move .plain rfl rfl ?_
  refine Sq.call fn6 .plain rfl rfl (drawClasses_c _ _ _ _ _ (hc.ext E) hcap) ?_
  rintro _ w3 ⟨⟨a5, ⟨nx6, ac7, rfl, hn8, ha9⟩, hsm10⟩, e4⟩
  have hs11 := Below.size E
  have hs12 := Below.size e4
  replace E := E.trans e4
  refine Sq.alloc zero26 .plain rfl (fun b13 w14 e15 hB16 hlo17 => ?_)
  have hd18 := Nat.le_trans (Below.size E) hlo17
  have hs19 := Below.size e15
  replace E := E.trans e15
  replace hn8 := hn8.ext e15
  replace ha9 := ha9.ext e15
  refine Sq.storeAgg agg26 .plain rfl rfl (one_cons rfl (one_cons (Rows.one hn8) (one_cons (Row.one ha9) one_nil))) hB16 rfl rfl (fun w20 g21 hB22 => ?_)
  have hs23 := World.grownBy.size g21
  replace E := E.grown g21 (fun k hk => by injection hk with hk; subst hk; omega)
  replace hn8 := hn8.stored g21 hB16 (by decide) (by decide)
  replace ha9 := ha9.stored g21 hB16 (by decide)
  replace hB16 := hB22
  refine Sq.nil ?_
  refine Eq.next ?_
  refine Cq.seq ?_
  refine Cq.region ?_
  refine Sq.loadAgg agg26 .plain rfl rfl hB16 rfl ?_
  have hd28 := hB16.lt
  refine Sq.call fn7 .plain rfl rfl (sc_c _ a5 _ _ hn8 ha9) ?_
  rintro v24 w25 ⟨hl27, e26⟩
  have hs29 := Below.size E
  have hs30 := Below.size e26
  replace E := E.trans e26
  replace hn8 := hn8.ext e26
  replace ha9 := ha9.ext e26
  replace hB16 := hB16.ext e26
  refine Sq.assign .plain rfl rfl ?_
  refine Sq.nil ?_
  refine Eq.next ?_
  refine Cq.seq ?_
  refine Cq.seq ?_
  refine Cq.region ?_
  refine Sq.move .plain rfl rfl ?_
  refine Sq.loadAgg agg26 .plain rfl rfl hB16 rfl ?_
  have hd35 := hB16.lt
  refine Sq.call fn9 .plain rfl rfl (sClasses_c _ a5 _ _ hn8 ha9) ?_
  rintro v31 w32 ⟨hl34, e33⟩
  have hs36 := Below.size E
  have hs37 := Below.size e33
  replace E := E.trans e33
  replace ha9 := ha9.ext e33
  replace hB16 := hB16.ext e33
  replace hl27 := hl27.ext e33
  have hd41 := hB16.lt
  refine Sq.call fn8 .plain rfl rfl (agInts_c _ _ _ _ _ (Own.row hl27) (Own.row hl34) (by exact Nat.le_trans clsA_small (by decide))) ?_
  rintro _ w39 ⟨rfl, e40⟩
  have hs42 := Below.size E
  have hs43 := Below.size e40
  replace E := E.trans e40
  replace ha9 := ha9.ext e40
  replace hB16 := hB16.ext e40
  replace hl27 := hl27.ext e40
  refine Sq.beT (beq_self_eq_true _) ?_
  refine Sq.notT .plain rfl rfl ?_
  refine Sq.nil ?_
  refine Eq.next ?_
  refine Cq.els rfl ?_
  refine Cq.skip ?_
  refine Eq.next ?_
  refine Cq.seq ?_
  refine Cq.region ?_
  replace hl27 := Own.row hl27
  have Ew := Ext.refl w39
  refine Sq.assign .plain rfl rfl ?_
  refine Sq.nil ?_
  refine Eq.next ?_
  refine Cq.seq ?_
  refine Cq.seq ?_
  refine Cq.region ?_
  refine Sq.assign .plain rfl rfl ?_
  refine Sq.nil ?_
  refine Eq.next ?_
  refine Cq.block ?_
  have hcs := clsA_small (a := a5)
  refine Cq.loop (fun nn w ls => ∃ (i : Int), ∃ (n : Int), ls = [(3, Value.pointer (some ⟨b13, 0, none⟩)), (4, v24), (5, Value.int .i64 n), (6, Value.int .i64 i)] ∧ (0 ≤ i ∧ i ≤ (clsA a5).length) ∧ n = (newTo a5 i.toNat : Int) ∧ Ext w0 w ∧ Ext w39 w ∧ Blk w b13 26 [Value.int .i64 a5.al, nx6, ac7] ∧ nn = (((clsA a5).length : Int) - i).toNat) _ _ ⟨0, 0, rfl, by omega, rfl, E, Ew, hB16, rfl⟩ (.cons rfl (.cons rfl (.cons rfl (.cons rfl (.nil))))) ?_
  rintro nn wl1 ls ⟨i, n, rfl, hi, hn, E, Ew, hB16, rfl⟩
  have hs44 := Below.size E
  have hs45 := Below.size Ew
  refine Cq.seq ?_
  refine Cq.seq ?_
  refine Cq.region ?_
  refine Sq.move .plain rfl rfl ?_
  refine Sq.move .plain rfl rfl ?_
  refine Sq.lenInts (hl27.ext Ew) .plain rfl und28 rfl ?_
  refine Sq.lss .plain rfl rfl rfl ?_
  refine Sq.part (fun c46 => ?_) (fun c46 => ?_)
  · refine Sq.nil ?_
    refine Eq.next ?_
    refine Cq.thn rfl ?_
    refine Cq.skip ?_
    refine Eq.next ?_
    refine Cq.seq ?_
    refine Cq.block ?_
    refine Cq.seq ?_
    refine Cq.seq ?_
    refine Cq.region ?_
    have hv := clsA_ok (a := a5) (k := i.toNat) (by omega)
    have hcl := clsA_length hv
    have hvs := validA_spec.1 hv
    have hv1 := hvs.2.1
    have hv2 := hvs.2.2.1
    have hco := clsA_order hv (k := i.toNat) (by omega)
    have hnle := newTo_le a5 i.toNat
    refine Sq.move .plain rfl rfl ?_
    refine Sq.move .plain rfl rfl ?_
    refine Sq.idxInts sl28 one3 (hl27.ext Ew) .plain rfl rfl rfl .plain rfl rfl (by omega) (by omega) ?_
    refine Sq.lss .plain rfl rfl rfl ?_
    refine Sq.isF (by omega) ?_
    refine Sq.move .plain rfl rfl ?_
    refine Sq.move (.met rfl rfl rfl) rfl rfl ?_
    refine Sq.move (.met rfl rfl rfl) rfl rfl ?_
    refine Sq.idxInts sl28 one3 (hl27.ext Ew) (.met rfl rfl rfl) rfl rfl rfl (.met rfl rfl rfl) rfl rfl (by omega) (by omega) ?_
    refine Sq.move (.met rfl rfl rfl) rfl rfl ?_
    refine Sq.gtr (.met rfl rfl rfl) rfl rfl rfl ?_
    refine Sq.isF (by omega) ?_
    refine Sq.pickF .plain rfl rfl rfl ?_
    refine Sq.nil ?_
    refine Eq.next ?_
    refine Cq.els rfl ?_
    refine Cq.skip ?_
    refine Eq.next ?_
    refine Cq.seq ?_
    refine Cq.seq ?_
    refine Cq.region ?_
    refine Sq.move .plain rfl rfl ?_
    refine Sq.move .plain rfl rfl ?_
    refine Sq.idxInts sl28 one3 (hl27.ext Ew) .plain rfl rfl rfl .plain rfl rfl (by omega) (by omega) ?_
    refine Sq.move .plain rfl rfl ?_
    refine Sq.eql .plain rfl rfl rfl ?_
    refine Sq.part (fun hn1 => ?_) (fun hn1 => ?_)
    · refine Sq.nil ?_
      refine Eq.next ?_
      refine Cq.thn rfl ?_
      refine Cq.region ?_
      refine Sq.move .plain rfl rfl ?_
      refine Sq.add .plain rfl rfl rfl (by omega) ?_
      refine Sq.assign .plain rfl rfl ?_
      refine Sq.nil ?_
      refine Eq.next ?_
      refine Cq.seq ?_
      refine Cq.region ?_
      refine Sq.assign .plain rfl rfl ?_
      refine Sq.nil ?_
      refine Eq.next ?_
      refine Cq.block ?_
      refine Cq.loop (fun nn w ls => ∃ (j : Int), ls = [(3, Value.pointer (some ⟨b13, 0, none⟩)), (4, v24), (5, Value.int .i64 (n + 1)), (6, Value.int .i64 i), (7, Value.int .i64 j)] ∧ (0 ≤ j ∧ j ≤ i) ∧ Ext w0 w ∧ Ext w39 w ∧ Blk w b13 26 [Value.int .i64 a5.al, nx6, ac7] ∧ nn = (i - j).toNat) _ _ ⟨0, rfl, by omega, E, Ew, hB16, rfl⟩ (.cons rfl (.cons rfl (.cons rfl (.cons rfl (.cons rfl (.nil)))))) ?_
      rintro nn wl2 ls ⟨j, rfl, hj, E, Ew, hB16, rfl⟩
      have hs47 := Below.size E
      have hs48 := Below.size Ew
      refine Cq.seq ?_
      refine Cq.seq ?_
      refine Cq.region ?_
      refine Sq.move .plain rfl rfl ?_
      refine Sq.move .plain rfl rfl ?_
      refine Sq.lss .plain rfl rfl rfl ?_
      refine Sq.part (fun c49 => ?_) (fun c49 => ?_)
      · refine Sq.nil ?_
        refine Eq.next ?_
        refine Cq.thn rfl ?_
        refine Cq.skip ?_
        refine Eq.next ?_
        refine Cq.seq ?_
        refine Cq.block ?_
        refine Cq.seq ?_
        obtain ⟨phpI, hpI⟩ := Ints.at hl27 (i := i) (by omega) (by omega)
        replace hpI := hpI.ext Ew
        obtain ⟨phpJ, hpJ⟩ := Ints.at hl27 (i := j) (by omega) (by omega)
        replace hpJ := hpJ.ext Ew
        obtain ⟨phpA, hpA⟩ := Bools.at ha9 (i := i) (by omega) (by omega)
        replace hpA := hpA.ext Ew
        obtain ⟨phpB, hpB⟩ := Bools.at ha9 (i := j) (by omega) (by omega)
        replace hpB := hpB.ext Ew
        refine Cq.drawS 22 (fun w' => Blk w' b13 26 [Value.int .i64 a5.al, nx6, ac7] ∧ At w' 3 v24 i phpI (.int .i64 ((clsA a5).getD i.toNat 0)) ∧ At w' 3 v24 j phpJ (.int .i64 ((clsA a5).getD j.toNat 0)) ∧ At w' 4 ac7 i phpA (.bool (a5.acc.getD i.toNat false)) ∧ At w' 4 ac7 j phpB (.bool (a5.acc.getD j.toNat false))) mixed (⟨hB16, hpI, hpJ, hpA, hpB⟩) (fun w50 e51 hS => ?_)
        clear hS
        have hs52 := Below.size e51
        replace E := E.trans e51
        replace Ew := Ew.trans e51
        replace hB16 := hB16.ext e51
        replace hpI := hpI.ext e51
        replace hpJ := hpJ.ext e51
        replace hpA := hpA.ext e51
        replace hpB := hpB.ext e51
        refine Gq.st 0 rfl (by kernel_rfl) rfl .plain rfl (fun _ _ _ h => h) ⟨hB16, hpI, hpJ, hpA, hpB⟩ (fun w' x => Still.move rfl) ?_
        refine Gq.st 1 rfl (by kernel_rfl) rfl .plain rfl (fun _ _ _ h => h) ⟨hB16, hpI, hpJ, hpA, hpB⟩ (fun w' x => Still.move rfl) ?_
        refine Gq.st 2 rfl (by kernel_rfl) rfl .plain rfl (fun _ _ _ h => h) ⟨hB16, hpI, hpJ, hpA, hpB⟩ (fun w' x => Still.at' sl28 hpI rfl rfl) ?_
        refine Gq.st 3 rfl (by kernel_rfl) rfl .plain rfl (fun _ _ _ h => h) ⟨hB16, hpI, hpJ, hpA, hpB⟩ (fun w' x => Still.loadA one3 rfl (x.2.1).1) ?_
        refine Gq.st 4 rfl (by kernel_rfl) rfl .plain rfl (fun _ _ _ h => h) ⟨hB16, hpI, hpJ, hpA, hpB⟩ (fun w' x => Still.move rfl) ?_
        refine Gq.st 5 rfl (by kernel_rfl) rfl .plain rfl (fun _ _ _ h => h) ⟨hB16, hpI, hpJ, hpA, hpB⟩ (fun w' x => Still.move rfl) ?_
        refine Gq.st 6 rfl (by kernel_rfl) rfl .plain rfl (fun _ _ _ h => h) ⟨hB16, hpI, hpJ, hpA, hpB⟩ (fun w' x => Still.at' sl28 hpJ rfl rfl) ?_
        refine Gq.st 7 rfl (by kernel_rfl) rfl .plain rfl (fun _ _ _ h => h) ⟨hB16, hpI, hpJ, hpA, hpB⟩ (fun w' x => Still.loadA one3 rfl (x.2.2.1).1) ?_
        refine Gq.st 8 rfl (by kernel_rfl) rfl .plain rfl (fun _ _ _ h => h) ⟨hB16, hpI, hpJ, hpA, hpB⟩ (fun w' x => Still.eql rfl rfl) ?_
        refine Gq.part (fun he => ?_) (fun he => ?_)
        · refine Gq.st 9 rfl (by kernel_rfl) rfl .plain rfl (fun _ _ _ h => h) ⟨hB16, hpI, hpJ, hpA, hpB⟩ (fun w' x => Still.move rfl) ?_
          refine Gq.st 10 rfl (by kernel_rfl) rfl (.met rfl rfl rfl) rfl (fun _ _ _ h => h) ⟨hB16, hpI, hpJ, hpA, hpB⟩ (fun w' x => Still.fieldAddr fld26_2 rfl) ?_
          refine Gq.st 11 rfl (by kernel_rfl) rfl (.met rfl rfl rfl) rfl (fun _ _ _ h => h) ⟨hB16, hpI, hpJ, hpA, hpB⟩ (fun w' x => Still.loadB one24 rfl x.1 rfl) ?_
          refine Gq.st 12 rfl (by kernel_rfl) rfl (.met rfl rfl rfl) rfl (fun _ _ _ h => h) ⟨hB16, hpI, hpJ, hpA, hpB⟩ (fun w' x => Still.move rfl) ?_
          refine Gq.st 13 rfl (by kernel_rfl) rfl (.met rfl rfl rfl) rfl (fun _ _ _ h => h) ⟨hB16, hpI, hpJ, hpA, hpB⟩ (fun w' x => Still.at' sl24 hpA rfl rfl) ?_
          refine Gq.st 14 rfl (by kernel_rfl) rfl (.met rfl rfl rfl) rfl (fun _ _ _ h => h) ⟨hB16, hpI, hpJ, hpA, hpB⟩ (fun w' x => Still.loadA one4 rfl (x.2.2.2.1).1) ?_
          refine Gq.st 15 rfl (by kernel_rfl) rfl (.met rfl rfl rfl) rfl (fun _ _ _ h => h) ⟨hB16, hpI, hpJ, hpA, hpB⟩ (fun w' x => Still.fieldAddr fld26_2 rfl) ?_
          refine Gq.st 16 rfl (by kernel_rfl) rfl (.met rfl rfl rfl) rfl (fun _ _ _ h => h) ⟨hB16, hpI, hpJ, hpA, hpB⟩ (fun w' x => Still.loadB one24 rfl x.1 rfl) ?_
          refine Gq.st 17 rfl (by kernel_rfl) rfl (.met rfl rfl rfl) rfl (fun _ _ _ h => h) ⟨hB16, hpI, hpJ, hpA, hpB⟩ (fun w' x => Still.move rfl) ?_
          refine Gq.st 18 rfl (by kernel_rfl) rfl (.met rfl rfl rfl) rfl (fun _ _ _ h => h) ⟨hB16, hpI, hpJ, hpA, hpB⟩ (fun w' x => Still.at' sl24 hpB rfl rfl) ?_
          refine Gq.st 19 rfl (by kernel_rfl) rfl (.met rfl rfl rfl) rfl (fun _ _ _ h => h) ⟨hB16, hpI, hpJ, hpA, hpB⟩ (fun w' x => Still.loadA one4 rfl (x.2.2.2.2).1) ?_
          refine Gq.st 20 rfl (by kernel_rfl) rfl (.met rfl rfl rfl) rfl (fun _ _ _ h => h) ⟨hB16, hpI, hpJ, hpA, hpB⟩ (fun w' x => Still.neqB und4 rfl rfl) ?_
          refine Gq.beF (by rw [clsA_acc hv ⟨by omega, by omega⟩ ⟨by omega, by omega⟩ he]; simp) ?_
          refine Gq.st 21 rfl (by kernel_rfl) rfl .plain rfl (fun _ _ _ h => h) ⟨hB16, hpI, hpJ, hpA, hpB⟩ (fun w' x => Still.pickT rfl rfl) ?_
          refine Gq.done (by kernel_rfl) ?_
          refine Eq.next ?_
          refine Cq.els rfl ?_
          refine Cq.skip ?_
          refine Eq.end ?_
          refine Eq.next ?_
          refine Cq.region ?_
          refine Sq.move .plain rfl rfl ?_
          refine Sq.add .plain rfl rfl rfl (by omega) ?_
          refine Sq.assign .plain rfl rfl ?_
          refine Sq.nil ?_
          refine Eq.round _ _ ⟨j + 1, rfl, by omega, E, Ew, hB16, rfl⟩ (by omega) (.cons rfl (.cons rfl (.cons rfl (.cons rfl (.cons rfl (.nil))))))
        refine Gq.st 9 rfl (by kernel_rfl) rfl .plain rfl (fun _ _ _ h => h) ⟨hB16, hpI, hpJ, hpA, hpB⟩ (fun w' x => Still.move rfl) ?_
        refine Gq.off 10 rfl (by kernel_rfl) rfl rfl rfl rfl rfl rfl (fun _ _ _ h => h) ⟨hB16, hpI, hpJ, hpA, hpB⟩ ?_
        refine Gq.off 11 rfl (by kernel_rfl) rfl rfl rfl rfl rfl rfl (fun _ _ _ h => h) ⟨hB16, hpI, hpJ, hpA, hpB⟩ ?_
        refine Gq.off 12 rfl (by kernel_rfl) rfl rfl rfl rfl rfl rfl (fun _ _ _ h => h) ⟨hB16, hpI, hpJ, hpA, hpB⟩ ?_
        refine Gq.off 13 rfl (by kernel_rfl) rfl rfl rfl rfl rfl rfl (fun _ _ _ h => h) ⟨hB16, hpI, hpJ, hpA, hpB⟩ ?_
        refine Gq.off 14 rfl (by kernel_rfl) rfl rfl rfl rfl rfl rfl (fun _ _ _ h => h) ⟨hB16, hpI, hpJ, hpA, hpB⟩ ?_
        refine Gq.off 15 rfl (by kernel_rfl) rfl rfl rfl rfl rfl rfl (fun _ _ _ h => h) ⟨hB16, hpI, hpJ, hpA, hpB⟩ ?_
        refine Gq.off 16 rfl (by kernel_rfl) rfl rfl rfl rfl rfl rfl (fun _ _ _ h => h) ⟨hB16, hpI, hpJ, hpA, hpB⟩ ?_
        refine Gq.off 17 rfl (by kernel_rfl) rfl rfl rfl rfl rfl rfl (fun _ _ _ h => h) ⟨hB16, hpI, hpJ, hpA, hpB⟩ ?_
        refine Gq.off 18 rfl (by kernel_rfl) rfl rfl rfl rfl rfl rfl (fun _ _ _ h => h) ⟨hB16, hpI, hpJ, hpA, hpB⟩ ?_
        refine Gq.off 19 rfl (by kernel_rfl) rfl rfl rfl rfl rfl rfl (fun _ _ _ h => h) ⟨hB16, hpI, hpJ, hpA, hpB⟩ ?_
        refine Gq.off 20 rfl (by kernel_rfl) rfl rfl rfl rfl rfl rfl (fun _ _ _ h => h) ⟨hB16, hpI, hpJ, hpA, hpB⟩ ?_
        refine Gq.st 21 rfl (by kernel_rfl) rfl .plain rfl (fun _ _ _ h => h) ⟨hB16, hpI, hpJ, hpA, hpB⟩ (fun w' x => Still.pickF rfl rfl) ?_
        refine Gq.done (by kernel_rfl) ?_
        refine Eq.next ?_
        refine Cq.els rfl ?_
        refine Cq.skip ?_
        refine Eq.end ?_
        refine Eq.next ?_
        refine Cq.region ?_
        refine Sq.move .plain rfl rfl ?_
        refine Sq.add .plain rfl rfl rfl (by omega) ?_
        refine Sq.assign .plain rfl rfl ?_
        refine Sq.nil ?_
        refine Eq.round _ _ ⟨j + 1, rfl, by omega, E, Ew, hB16, rfl⟩ (by omega) (.cons rfl (.cons rfl (.cons rfl (.cons rfl (.cons rfl (.nil))))))
      refine Sq.nil ?_
      refine Eq.next ?_
      refine Cq.els rfl ?_
      refine Cq.exit ?_
      refine Eq.past ?_
      refine Eq.past ?_
      refine Eq.hit ?_
      refine Eq.end ?_
      refine Eq.next ?_
      refine Cq.region ?_
      refine Sq.move .plain rfl rfl ?_
      refine Sq.add .plain rfl rfl rfl (by omega) ?_
      refine Sq.assign .plain rfl rfl ?_
      refine Sq.nil ?_
      have e1 := toNat_succ hi.1
      have h3 := hco.2.2
      rw [if_pos (by omega)] at h3
      refine Eq.round _ _ ⟨i + 1, _, rfl, by omega, by rw [e1, h3]; omega, E, Ew, hB16, rfl⟩ (by omega) (.cons rfl (.cons rfl (.cons rfl (.cons rfl (.nil)))))
    refine Sq.nil ?_
    refine Eq.next ?_
    refine Cq.els rfl ?_
    refine Cq.skip ?_
    refine Eq.next ?_
    refine Cq.seq ?_
    refine Cq.region ?_
    refine Sq.assign .plain rfl rfl ?_
    refine Sq.nil ?_
    refine Eq.next ?_
    refine Cq.block ?_
    refine Cq.loop (fun nn w ls => ∃ (j : Int), ls = [(3, Value.pointer (some ⟨b13, 0, none⟩)), (4, v24), (5, Value.int .i64 n), (6, Value.int .i64 i), (7, Value.int .i64 j)] ∧ (0 ≤ j ∧ j ≤ i) ∧ Ext w0 w ∧ Ext w39 w ∧ Blk w b13 26 [Value.int .i64 a5.al, nx6, ac7] ∧ nn = (i - j).toNat) _ _ ⟨0, rfl, by omega, E, Ew, hB16, rfl⟩ (.cons rfl (.cons rfl (.cons rfl (.cons rfl (.cons rfl (.nil)))))) ?_
    rintro nn wl2 ls ⟨j, rfl, hj, E, Ew, hB16, rfl⟩
    have hs53 := Below.size E
    have hs54 := Below.size Ew
    refine Cq.seq ?_
    refine Cq.seq ?_
    refine Cq.region ?_
    refine Sq.move .plain rfl rfl ?_
    refine Sq.move .plain rfl rfl ?_
    refine Sq.lss .plain rfl rfl rfl ?_
    refine Sq.part (fun c55 => ?_) (fun c55 => ?_)
    · refine Sq.nil ?_
      refine Eq.next ?_
      refine Cq.thn rfl ?_
      refine Cq.skip ?_
      refine Eq.next ?_
      refine Cq.seq ?_
      refine Cq.block ?_
      refine Cq.seq ?_
      obtain ⟨phpI, hpI⟩ := Ints.at hl27 (i := i) (by omega) (by omega)
      replace hpI := hpI.ext Ew
      obtain ⟨phpJ, hpJ⟩ := Ints.at hl27 (i := j) (by omega) (by omega)
      replace hpJ := hpJ.ext Ew
      obtain ⟨phpA, hpA⟩ := Bools.at ha9 (i := i) (by omega) (by omega)
      replace hpA := hpA.ext Ew
      obtain ⟨phpB, hpB⟩ := Bools.at ha9 (i := j) (by omega) (by omega)
      replace hpB := hpB.ext Ew
      refine Cq.drawS 22 (fun w' => Blk w' b13 26 [Value.int .i64 a5.al, nx6, ac7] ∧ At w' 3 v24 i phpI (.int .i64 ((clsA a5).getD i.toNat 0)) ∧ At w' 3 v24 j phpJ (.int .i64 ((clsA a5).getD j.toNat 0)) ∧ At w' 4 ac7 i phpA (.bool (a5.acc.getD i.toNat false)) ∧ At w' 4 ac7 j phpB (.bool (a5.acc.getD j.toNat false))) mixed (⟨hB16, hpI, hpJ, hpA, hpB⟩) (fun w56 e57 hS => ?_)
      clear hS
      have hs58 := Below.size e57
      replace E := E.trans e57
      replace Ew := Ew.trans e57
      replace hB16 := hB16.ext e57
      replace hpI := hpI.ext e57
      replace hpJ := hpJ.ext e57
      replace hpA := hpA.ext e57
      replace hpB := hpB.ext e57
      refine Gq.st 0 rfl (by kernel_rfl) rfl .plain rfl (fun _ _ _ h => h) ⟨hB16, hpI, hpJ, hpA, hpB⟩ (fun w' x => Still.move rfl) ?_
      refine Gq.st 1 rfl (by kernel_rfl) rfl .plain rfl (fun _ _ _ h => h) ⟨hB16, hpI, hpJ, hpA, hpB⟩ (fun w' x => Still.move rfl) ?_
      refine Gq.st 2 rfl (by kernel_rfl) rfl .plain rfl (fun _ _ _ h => h) ⟨hB16, hpI, hpJ, hpA, hpB⟩ (fun w' x => Still.at' sl28 hpI rfl rfl) ?_
      refine Gq.st 3 rfl (by kernel_rfl) rfl .plain rfl (fun _ _ _ h => h) ⟨hB16, hpI, hpJ, hpA, hpB⟩ (fun w' x => Still.loadA one3 rfl (x.2.1).1) ?_
      refine Gq.st 4 rfl (by kernel_rfl) rfl .plain rfl (fun _ _ _ h => h) ⟨hB16, hpI, hpJ, hpA, hpB⟩ (fun w' x => Still.move rfl) ?_
      refine Gq.st 5 rfl (by kernel_rfl) rfl .plain rfl (fun _ _ _ h => h) ⟨hB16, hpI, hpJ, hpA, hpB⟩ (fun w' x => Still.move rfl) ?_
      refine Gq.st 6 rfl (by kernel_rfl) rfl .plain rfl (fun _ _ _ h => h) ⟨hB16, hpI, hpJ, hpA, hpB⟩ (fun w' x => Still.at' sl28 hpJ rfl rfl) ?_
      refine Gq.st 7 rfl (by kernel_rfl) rfl .plain rfl (fun _ _ _ h => h) ⟨hB16, hpI, hpJ, hpA, hpB⟩ (fun w' x => Still.loadA one3 rfl (x.2.2.1).1) ?_
      refine Gq.st 8 rfl (by kernel_rfl) rfl .plain rfl (fun _ _ _ h => h) ⟨hB16, hpI, hpJ, hpA, hpB⟩ (fun w' x => Still.eql rfl rfl) ?_
      refine Gq.part (fun he => ?_) (fun he => ?_)
      · refine Gq.st 9 rfl (by kernel_rfl) rfl .plain rfl (fun _ _ _ h => h) ⟨hB16, hpI, hpJ, hpA, hpB⟩ (fun w' x => Still.move rfl) ?_
        refine Gq.st 10 rfl (by kernel_rfl) rfl (.met rfl rfl rfl) rfl (fun _ _ _ h => h) ⟨hB16, hpI, hpJ, hpA, hpB⟩ (fun w' x => Still.fieldAddr fld26_2 rfl) ?_
        refine Gq.st 11 rfl (by kernel_rfl) rfl (.met rfl rfl rfl) rfl (fun _ _ _ h => h) ⟨hB16, hpI, hpJ, hpA, hpB⟩ (fun w' x => Still.loadB one24 rfl x.1 rfl) ?_
        refine Gq.st 12 rfl (by kernel_rfl) rfl (.met rfl rfl rfl) rfl (fun _ _ _ h => h) ⟨hB16, hpI, hpJ, hpA, hpB⟩ (fun w' x => Still.move rfl) ?_
        refine Gq.st 13 rfl (by kernel_rfl) rfl (.met rfl rfl rfl) rfl (fun _ _ _ h => h) ⟨hB16, hpI, hpJ, hpA, hpB⟩ (fun w' x => Still.at' sl24 hpA rfl rfl) ?_
        refine Gq.st 14 rfl (by kernel_rfl) rfl (.met rfl rfl rfl) rfl (fun _ _ _ h => h) ⟨hB16, hpI, hpJ, hpA, hpB⟩ (fun w' x => Still.loadA one4 rfl (x.2.2.2.1).1) ?_
        refine Gq.st 15 rfl (by kernel_rfl) rfl (.met rfl rfl rfl) rfl (fun _ _ _ h => h) ⟨hB16, hpI, hpJ, hpA, hpB⟩ (fun w' x => Still.fieldAddr fld26_2 rfl) ?_
        refine Gq.st 16 rfl (by kernel_rfl) rfl (.met rfl rfl rfl) rfl (fun _ _ _ h => h) ⟨hB16, hpI, hpJ, hpA, hpB⟩ (fun w' x => Still.loadB one24 rfl x.1 rfl) ?_
        refine Gq.st 17 rfl (by kernel_rfl) rfl (.met rfl rfl rfl) rfl (fun _ _ _ h => h) ⟨hB16, hpI, hpJ, hpA, hpB⟩ (fun w' x => Still.move rfl) ?_
        refine Gq.st 18 rfl (by kernel_rfl) rfl (.met rfl rfl rfl) rfl (fun _ _ _ h => h) ⟨hB16, hpI, hpJ, hpA, hpB⟩ (fun w' x => Still.at' sl24 hpB rfl rfl) ?_
        refine Gq.st 19 rfl (by kernel_rfl) rfl (.met rfl rfl rfl) rfl (fun _ _ _ h => h) ⟨hB16, hpI, hpJ, hpA, hpB⟩ (fun w' x => Still.loadA one4 rfl (x.2.2.2.2).1) ?_
        refine Gq.st 20 rfl (by kernel_rfl) rfl (.met rfl rfl rfl) rfl (fun _ _ _ h => h) ⟨hB16, hpI, hpJ, hpA, hpB⟩ (fun w' x => Still.neqB und4 rfl rfl) ?_
        refine Gq.beF (by rw [clsA_acc hv ⟨by omega, by omega⟩ ⟨by omega, by omega⟩ he]; simp) ?_
        refine Gq.st 21 rfl (by kernel_rfl) rfl .plain rfl (fun _ _ _ h => h) ⟨hB16, hpI, hpJ, hpA, hpB⟩ (fun w' x => Still.pickT rfl rfl) ?_
        refine Gq.done (by kernel_rfl) ?_
        refine Eq.next ?_
        refine Cq.els rfl ?_
        refine Cq.skip ?_
        refine Eq.end ?_
        refine Eq.next ?_
        refine Cq.region ?_
        refine Sq.move .plain rfl rfl ?_
        refine Sq.add .plain rfl rfl rfl (by omega) ?_
        refine Sq.assign .plain rfl rfl ?_
        refine Sq.nil ?_
        refine Eq.round _ _ ⟨j + 1, rfl, by omega, E, Ew, hB16, rfl⟩ (by omega) (.cons rfl (.cons rfl (.cons rfl (.cons rfl (.cons rfl (.nil))))))
      refine Gq.st 9 rfl (by kernel_rfl) rfl .plain rfl (fun _ _ _ h => h) ⟨hB16, hpI, hpJ, hpA, hpB⟩ (fun w' x => Still.move rfl) ?_
      refine Gq.off 10 rfl (by kernel_rfl) rfl rfl rfl rfl rfl rfl (fun _ _ _ h => h) ⟨hB16, hpI, hpJ, hpA, hpB⟩ ?_
      refine Gq.off 11 rfl (by kernel_rfl) rfl rfl rfl rfl rfl rfl (fun _ _ _ h => h) ⟨hB16, hpI, hpJ, hpA, hpB⟩ ?_
      refine Gq.off 12 rfl (by kernel_rfl) rfl rfl rfl rfl rfl rfl (fun _ _ _ h => h) ⟨hB16, hpI, hpJ, hpA, hpB⟩ ?_
      refine Gq.off 13 rfl (by kernel_rfl) rfl rfl rfl rfl rfl rfl (fun _ _ _ h => h) ⟨hB16, hpI, hpJ, hpA, hpB⟩ ?_
      refine Gq.off 14 rfl (by kernel_rfl) rfl rfl rfl rfl rfl rfl (fun _ _ _ h => h) ⟨hB16, hpI, hpJ, hpA, hpB⟩ ?_
      refine Gq.off 15 rfl (by kernel_rfl) rfl rfl rfl rfl rfl rfl (fun _ _ _ h => h) ⟨hB16, hpI, hpJ, hpA, hpB⟩ ?_
      refine Gq.off 16 rfl (by kernel_rfl) rfl rfl rfl rfl rfl rfl (fun _ _ _ h => h) ⟨hB16, hpI, hpJ, hpA, hpB⟩ ?_
      refine Gq.off 17 rfl (by kernel_rfl) rfl rfl rfl rfl rfl rfl (fun _ _ _ h => h) ⟨hB16, hpI, hpJ, hpA, hpB⟩ ?_
      refine Gq.off 18 rfl (by kernel_rfl) rfl rfl rfl rfl rfl rfl (fun _ _ _ h => h) ⟨hB16, hpI, hpJ, hpA, hpB⟩ ?_
      refine Gq.off 19 rfl (by kernel_rfl) rfl rfl rfl rfl rfl rfl (fun _ _ _ h => h) ⟨hB16, hpI, hpJ, hpA, hpB⟩ ?_
      refine Gq.off 20 rfl (by kernel_rfl) rfl rfl rfl rfl rfl rfl (fun _ _ _ h => h) ⟨hB16, hpI, hpJ, hpA, hpB⟩ ?_
      refine Gq.st 21 rfl (by kernel_rfl) rfl .plain rfl (fun _ _ _ h => h) ⟨hB16, hpI, hpJ, hpA, hpB⟩ (fun w' x => Still.pickF rfl rfl) ?_
      refine Gq.done (by kernel_rfl) ?_
      refine Eq.next ?_
      refine Cq.els rfl ?_
      refine Cq.skip ?_
      refine Eq.end ?_
      refine Eq.next ?_
      refine Cq.region ?_
      refine Sq.move .plain rfl rfl ?_
      refine Sq.add .plain rfl rfl rfl (by omega) ?_
      refine Sq.assign .plain rfl rfl ?_
      refine Sq.nil ?_
      refine Eq.round _ _ ⟨j + 1, rfl, by omega, E, Ew, hB16, rfl⟩ (by omega) (.cons rfl (.cons rfl (.cons rfl (.cons rfl (.cons rfl (.nil))))))
    refine Sq.nil ?_
    refine Eq.next ?_
    refine Cq.els rfl ?_
    refine Cq.exit ?_
    refine Eq.past ?_
    refine Eq.past ?_
    refine Eq.hit ?_
    refine Eq.end ?_
    refine Eq.next ?_
    refine Cq.region ?_
    refine Sq.move .plain rfl rfl ?_
    refine Sq.add .plain rfl rfl rfl (by omega) ?_
    refine Sq.assign .plain rfl rfl ?_
    refine Sq.nil ?_
    have e1 := toNat_succ hi.1
    have h3 := hco.2.2
    rw [if_neg (by omega)] at h3
    refine Eq.round _ _ ⟨i + 1, _, rfl, by omega, by rw [e1, h3]; omega, E, Ew, hB16, rfl⟩ (by omega) (.cons rfl (.cons rfl (.cons rfl (.cons rfl (.nil)))))
  refine Sq.nil ?_
  refine Eq.next ?_
  refine Cq.els rfl ?_
  refine Cq.exit ?_
  refine Eq.past ?_
  refine Eq.past ?_
  refine Eq.hit ?_
  refine Eq.next ?_
  refine Cq.seq ?_
  refine Cq.region ?_
  refine Sq.assign .plain rfl rfl ?_
  refine Sq.nil ?_
  refine Eq.next ?_
  refine Cq.ret ?_
  refine Eq.ret1 rfl rfl ?_
  exact ⟨rfl, E⟩
end Go.Proofs.YtoboklelbbgcnaaDoor
set_option linter.unusedSimpArgs false
set_option linter.unusedVariables false
namespace Go.Proofs.YtoboklelbbgcnaaDoor
open Go.RowKit
def IsRow (k : IntKind) (w : World) (a : Option Addr) (len cap : Nat) (zs : List Int) : Prop :=
  (a = none ∧ len = 0 ∧ cap = 0 ∧ zs = []) ∨
  ∃ x, a = some x ∧ len ≤ cap ∧ cap ≤ maxLen ∧ zs.length = cap ∧ (∀ i, i < zs.length → w.cell? (x.add i) = some (.int k (zs.getD i 0))) ∧ ∀ n ∈ zs, (Lit.int k n).wf = true
theorem wf8 {n : Int} (h : (Lit.int .u8 n).wf = true) : 0 ≤ n ∧ n ≤ 255 := by
  simp [Lit.wf, IntKind.min, IntKind.max, IntKind.signed, IntKind.bits] at h
  omega
theorem bytes_of {w : World} {a : Option Addr} {len cap : Nat} {zs : List Int} (h : IsRow .u8 w a len cap zs) : ∃ e xs, len = List.length xs ∧ Bytes w e (.slice a xs.length cap) xs ∧ xs.length ≤ cap := by
  rcases h with ⟨rfl, rfl, rfl, rfl⟩ | ⟨x, rfl, hl, hm, hz, hcell, hwz⟩
  · exact ⟨0, [], rfl, .inl ⟨rfl, none, 0, rfl, fun _ => rfl⟩, Nat.le_refl _⟩
  · rcases Nat.eq_zero_or_pos len with h0 | h0
    · subst h0
      exact ⟨0, [], rfl, .inl ⟨rfl, some x, cap, rfl, fun h => by cases h⟩, Nat.zero_le _⟩
    · obtain ⟨b, o, s⟩ := x
      have hc := hcell 0 (by omega)
      have hs : s = none := by simpa [Addr.add] using World.cell?_spot hc
      subst hs
      have hb : ∃ cur e fr, w.heap[b]? = some (.cells cur e fr) := by
        rw [addr_add] at hc
        unfold World.cell? at hc
        simp only at hc
        cases hw : w.heap[b]? with
        | none => rw [hw] at hc; simp at hc
        | some ob =>
          rw [hw] at hc
          cases ob <;> simp at hc
          rename_i cur e fr
          exact ⟨cur, e, fr, rfl⟩
      obtain ⟨cur, e, fr, hb⟩ := hb
      have hlen : ((zs.take len).map fun z => UInt8.ofNat z.toNat).length = len := by simp; omega
      refine ⟨e, (zs.take len).map fun z => UInt8.ofNat z.toNat, hlen.symm, .inr ⟨b, o, cap, cur, fr, by simp, hb, fun i y hy => ?_⟩, by omega⟩
      have hi : i < len := by
        have := (List.getElem?_eq_some_iff.1 hy).1
        simp at this; omega
      have hi2 : i < zs.length := by omega
      have h1 := hcell i hi2
      rw [addr_add] at h1
      have h2 : y = .int .u8 (zs.getD i 0) := by
        have hw := wf8 (hwz _ (List.getElem_mem hi2))
        have e2 := u8_of hw
        simp [List.getElem?_take, hi, hi2] at hy
        rw [← hy]
        simp [hi2]
        omega
      rw [h2]
      simpa [World.cell?, hb] using h1
end Go.Proofs.YtoboklelbbgcnaaDoor
