/-
  The texts of this proof, joined (wip/merge.py): the calculus of slots, plain mathematics, walks.
-/
import Derived.Test.YtoboklelbbgcnaaGd4
set_option linter.unusedSimpArgs false
set_option linter.unusedVariables false
namespace Go.Proofs.Ytoboklelbbgcnaa
open Go.RowKit
set_option maxHeartbeats 1000000 in
set_option maxRecDepth 100000 in
theorem l4Nexts_c (w0 : World) (aa : List A) (av sv : Value) (ss : List Int) (lt kd gl : Int) (hN : NetA w0 26 55 3 4 av aa) (hS : Ints w0 3 sv ss) (r u : Value) (st : List Int) (hr : Ints w0 3 r (szs aa)) (hu : Ints w0 3 u st) (hok : NetOk aa) (hst : StOk (szs aa) st) (hsl : st.length = aa.length) (x : Int) (hx : 0 ≤ x ∧ x < 6) : Ret Try.prog 109 #[Value.agg #[Value.slice none 0 0, av, sv, Value.int .i64 lt, Value.int .i64 kd, Value.int .i64 gl], r, u, Value.int .i64 x] w0 (fun v w => Own w w0.heap.size 3 v [Value.int .i64 (encTo (szs aa) (goL aa st x) aa.length)] ∧ Ext w0 w) := by
  have E := Ext.refl w0
  have hlen := hok.1
  have hzl := szs_length aa
  refine Ret.of (args := [Value.agg #[Value.slice none 0 0, av, sv, Value.int .i64 lt, Value.int .i64 kd, Value.int .i64 gl], r, u, Value.int .i64 x]) Try.func109 rfl rfl rfl ?_
  rintro _ rfl
  show Cq _ _ _ _ [(0, Value.agg #[Value.slice none 0 0, av, sv, Value.int .i64 lt, Value.int .i64 kd, Value.int .i64 gl]), (1, r), (2, u), (3, Value.int .i64 x)] _
  refine Cq.seq ?_
  refine Cq.region ?_
  refine Sq.box .plain rfl rfl (fun b1 w2 e3 hB4 hlo5 => ?_)
  have hd6 := Nat.le_trans (Below.size E) hlo5
  have hs7 := Below.size e3
  replace E := E.trans e3
  refine Sq.assign .plain rfl rfl ?_
  refine Sq.nil ?_
  refine Eq.next ?_
  refine Cq.seq ?_
  refine Cq.region ?_
  refine Sq.lit sl55 rfl rfl .plain rfl rfl (one_cons rfl one_nil) (fun b8 w9 e10 hlo11 ho12 _ => ?_)
  replace ho12 := ho12 w2.heap.size (Nat.le_refl _)
  have hs14 := Below.size e10
  replace E := E.trans e10
  replace hB4 := hB4.ext e10
  refine Sq.assign .plain rfl rfl ?_
  refine Sq.nil ?_
  refine Eq.next ?_
  refine Cq.seq ?_
  refine Cq.seq ?_
  refine Cq.region ?_
  refine Sq.assign .plain rfl rfl ?_
  refine Sq.nil ?_
  refine Eq.next ?_
  refine Cq.block ?_
  refine Cq.loop (fun nn w ls => ∃ (k : Int), ∃ (ov : Value), ls = [(1, r), (2, u), (3, Value.int .i64 x), (4, Value.pointer (some ⟨b1, 0, none⟩)), (9, ov), (10, Value.int .i64 k)] ∧ (0 ≤ k ∧ k ≤ st.length) ∧ Own w w0.heap.size 3 ov (([(encTo (szs aa) (goL aa st x) k.toNat)] : List Int).map (Value.int .i64)) ∧ Ext w0 w ∧ Blk w b1 70 [Value.slice none 0 0, av, sv, Value.int .i64 lt, Value.int .i64 kd, Value.int .i64 gl] ∧ nn = ((st.length : Int) - k).toNat) _ _ ⟨0, _, rfl, by omega, Own.mono ho12 (by omega), E, hB4, rfl⟩ (.cons rfl (.cons rfl (.cons rfl (.cons rfl (.cons rfl (.cons rfl (.nil))))))) ?_
  rintro nn wl1 ls ⟨k, ov, rfl, hk, ho, E, hB4, rfl⟩
  have hs15 := Below.size E
  have hlow9 := Own.low ho
  refine Cq.seq ?_
  refine Cq.seq ?_
  refine Cq.region ?_
  refine Sq.move .plain rfl rfl ?_
  refine Sq.move .plain rfl rfl ?_
  refine Sq.lenInts (hu.ext E) .plain rfl und55 rfl ?_
  refine Sq.lss .plain rfl rfl rfl ?_
  refine Sq.part (fun c16 => ?_) (fun c16 => ?_)
  · refine Sq.nil ?_
    refine Eq.next ?_
    refine Cq.thn rfl ?_
    refine Cq.skip ?_
    refine Eq.next ?_
    refine Cq.seq ?_
    refine Cq.block ?_
    refine Cq.seq ?_
    obtain ⟨phpA, hpA⟩ := Ints.at hu (i := k) (by omega) (by omega)
    replace hpA := hpA.ext E
    have hstk := st_at hst (k := k.toNat) (by omega)
    have hgk : (goL aa st x).getD k.toNat 0 = _ := goL_at (k := k.toNat) (by omega)
    have hng := net_at hok (k := k.toNat) (by omega)
    refine Cq.drawS 8 (fun w' => Blk w' b1 70 [Value.slice none 0 0, av, sv, Value.int .i64 lt, Value.int .i64 kd, Value.int .i64 gl] ∧ At w' 3 u k phpA (.int .i64 (st.getD k.toNat 0)) ∧ Ext w0 w') mixed (⟨hB4, hpA, E⟩) (fun w17 e18 hS => ?_)
    clear hS
    have hs19 := Below.size e18
    replace E := E.trans e18
    replace hB4 := hB4.ext e18
    replace ho := ho.ext e18
    replace hpA := hpA.ext e18
    refine Gq.st 0 rfl (by kernel_rfl) rfl .plain rfl (fun _ _ _ h => h) ⟨hB4, hpA, E⟩ (fun w' x => Still.loadAgg agg70 rfl x.1 rfl) ?_
    refine Gq.st 1 rfl (by kernel_rfl) rfl .plain rfl (fun _ _ _ h => h) ⟨hB4, hpA, E⟩ (fun w' x => Still.move rfl) ?_
    refine Gq.st 2 rfl (by kernel_rfl) rfl .plain rfl (fun _ _ _ h => h) ⟨hB4, hpA, E⟩ (fun w' x => Still.move rfl) ?_
    refine Gq.st 3 rfl (by kernel_rfl) rfl .plain rfl (fun _ _ _ h => h) ⟨hB4, hpA, E⟩ (fun w' x => Still.move rfl) ?_
    refine Gq.st 4 rfl (by kernel_rfl) rfl .plain rfl (fun _ _ _ h => h) ⟨hB4, hpA, E⟩ (fun w' x => Still.at' sl55 hpA rfl rfl) ?_
    refine Gq.st 5 rfl (by kernel_rfl) rfl .plain rfl (fun _ _ _ h => h) ⟨hB4, hpA, E⟩ (fun w' x => Still.loadA one3 rfl (x.2.1).1) ?_
    refine Gq.st 6 rfl (by kernel_rfl) rfl .plain rfl (fun _ _ _ h => h) ⟨hB4, hpA, E⟩ (fun w' x => Still.move rfl) ?_
    refine Gq.one 7 rfl (by kernel_rfl) ?_
    have hd24 := hB4.lt
    refine Sq.call fn121 .plain rfl rfl (l4Choices_c _ aa av sv ss lt kd gl (hN.ext E) (hS.ext E) hok k (st.getD k.toNat 0) x (by omega) (by first | omega | exact hstk) (by omega)) ?_
    rintro v20 w21 ⟨ho23, e22⟩
    have hs25 := Below.size E
    have hs26 := Below.size e22
    replace E := E.trans e22
    replace hB4 := hB4.ext e22
    replace ho := ho.ext e22
    replace hpA := hpA.ext e22
    replace ho23 : Own w21 w17.heap.size 3 v20 (([goA (aa.getD k.toNat zeroA) (st.getD k.toNat 0) x] : List Int).map (Value.int .i64)) := ho23
    refine Sq.nil ?_
    refine Eq.goes (fun _ => ⟨hB4, hpA, E⟩) ?_
    refine Gq.one 8 rfl (by kernel_rfl) ?_
    refine Sq.assign .plain rfl rfl ?_
    refine Sq.nil ?_
    refine Eq.goes (fun h => absurd h (by decide)) ?_
    refine Gq.done (by kernel_rfl) ?_
    refine Eq.next ?_
    refine Cq.seq ?_
    refine Cq.region ?_
    have hlowC := Own.low ho23
    refine Sq.lit sl55 rfl rfl .plain rfl rfl one_nil (fun b27 w28 e29 hlo30 ho31 _ => ?_)
    replace ho31 := ho31 w21.heap.size (Nat.le_refl _)
    have hs33 := Below.size e29
    replace E := E.trans e29
    replace hB4 := hB4.ext e29
    replace ho := ho.ext e29
    replace ho23 := ho23.ext e29
    refine Sq.assign .plain rfl rfl ?_
    refine Sq.nil ?_
    refine Eq.next ?_
    refine Cq.seq ?_
    refine Cq.seq ?_
    refine Cq.region ?_
    refine Sq.assign .plain rfl rfl ?_
    refine Sq.nil ?_
    refine Eq.next ?_
    refine Cq.block ?_
    refine Cq.loop (fun nn w ls => ∃ (j : Int), ∃ (nv : Value), ls = [(1, r), (2, u), (3, Value.int .i64 x), (4, Value.pointer (some ⟨b1, 0, none⟩)), (9, ov), (10, Value.int .i64 k), (11, v20), (12, nv), (13, Value.int .i64 j)] ∧ (0 ≤ j ∧ j ≤ 1) ∧ (w21.heap.size ≤ w.heap.size) ∧ Own w w21.heap.size 3 nv (if j = 0 then [] else [Value.int .i64 (encTo (szs aa) (goL aa st x) k.toNat * (szs aa).getD k.toNat 0 + goA (aa.getD k.toNat zeroA) (st.getD k.toNat 0) x)]) ∧ Ext w0 w ∧ Blk w b1 70 [Value.slice none 0 0, av, sv, Value.int .i64 lt, Value.int .i64 kd, Value.int .i64 gl] ∧ Own w w0.heap.size 3 ov (([(encTo (szs aa) (goL aa st x) k.toNat)] : List Int).map (Value.int .i64)) ∧ Own w w17.heap.size 3 v20 (([goA (aa.getD k.toNat zeroA) (st.getD k.toNat 0) x] : List Int).map (Value.int .i64)) ∧ nn = (1 - j).toNat) _ _ ⟨0, _, rfl, by omega, by omega, ho31, E, hB4, ho, ho23, rfl⟩ (.cons rfl (.cons rfl (.cons rfl (.cons rfl (.cons rfl (.cons rfl (.cons rfl (.cons rfl (.cons rfl (.nil)))))))))) ?_
    rintro nn wl2 ls ⟨j, nv, rfl, hj, hsz, hnv, E, hB4, ho, ho23, rfl⟩
    have hs34 := Below.size E
    have hl1 : (List.length ([(encTo (szs aa) (goL aa st x) k.toNat)] : List Int) : Int) = 1 := rfl
    refine Cq.seq ?_
    refine Cq.seq ?_
    refine Cq.region ?_
    refine Sq.move .plain rfl rfl ?_
    refine Sq.move .plain rfl rfl ?_
    refine Sq.lenInts (Own.row ho) .plain rfl und55 rfl ?_
    refine Sq.lss .plain rfl rfl rfl ?_
    refine Sq.part (fun c35 => ?_) (fun c35 => ?_)
    · refine Sq.nil ?_
      refine Eq.next ?_
      refine Cq.thn rfl ?_
      refine Cq.skip ?_
      refine Eq.next ?_
      refine Cq.seq ?_
      refine Cq.block ?_
      refine Cq.seq ?_
      refine Cq.region ?_
      refine Sq.assign .plain rfl rfl ?_
      refine Sq.nil ?_
      refine Eq.next ?_
      refine Cq.block ?_
      refine Cq.loop (fun nn w ls => ∃ (m : Int), ∃ (nv2 : Value), ls = [(1, r), (2, u), (3, Value.int .i64 x), (4, Value.pointer (some ⟨b1, 0, none⟩)), (9, ov), (10, Value.int .i64 k), (11, v20), (12, nv2), (13, Value.int .i64 j), (14, Value.int .i64 m)] ∧ (0 ≤ m ∧ m ≤ 1) ∧ (w21.heap.size ≤ w.heap.size) ∧ Own w w21.heap.size 3 nv2 (if m = 0 then [] else [Value.int .i64 (encTo (szs aa) (goL aa st x) k.toNat * (szs aa).getD k.toNat 0 + goA (aa.getD k.toNat zeroA) (st.getD k.toNat 0) x)]) ∧ Ext w0 w ∧ Blk w b1 70 [Value.slice none 0 0, av, sv, Value.int .i64 lt, Value.int .i64 kd, Value.int .i64 gl] ∧ Own w w0.heap.size 3 ov (([(encTo (szs aa) (goL aa st x) k.toNat)] : List Int).map (Value.int .i64)) ∧ Own w w17.heap.size 3 v20 (([goA (aa.getD k.toNat zeroA) (st.getD k.toNat 0) x] : List Int).map (Value.int .i64)) ∧ nn = (1 - m).toNat) _ _ ⟨0, _, rfl, by omega, by omega, by rw [if_pos (by omega)] at hnv; exact hnv, E, hB4, ho, ho23, rfl⟩ (.cons rfl (.cons rfl (.cons rfl (.cons rfl (.cons rfl (.cons rfl (.cons rfl (.cons rfl (.cons rfl (.cons rfl (.nil))))))))))) ?_
      rintro nn wl3 ls ⟨m, nv2, rfl, hm, hsz, hnv, E, hB4, ho, ho23, rfl⟩
      have hs36 := Below.size E
      have heb := enc_bd (szs_ok hok) (goL_ok hok hst hx) (k := k.toNat) (by omega)
      have hsb := st_at (goL_ok hok hst hx) (k := k.toNat) (by omega)
      rw [hgk] at hsb
      have hl2 : (List.length ([goA (aa.getD k.toNat zeroA) (st.getD k.toNat 0) x] : List Int) : Int) = 1 := rfl
      refine Cq.seq ?_
      refine Cq.seq ?_
      refine Cq.region ?_
      refine Sq.move .plain rfl rfl ?_
      refine Sq.move .plain rfl rfl ?_
      refine Sq.lenInts (Own.row ho23) .plain rfl und55 rfl ?_
      refine Sq.lss .plain rfl rfl rfl ?_
      refine Sq.part (fun c37 => ?_) (fun c37 => ?_)
      · refine Sq.nil ?_
        refine Eq.next ?_
        refine Cq.thn rfl ?_
        refine Cq.skip ?_
        refine Eq.next ?_
        refine Cq.seq ?_
        refine Cq.block ?_
        have hj0 : j = 0 := by omega
        have hm0 : m = 0 := by omega
        obtain ⟨phpO, hpO⟩ := Ints.at (xs := [(encTo (szs aa) (goL aa st x) k.toNat)]) (Own.row ho) (i := j) (by omega) (by simp; omega)
        obtain ⟨phpC, hpC⟩ := Ints.at (xs := [goA (aa.getD k.toNat zeroA) (st.getD k.toNat 0) x]) (Own.row ho23) (i := m) (by omega) (by simp; omega)
        obtain ⟨phpS, hpS⟩ := Ints.at hr (i := k) (by omega) (by omega)
        have hlowS := Ints.low hr (by omega)
        replace hpS := hpS.ext E
        rw [show ([(encTo (szs aa) (goL aa st x) k.toNat)] : List Int).getD j.toNat 0 = (encTo (szs aa) (goL aa st x) k.toNat) by rw [hj0]; rfl] at hpO
        rw [show ([goA (aa.getD k.toNat zeroA) (st.getD k.toNat 0) x] : List Int).getD m.toNat 0 = goA (aa.getD k.toNat zeroA) (st.getD k.toNat 0) x by rw [hm0]; rfl] at hpC
        refine Cq.drawS 17 (fun w' => At w' 3 ov j phpO (.int .i64 (encTo (szs aa) (goL aa st x) k.toNat)) ∧ At w' 3 r k phpS (.int .i64 ((szs aa).getD k.toNat 0)) ∧ At w' 3 v20 m phpC (.int .i64 (goA (aa.getD k.toNat zeroA) (st.getD k.toNat 0) x)) ∧ Ext w0 w') mixed (⟨hpO, hpS, hpC, E⟩) (fun w38 e39 hS => ?_)
        clear hS
        have hs40 := Below.size e39
        replace E := E.trans e39
        replace hB4 := hB4.ext e39
        replace ho := ho.ext e39
        replace ho23 := ho23.ext e39
        replace hnv := hnv.ext e39
        replace hpO := hpO.ext e39
        replace hpS := hpS.ext e39
        replace hpC := hpC.ext e39
        refine Gq.st 0 rfl (by kernel_rfl) rfl .plain rfl (fun _ _ _ h => h) ⟨hpO, hpS, hpC, E⟩ (fun w' x => Still.move rfl) ?_
        refine Gq.st 1 rfl (by kernel_rfl) rfl .plain rfl (fun _ _ _ h => h) ⟨hpO, hpS, hpC, E⟩ (fun w' x => Still.move rfl) ?_
        refine Gq.st 2 rfl (by kernel_rfl) rfl .plain rfl (fun _ _ _ h => h) ⟨hpO, hpS, hpC, E⟩ (fun w' x => Still.move rfl) ?_
        refine Gq.st 3 rfl (by kernel_rfl) rfl .plain rfl (fun _ _ _ h => h) ⟨hpO, hpS, hpC, E⟩ (fun w' x => Still.at' sl55 hpO rfl rfl) ?_
        refine Gq.st 4 rfl (by kernel_rfl) rfl .plain rfl (fun _ _ _ h => h) ⟨hpO, hpS, hpC, E⟩ (fun w' x => Still.loadA one3 rfl (x.1).1) ?_
        refine Gq.st 5 rfl (by kernel_rfl) rfl .plain rfl (fun _ _ _ h => h) ⟨hpO, hpS, hpC, E⟩ (fun w' x => Still.move rfl) ?_
        refine Gq.st 6 rfl (by kernel_rfl) rfl .plain rfl (fun _ _ _ h => h) ⟨hpO, hpS, hpC, E⟩ (fun w' x => Still.move rfl) ?_
        refine Gq.st 7 rfl (by kernel_rfl) rfl .plain rfl (fun _ _ _ h => h) ⟨hpO, hpS, hpC, E⟩ (fun w' x => Still.at' sl55 hpS rfl rfl) ?_
        refine Gq.st 8 rfl (by kernel_rfl) rfl .plain rfl (fun _ _ _ h => h) ⟨hpO, hpS, hpC, E⟩ (fun w' x => Still.loadA one3 rfl (x.2.1).1) ?_
        refine Gq.st 9 rfl (by kernel_rfl) rfl .plain rfl (fun _ _ _ h => h) ⟨hpO, hpS, hpC, E⟩ (fun w' x => Still.mul rfl rfl (by omega)) ?_
        refine Gq.st 10 rfl (by kernel_rfl) rfl .plain rfl (fun _ _ _ h => h) ⟨hpO, hpS, hpC, E⟩ (fun w' x => Still.move rfl) ?_
        refine Gq.st 11 rfl (by kernel_rfl) rfl .plain rfl (fun _ _ _ h => h) ⟨hpO, hpS, hpC, E⟩ (fun w' x => Still.move rfl) ?_
        refine Gq.st 12 rfl (by kernel_rfl) rfl .plain rfl (fun _ _ _ h => h) ⟨hpO, hpS, hpC, E⟩ (fun w' x => Still.at' sl55 hpC rfl rfl) ?_
        refine Gq.st 13 rfl (by kernel_rfl) rfl .plain rfl (fun _ _ _ h => h) ⟨hpO, hpS, hpC, E⟩ (fun w' x => Still.loadA one3 rfl (x.2.2.1).1) ?_
        refine Gq.st 14 rfl (by kernel_rfl) rfl .plain rfl (fun _ _ _ h => h) ⟨hpO, hpS, hpC, E⟩ (fun w' x => Still.add rfl rfl (by omega)) ?_
        refine Gq.one 15 rfl (by kernel_rfl) ?_
        refine Sq.lit sl55 rfl rfl .plain rfl rfl (one_cons rfl one_nil) (fun b41 w42 e43 hlo44 ho45 _ => ?_)
        replace ho45 := ho45 w38.heap.size (Nat.le_refl _)
        have hs47 := Below.size e43
        replace E := E.trans e43
        replace hB4 := hB4.ext e43
        replace ho := ho.ext e43
        replace ho23 := ho23.ext e43
        replace hnv := hnv.ext e43
        replace hpO := hpO.ext e43
        replace hpS := hpS.ext e43
        replace hpC := hpC.ext e43
        refine Sq.nil ?_
        refine Eq.goes (fun _ => ⟨hpO, hpS, hpC, E⟩) ?_
        refine Gq.one 16 rfl (by kernel_rfl) ?_
        refine Sq.app sl55 hnv (by omega) (Own.row ho45) (one_cons rfl one_nil) (by first | omega | (split <;> simp)) .plain rfl rfl rfl rfl (fun v48 w49 ho51 g50 => ?_)
        have hs52 := g50.size
        replace E := E.owned hnv g50 (by omega)
        replace hB4 := hB4.owned hnv g50 (by decide)
        replace ho := ho.apart hlow9 hnv g50 (by omega)
        replace ho23 := ho23.apart hlowC hnv g50 (by omega)
        replace hpO := hpO.apart hlow9 hnv g50 (by omega)
        replace hpS := hpS.apart hlowS hnv g50 (by omega)
        replace hpC := hpC.apart hlowC hnv g50 (by omega)
        refine Sq.nil ?_
        refine Eq.goes (fun _ => ⟨hpO, hpS, hpC, E⟩) ?_
        refine Gq.one 17 rfl (by kernel_rfl) ?_
        refine Sq.assign .plain rfl rfl ?_
        refine Sq.nil ?_
        refine Eq.goes (fun h => absurd h (by decide)) ?_
        refine Gq.done (by kernel_rfl) ?_
        refine Eq.end ?_
        refine Eq.next ?_
        refine Cq.region ?_
        refine Sq.move .plain rfl rfl ?_
        refine Sq.add .plain rfl rfl rfl (by omega) ?_
        refine Sq.assign .plain rfl rfl ?_
        refine Sq.nil ?_
        refine Eq.round _ _ ⟨m + 1, _, rfl, by omega, by omega, by rw [if_neg (by omega)]; have h := ho51; rw [if_pos hm0] at h; exact h, E, hB4, ho, ho23, rfl⟩ (by omega) (.cons rfl (.cons rfl (.cons rfl (.cons rfl (.cons rfl (.cons rfl (.cons rfl (.cons rfl (.cons rfl (.cons rfl (.nil)))))))))))
      refine Sq.nil ?_
      refine Eq.next ?_
      refine Cq.els rfl ?_
      refine Cq.exit ?_
      refine Eq.past ?_
      refine Eq.past ?_
      refine Eq.hit ?_
      refine Eq.end ?_
      refine Eq.next ?_
      refine Cq.region ?_
      refine Sq.move .plain rfl rfl ?_
      refine Sq.add .plain rfl rfl rfl (by omega) ?_
      refine Sq.assign .plain rfl rfl ?_
      refine Sq.nil ?_
      have hm1 : m = 1 := by omega
      refine Eq.round _ _ ⟨j + 1, _, rfl, by omega, by omega, by rw [if_neg (by omega)]; rw [if_neg (by omega)] at hnv; exact hnv, E, hB4, ho, ho23, rfl⟩ (by omega) (.cons rfl (.cons rfl (.cons rfl (.cons rfl (.cons rfl (.cons rfl (.cons rfl (.cons rfl (.cons rfl (.nil))))))))))
    refine Sq.nil ?_
    refine Eq.next ?_
    refine Cq.els rfl ?_
    refine Cq.exit ?_
    refine Eq.past ?_
    refine Eq.past ?_
    refine Eq.hit ?_
    refine Eq.next ?_
    refine Cq.region ?_
    refine Sq.move .plain rfl rfl ?_
    refine Sq.assign .plain rfl rfl ?_
    refine Sq.nil ?_
    refine Eq.end ?_
    refine Eq.next ?_
    refine Cq.region ?_
    refine Sq.move .plain rfl rfl ?_
    refine Sq.add .plain rfl rfl rfl (by omega) ?_
    refine Sq.assign .plain rfl rfl ?_
    refine Sq.nil ?_
    have e1 := toNat_succ hk.1
    have hj1 : j = 1 := by omega
    refine Eq.round _ _ ⟨k + 1, _, rfl, by omega, by rw [e1, encTo, hgk]; rw [hj1] at hnv; exact Own.mono hnv (by omega), E, hB4, rfl⟩ (by omega) (.cons rfl (.cons rfl (.cons rfl (.cons rfl (.cons rfl (.cons rfl (.nil)))))))
  refine Sq.nil ?_
  refine Eq.next ?_
  refine Cq.els rfl ?_
  refine Cq.exit ?_
  refine Eq.past ?_
  refine Eq.past ?_
  refine Eq.hit ?_
  refine Eq.next ?_
  refine Cq.seq ?_
  refine Cq.region ?_
  refine Sq.move .plain rfl rfl ?_
  refine Sq.assign .plain rfl rfl ?_
  refine Sq.nil ?_
  refine Eq.next ?_
  refine Cq.ret ?_
  refine Eq.ret1 rfl rfl ?_
  have e2 : k.toNat = aa.length := by omega
  rw [e2] at ho
  exact ⟨ho, E⟩
end Go.Proofs.Ytoboklelbbgcnaa
set_option linter.unusedSimpArgs false
set_option linter.unusedVariables false
namespace Go.Proofs.Ytoboklelbbgcnaa
open Go.RowKit
set_option maxHeartbeats 1000000 in
set_option maxRecDepth 100000 in
theorem l4Moves_c (w0 : World) (aa : List A) (av sv : Value) (ss : List Int) (lt kd gl : Int) (hN : NetA w0 26 55 3 4 av aa) (hS : Ints w0 3 sv ss) (r : Value) (tot : Int) (hr : Ints w0 3 r (szs aa)) (hok : NetOk aa) (ht : tot = total aa) (hal : 0 ≤ lt ∧ lt ≤ 63) : Ret Try.prog 83 #[Value.agg #[Value.slice none 0 0, av, sv, Value.int .i64 lt, Value.int .i64 kd, Value.int .i64 gl], r, Value.int .i64 tot] w0 (fun v w => Read3 w 23 55 3 v (movesN aa (letters lt)) ∧ Ext w0 w) := by
  have E := Ext.refl w0
  have hlen := hok.1
  have hzl := szs_length aa
  have htb := total_bd hok
  have hlet := letters_len6 lt
  refine Ret.of (args := [Value.agg #[Value.slice none 0 0, av, sv, Value.int .i64 lt, Value.int .i64 kd, Value.int .i64 gl], r, Value.int .i64 tot]) Try.func83 rfl rfl rfl ?_
  rintro _ rfl
  show Cq _ _ _ _ [(0, Value.agg #[Value.slice none 0 0, av, sv, Value.int .i64 lt, Value.int .i64 kd, Value.int .i64 gl]), (1, r), (2, Value.int .i64 tot)] _
  refine Cq.seq ?_
  refine Cq.region ?_
  refine Sq.box .plain rfl rfl (fun b1 w2 e3 hB4 hlo5 => ?_)
  have hd6 := Nat.le_trans (Below.size E) hlo5
  have hs7 := Below.size e3
  replace E := E.trans e3
  refine Sq.assign .plain rfl rfl ?_
  refine Sq.nil ?_
  refine Eq.next ?_
  refine Cq.seq ?_
  refine Cq.region ?_
  refine Sq.lit sl86 rfl rfl .plain rfl rfl one_nil (fun b8 w9 e10 hlo11 ho12 _ => ?_)
  have hs13 := Below.size e10
  replace E := E.trans e10
  replace hB4 := hB4.ext e10
  have ho3 := Own3.nil w9 w0.heap.size w9.heap.size 23 55 3 (ho12 w0.heap.size (by omega))
  refine Sq.assign .plain rfl rfl ?_
  refine Sq.nil ?_
  refine Eq.next ?_
  refine Cq.seq ?_
  refine Cq.region ?_
  refine Sq.fieldAddr fld70_3 .plain rfl rfl ?_
  refine Sq.loadB one3 .plain rfl rfl hB4 rfl ?_
  have hd18 := hB4.lt
  refine Sq.call fn81 .plain rfl rfl (l1Letters_c lt (by omega) _) ?_
  rintro v14 w15 ⟨hl17, e16⟩
  have hs19 := Below.size E
  have hs20 := Below.size e16
  replace E := E.trans e16
  replace hB4 := hB4.ext e16
  replace ho3 := ho3.ext e16
  refine Sq.assign .plain rfl rfl ?_
  refine Sq.nil ?_
  refine Eq.next ?_
  refine Cq.seq ?_
  refine Cq.seq ?_
  refine Cq.region ?_
  refine Sq.assign .plain rfl rfl ?_
  refine Sq.nil ?_
  refine Eq.next ?_
  refine Cq.block ?_
  refine Cq.loop (fun nn w ls => ∃ (i : Int), ∃ (ov : Value), ls = [(1, r), (2, Value.int .i64 tot), (3, Value.pointer (some ⟨b1, 0, none⟩)), (7, ov), (8, v14), (9, Value.int .i64 i)] ∧ (0 ≤ i ∧ i ≤ tot) ∧ Own3 w w0.heap.size w.heap.size 23 55 3 ov ((List.range i.toNat).map fun (q : Nat) => (letters lt).map fun x => [fN aa (q : Int) x]) ∧ Ext w0 w ∧ Blk w b1 70 [Value.slice none 0 0, av, sv, Value.int .i64 lt, Value.int .i64 kd, Value.int .i64 gl] ∧ Own w w9.heap.size 3 v14 ((letters lt).map (Value.int .i64)) ∧ nn = (tot - i).toNat) _ _ ⟨0, _, rfl, by omega, Own3.now ho3, E, hB4, hl17, rfl⟩ (.cons rfl (.cons rfl (.cons rfl (.cons rfl (.cons rfl (.cons rfl (.nil))))))) ?_
  rintro nn wl1 ls ⟨i, ov, rfl, hi, ho3, E, hB4, hl17, rfl⟩
  have hs21 := Below.size E
  have hm3 := rfl (a := ((List.range i.toNat).map fun (q : Nat) => (letters lt).map fun x => [fN aa (q : Int) x]))
  refine Cq.seq ?_
  refine Cq.seq ?_
  refine Cq.region ?_
  refine Sq.move .plain rfl rfl ?_
  refine Sq.move .plain rfl rfl ?_
  refine Sq.lss .plain rfl rfl rfl ?_
  refine Sq.part (fun c22 => ?_) (fun c22 => ?_)
  · refine Sq.nil ?_
    refine Eq.next ?_
    refine Cq.thn rfl ?_
    refine Cq.skip ?_
    refine Eq.next ?_
    refine Cq.seq ?_
    refine Cq.block ?_
    refine Cq.seq ?_
    refine Cq.region ?_
    refine Sq.move .plain rfl rfl ?_
    refine Sq.move .plain rfl rfl ?_
    have hd27 := hB4.lt
    refine Sq.call fn85 .plain rfl rfl (l4Decode_c _ (szs aa) _ (hr.ext E) i (szs_ok hok) (by omega)) ?_
    rintro v23 w24 ⟨ho26, e25⟩
    have hs28 := Below.size E
    have hs29 := Below.size e25
    replace E := E.trans e25
    replace hB4 := hB4.ext e25
    replace hl17 := hl17.ext e25
    replace ho3 := ho3.ext e25
    refine Sq.assign .plain rfl rfl ?_
    refine Sq.nil ?_
    refine Eq.next ?_
    refine Cq.seq ?_
    refine Cq.region ?_
    refine Sq.lit sl23 rfl rfl .plain rfl rfl one_nil (fun b30 w31 e32 hlo33 ho34 _ => ?_)
    have hs35 := Below.size e32
    replace E := E.trans e32
    replace hB4 := hB4.ext e32
    replace hl17 := hl17.ext e32
    replace ho3 := ho3.ext e32
    replace ho26 := ho26.ext e32
    have hor := OwnRows.nil' w31 w24.heap.size w31.heap.size 55 3 (ho34 w24.heap.size (Nat.le_refl _))
    refine Sq.assign .plain rfl rfl ?_
    refine Sq.nil ?_
    refine Eq.next ?_
    refine Cq.seq ?_
    refine Cq.seq ?_
    refine Cq.region ?_
    refine Sq.assign .plain rfl rfl ?_
    refine Sq.nil ?_
    refine Eq.next ?_
    refine Cq.block ?_
    refine Cq.loop (fun nn w ls => ∃ (m : Int), ∃ (rv : Value), ls = [(1, r), (2, Value.int .i64 tot), (3, Value.pointer (some ⟨b1, 0, none⟩)), (7, ov), (8, v14), (9, Value.int .i64 i), (10, v23), (11, rv), (12, Value.int .i64 m)] ∧ (0 ≤ m ∧ m ≤ (letters lt).length) ∧ (w24.heap.size ≤ w.heap.size) ∧ OwnRows w w24.heap.size w.heap.size 55 3 rv (((letters lt).take m.toNat).map fun x => [fN aa i x]) ∧ Own3 w w0.heap.size wl1.heap.size 23 55 3 ov ((List.range i.toNat).map fun (q : Nat) => (letters lt).map fun x => [fN aa (q : Int) x]) ∧ Ext w0 w ∧ Blk w b1 70 [Value.slice none 0 0, av, sv, Value.int .i64 lt, Value.int .i64 kd, Value.int .i64 gl] ∧ Own w w9.heap.size 3 v14 ((letters lt).map (Value.int .i64)) ∧ Own w wl1.heap.size 3 v23 ((decL (szs aa) i).map (Value.int .i64)) ∧ nn = (((letters lt).length : Int) - m).toNat) _ _ ⟨0, _, rfl, by omega, by omega, hor, ho3, E, hB4, hl17, ho26, rfl⟩ (.cons rfl (.cons rfl (.cons rfl (.cons rfl (.cons rfl (.cons rfl (.cons rfl (.cons rfl (.cons rfl (.nil)))))))))) ?_
    rintro nn wl2 ls ⟨m, rv, rfl, hm, hsz, hor, ho3, E, hB4, hl17, ho26, rfl⟩
    have hs36 := Below.size E
    refine Cq.seq ?_
    refine Cq.seq ?_
    refine Cq.region ?_
    refine Sq.move .plain rfl rfl ?_
    refine Sq.move .plain rfl rfl ?_
    refine Sq.lenInts (Own.row hl17) .plain rfl und55 rfl ?_
    refine Sq.lss .plain rfl rfl rfl ?_
    refine Sq.part (fun c37 => ?_) (fun c37 => ?_)
    · refine Sq.nil ?_
      refine Eq.next ?_
      refine Cq.thn rfl ?_
      refine Cq.skip ?_
      refine Eq.next ?_
      refine Cq.seq ?_
      refine Cq.block ?_
      have hlx := letters_at lt (k := m.toNat) (by omega)
      obtain ⟨phpL, hpL⟩ := Ints.at (Own.row hl17) (i := m) (by omega) (by omega)
      refine Cq.drawS 11 (fun w' => Blk w' b1 70 [Value.slice none 0 0, av, sv, Value.int .i64 lt, Value.int .i64 kd, Value.int .i64 gl] ∧ At w' 3 v14 m phpL (.int .i64 ((letters lt).getD m.toNat 0))) mixed (⟨hB4, hpL⟩) (fun w38 e39 hS => ?_)
      clear hS
      have hs40 := Below.size e39
      replace E := E.trans e39
      replace hB4 := hB4.ext e39
      replace hl17 := hl17.ext e39
      replace ho26 := ho26.ext e39
      replace hor := hor.ext e39
      replace ho3 := ho3.ext e39
      replace hpL := hpL.ext e39
      refine Gq.st 0 rfl (by kernel_rfl) rfl .plain rfl (fun _ _ _ h => h) ⟨hB4, hpL⟩ (fun w' x => Still.move rfl) ?_
      refine Gq.st 1 rfl (by kernel_rfl) rfl .plain rfl (fun _ _ _ h => h) ⟨hB4, hpL⟩ (fun w' x => Still.loadAgg agg70 rfl x.1 rfl) ?_
      refine Gq.st 2 rfl (by kernel_rfl) rfl .plain rfl (fun _ _ _ h => h) ⟨hB4, hpL⟩ (fun w' x => Still.move rfl) ?_
      refine Gq.st 3 rfl (by kernel_rfl) rfl .plain rfl (fun _ _ _ h => h) ⟨hB4, hpL⟩ (fun w' x => Still.move rfl) ?_
      refine Gq.st 4 rfl (by kernel_rfl) rfl .plain rfl (fun _ _ _ h => h) ⟨hB4, hpL⟩ (fun w' x => Still.move rfl) ?_
      refine Gq.st 5 rfl (by kernel_rfl) rfl .plain rfl (fun _ _ _ h => h) ⟨hB4, hpL⟩ (fun w' x => Still.move rfl) ?_
      refine Gq.st 6 rfl (by kernel_rfl) rfl .plain rfl (fun _ _ _ h => h) ⟨hB4, hpL⟩ (fun w' x => Still.at' sl55 hpL rfl rfl) ?_
      refine Gq.st 7 rfl (by kernel_rfl) rfl .plain rfl (fun _ _ _ h => h) ⟨hB4, hpL⟩ (fun w' x => Still.loadA one3 rfl (x.2).1) ?_
      refine Gq.one 8 rfl (by kernel_rfl) ?_
      have hd45 := hB4.lt
      refine Sq.call fn109 .plain rfl rfl (l4Nexts_c _ aa av sv ss lt kd gl (hN.ext E) (hS.ext E) _ _ ((decL (szs aa) i)) (hr.ext E) (Own.row ho26) hok (decL_ok (szs_ok hok) _) (by rw [decL_length, szs_length]) (((letters lt).getD m.toNat 0)) (by omega)) ?_
      rintro v41 w42 ⟨ho44, e43⟩
      have hs46 := Below.size E
      have hs47 := Below.size e43
      replace E := E.trans e43
      replace hB4 := hB4.ext e43
      replace hl17 := hl17.ext e43
      replace ho26 := ho26.ext e43
      replace hor := hor.ext e43
      replace ho3 := ho3.ext e43
      replace hpL := hpL.ext e43
      replace ho44 : Own w42 w38.heap.size 3 v41 (([fN aa i (((letters lt).getD m.toNat 0))] : List Int).map (Value.int .i64)) := ho44
      refine Sq.nil ?_
      refine Eq.goes (fun _ => ⟨hB4, hpL⟩) ?_
      refine Gq.one 9 rfl (by kernel_rfl) ?_
      refine Sq.lit sl23 rfl rfl .plain rfl rfl (one_cons (Row.one (Own.row ho44)) one_nil) (fun b48 w49 e50 hlo51 ho52 _ => ?_)
      replace ho52 := ho52 w42.heap.size (Nat.le_refl _)
      have hs54 := Below.size e50
      replace E := E.trans e50
      replace hB4 := hB4.ext e50
      replace hl17 := hl17.ext e50
      replace ho26 := ho26.ext e50
      replace hor := hor.ext e50
      replace ho3 := ho3.ext e50
      replace hpL := hpL.ext e50
      replace ho44 := ho44.ext e50
      refine Sq.nil ?_
      refine Eq.goes (fun _ => ⟨hB4, hpL⟩) ?_
      refine Gq.one 10 rfl (by kernel_rfl) ?_
      obtain ⟨rs59, q60, q61, q62⟩ := OwnRows.open hor (by decide)
      have q62x := Ext.refl w49
      refine Sq.app sl23 q60 (by omega) (Own.row ho52) (one_cons (Row.one (Own.row ho44)) one_nil) (by rw [q61]; simp; omega) .plain rfl rfl rfl rfl (fun v55 w56 ho58 g57 => ?_)
      have hs63 := g57.size
      have ho58r := q62 _ (([fN aa i (((letters lt).getD m.toNat 0))] : List Int)) _ _ _ (Ext.refl _) (Own.mono ho44 (by omega)) (by omega) ho58 g57
      replace E := E.owned q60 g57 (by omega)
      replace hB4 := hB4.owned q60 g57 (by decide)
      replace hl17 := hl17.owned q60 g57 (by decide)
      replace ho26 := ho26.owned q60 g57 (by decide)
      replace ho3 := ho3.apart q60 g57 (by omega) (by decide)
      replace hpL := hpL.owned q60 g57 (by decide)
      refine Sq.nil ?_
      refine Eq.goes (fun _ => ⟨hB4, hpL⟩) ?_
      refine Gq.one 11 rfl (by kernel_rfl) ?_
      refine Sq.assign .plain rfl rfl ?_
      refine Sq.nil ?_
      refine Eq.goes (fun h => absurd h (by decide)) ?_
      refine Gq.done (by kernel_rfl) ?_
      refine Eq.end ?_
      refine Eq.next ?_
      refine Cq.region ?_
      refine Sq.move .plain rfl rfl ?_
      refine Sq.add .plain rfl rfl rfl (by omega) ?_
      refine Sq.assign .plain rfl rfl ?_
      refine Sq.nil ?_
      have e2 := toNat_succ hm.1
      refine Eq.round _ _ ⟨m + 1, _, rfl, by omega, by omega, by rw [e2, take_snoc 0 (by omega), List.map_append]; exact OwnRows.now ho58r, ho3, E, hB4, hl17, ho26, rfl⟩ (by omega) (.cons rfl (.cons rfl (.cons rfl (.cons rfl (.cons rfl (.cons rfl (.cons rfl (.cons rfl (.cons rfl (.nil))))))))))
    refine Sq.nil ?_
    refine Eq.next ?_
    refine Cq.els rfl ?_
    refine Cq.exit ?_
    refine Eq.past ?_
    refine Eq.past ?_
    refine Eq.hit ?_
    refine Eq.next ?_
    refine Cq.region ?_
    refine Sq.move .plain rfl rfl ?_
    refine Sq.move .plain rfl rfl ?_
    obtain ⟨rs3, hq1, hq2, hq3⟩ := Own3.open ho3 (by decide) (by decide)
    have hU := RowsU.of (OwnRows.now hor)
    have hx0 := Ext.refl wl2
    refine Sq.lit sl86 rfl rfl .plain rfl rfl (one_cons (Rows.one (OwnRows.rows hor)) one_nil) (fun b64 w65 e66 hlo67 ho68 _ => ?_)
    have hs73 := Below.size e66
    replace E := E.trans e66
    replace hB4 := hB4.ext e66
    replace hl17 := hl17.ext e66
    replace hor := hor.ext e66
    replace hq1 := hq1.ext e66
    replace hx0 := hx0.trans e66
    refine Sq.app sl86 hq1 (by omega) (Own.row (ho68 _ (Nat.le_refl _))) (one_cons (Rows.one (OwnRows.rows hor)) one_nil) (by rw [hq2, hm3]; simp only [List.length_map, List.length_range, List.length_cons, List.length_nil]; omega) .plain rfl rfl rfl rfl (fun v69 w70 ho72 g71 => ?_)
    have hs74 := World.grownBy.size g71
    have ho3 := hq3 _ _ _ _ _ hx0 ((hU.ext hx0).up (Below.size hx0)) (by omega) ho72 g71
    replace E := E.owned hq1 g71 (by omega)
    replace hB4 := hB4.owned hq1 g71 (by decide)
    replace hl17 := hl17.owned hq1 g71 (by decide)
    refine Sq.assign .plain rfl rfl ?_
    refine Sq.nil ?_
    refine Eq.end ?_
    refine Eq.next ?_
    refine Cq.region ?_
    refine Sq.move .plain rfl rfl ?_
    refine Sq.add .plain rfl rfl rfl (by omega) ?_
    refine Sq.assign .plain rfl rfl ?_
    refine Sq.nil ?_
    have e1 := toNat_succ hi.1
    have em : m.toNat = (letters lt).length := by omega
    refine Eq.round _ _ ⟨i + 1, _, rfl, by omega, by rw [e1, List.range_succ, List.map_append, List.map_cons, List.map_nil, Int.toNat_of_nonneg hi.1]; rw [List.take_of_length_le (by omega)] at ho3; exact ho3, E, hB4, hl17, rfl⟩ (by omega) (.cons rfl (.cons rfl (.cons rfl (.cons rfl (.cons rfl (.cons rfl (.nil)))))))
  refine Sq.nil ?_
  refine Eq.next ?_
  refine Cq.els rfl ?_
  refine Cq.exit ?_
  refine Eq.past ?_
  refine Eq.past ?_
  refine Eq.hit ?_
  refine Eq.next ?_
  refine Cq.seq ?_
  refine Cq.region ?_
  refine Sq.move .plain rfl rfl ?_
  refine Sq.assign .plain rfl rfl ?_
  refine Sq.nil ?_
  refine Eq.next ?_
  refine Cq.ret ?_
  refine Eq.ret1 rfl rfl ?_
  have e3 : i.toNat = total aa := by omega
  rw [e3] at ho3
  exact ⟨Own3.read ho3, E⟩
end Go.Proofs.Ytoboklelbbgcnaa
set_option linter.unusedSimpArgs false
set_option linter.unusedVariables false
namespace Go.Proofs.Ytoboklelbbgcnaa
open Go.RowKit
set_option maxHeartbeats 1000000 in
set_option maxRecDepth 100000 in
theorem l4First_c (w0 : World) (aa : List A) (av sv : Value) (ss : List Int) (lt kd gl : Int) (hN : NetA w0 26 55 3 4 av aa) (hS : Ints w0 3 sv ss) (hok : NetOk aa) (hst : StOk (szs aa) ss) (hsl : ss.length = aa.length) (hk : KindOk kd aa) (hal : 0 ≤ lt ∧ lt ≤ 63) : Ret Try.prog 55 #[Value.agg #[Value.slice none 0 0, av, sv, Value.int .i64 lt, Value.int .i64 kd, Value.int .i64 gl]] w0 (fun v w => v = resW (firstOf (fN aa) (encTo (szs aa) ss (szs aa).length) (letters lt) (fun q => foundN kd gl aa (decL (szs aa) q))) ∧ Ext w0 w) := by
  have E := Ext.refl w0
  have hlen := hok.1
  have hzl := szs_length aa
  have htb := total_bd hok
  have hlet := letters_len6 lt
  have hso := szs_ok hok
  have hfN : ∀ q l, l ∈ (letters lt) → 0 ≤ fN aa q l ∧ fN aa q l < (((total aa) : Nat) : Int) := fun q l hl => fN_in hok q ⟨(mem_letters hl).1, (mem_letters hl).2.1⟩
  have hS0b : 0 ≤ (encTo (szs aa) ss (szs aa).length) ∧ (encTo (szs aa) ss (szs aa).length) < (((total aa) : Nat) : Int) := by have h := enc_lt hso hst (by omega); rw [htb.2.2]; exact h
  refine Ret.of (args := [Value.agg #[Value.slice none 0 0, av, sv, Value.int .i64 lt, Value.int .i64 kd, Value.int .i64 gl]]) Try.func55 rfl rfl rfl ?_
  rintro _ rfl
  show Cq _ _ _ _ [(0, Value.agg #[Value.slice none 0 0, av, sv, Value.int .i64 lt, Value.int .i64 kd, Value.int .i64 gl])] _
  refine Cq.seq ?_
  refine Cq.region ?_
  refine Sq.box .plain rfl rfl (fun b1 w2 e3 hB4 hlo5 => ?_)
  have hd6 := Nat.le_trans (Below.size E) hlo5
  have hs7 := Below.size e3
  replace E := E.trans e3
  refine Sq.assign .plain rfl rfl ?_
  refine Sq.assign .plain rfl rfl ?_
  refine Sq.nil ?_
  refine Eq.next ?_
  refine Cq.seq ?_
  refine Cq.region ?_
  refine Sq.loadAgg agg70 .plain rfl rfl hB4 rfl ?_
  have hd12 := hB4.lt
  refine Sq.call fn82 .plain rfl rfl (l4Sizes_c _ aa av sv ss lt kd gl (hN.ext E) (hS.ext E) (by omega)) ?_
  rintro v8 w9 ⟨ho11, e10⟩
  have hs13 := Below.size E
  have hs14 := Below.size e10
  replace E := E.trans e10
  replace hB4 := hB4.ext e10
  refine Sq.assign .plain rfl rfl ?_
  have fzS := Ext.refl w9
  have hs15 := Below.size E
  replace ho11 := Own.row ho11
  refine Sq.nil ?_
  refine Eq.next ?_
  refine Cq.seq ?_
  refine Cq.region ?_
  refine Sq.assign .plain rfl rfl ?_
  refine Sq.nil ?_
  refine Eq.next ?_
  refine Cq.seq ?_
  refine Cq.seq ?_
  refine Cq.region ?_
  refine Sq.assign .plain rfl rfl ?_
  refine Sq.nil ?_
  refine Eq.next ?_
  refine Cq.block ?_
  refine Cq.loop (fun nn w ls => ∃ (k : Int), ls = [(1, Value.pointer (some ⟨b1, 0, none⟩)), (4, v8), (5, Value.int .i64 ((prodTo (szs aa) k.toNat))), (6, Value.int .i64 k)] ∧ (0 ≤ k ∧ k ≤ (szs aa).length) ∧ Ext w0 w ∧ Ext w9 w ∧ Blk w b1 70 [Value.slice none 0 0, av, sv, Value.int .i64 lt, Value.int .i64 kd, Value.int .i64 gl] ∧ nn = (((szs aa).length : Int) - k).toNat) _ _ ⟨0, rfl, by omega, E, fzS, hB4, rfl⟩ (.cons rfl (.cons rfl (.cons rfl (.cons rfl (.nil))))) ?_
  rintro nn wl1 ls ⟨k, rfl, hk1, E, fzS, hB4, rfl⟩
  have hs16 := Below.size E
  have hs17 := Below.size fzS
  refine Cq.seq ?_
  refine Cq.seq ?_
  refine Cq.region ?_
  refine Sq.move .plain rfl rfl ?_
  refine Sq.move .plain rfl rfl ?_
  refine Sq.lenInts (ho11.ext fzS) .plain rfl und55 rfl ?_
  refine Sq.lss .plain rfl rfl rfl ?_
  refine Sq.part (fun c18 => ?_) (fun c18 => ?_)
  · refine Sq.nil ?_
    refine Eq.next ?_
    refine Cq.thn rfl ?_
    refine Cq.skip ?_
    refine Eq.next ?_
    refine Cq.seq ?_
    refine Cq.block ?_
    refine Cq.region ?_
    refine Sq.move .plain rfl rfl ?_
    refine Sq.move .plain rfl rfl ?_
    refine Sq.move .plain rfl rfl ?_
    refine Sq.idxInts sl55 one3 (ho11.ext fzS) .plain rfl rfl rfl .plain rfl rfl (by omega) (by omega) ?_
    refine Sq.mul .plain rfl rfl rfl (by have := prodTo_bd hso (k := k.toNat) (by omega); omega) ?_
    refine Sq.assign .plain rfl rfl ?_
    refine Sq.nil ?_
    refine Eq.end ?_
    refine Eq.next ?_
    refine Cq.region ?_
    refine Sq.move .plain rfl rfl ?_
    refine Sq.add .plain rfl rfl rfl (by omega) ?_
    refine Sq.assign .plain rfl rfl ?_
    refine Sq.nil ?_
    have e1 := toNat_succ hk1.1
    rw [show prodTo (szs aa) k.toNat * (szs aa).getD k.toNat 0 = prodTo (szs aa) (k + 1).toNat by rw [e1, prodTo_succ (by omega)]]
    refine Eq.round _ _ ⟨k + 1, rfl, by omega, E, fzS, hB4, rfl⟩ (by omega) (.cons rfl (.cons rfl (.cons rfl (.cons rfl (.nil)))))
  refine Sq.nil ?_
  refine Eq.next ?_
  refine Cq.els rfl ?_
  refine Cq.exit ?_
  refine Eq.past ?_
  refine Eq.past ?_
  refine Eq.hit ?_
  refine Eq.next ?_
  refine Cq.seq ?_
  refine Cq.region ?_
  have htot : prodTo (szs aa) k.toNat = (((total aa) : Nat) : Int) := by rw [prodTo_all (by omega)]; exact htb.2.2.symm
  rw [htot]
  refine Sq.loadAgg agg70 .plain rfl rfl hB4 rfl ?_
  refine Sq.move .plain rfl rfl ?_
  refine Sq.move .plain rfl rfl ?_
  refine Sq.call fn83 .plain rfl rfl (l4Moves_c _ aa av sv ss lt kd gl (hN.ext E) (hS.ext E) _ _ (ho11.ext fzS) hok rfl hal) ?_
  rintro vM w19 ⟨hmv, e20⟩
  have hs21 := Below.size e20
  replace E := E.trans e20
  replace fzS := fzS.trans e20
  replace hB4 := hB4.ext e20
  have fzM := Ext.refl w19
  have hs22 := Below.size E
  have hs23 := Below.size fzS
  refine Sq.assign .plain rfl rfl ?_
  refine Sq.nil ?_
  refine Eq.next ?_
  refine Cq.seq ?_
  refine Cq.region ?_
  refine Sq.move .plain rfl rfl ?_
  refine Sq.make sl55 .plain rfl rfl rfl rfl (by omega) (fun b24 w25 e26 hlo27 hB28 => ?_)
  replace hB28 := hB28 w19.heap.size (Nat.le_refl _)
  have hs29 := Below.size e26
  replace E := E.trans e26
  replace fzS := fzS.trans e26
  replace hB4 := hB4.ext e26
  replace fzM := fzM.trans e26
  refine Sq.assign .plain rfl rfl ?_
  refine Sq.nil ?_
  refine Eq.next ?_
  refine Cq.seq ?_
  refine Cq.seq ?_
  refine Cq.region ?_
  refine Sq.assign .plain rfl rfl ?_
  refine Sq.nil ?_
  refine Eq.next ?_
  refine Cq.block ?_
  refine Cq.loop (fun nn w ls => ∃ (i : Int), ls = [(1, Value.pointer (some ⟨b1, 0, none⟩)), (4, v8), (5, Value.int .i64 ((((total aa) : Nat) : Int))), (7, vM), (8, Value.slice (some ⟨b24, 0, none⟩) ((((total aa) : Nat) : Int)).toNat ((((total aa) : Nat) : Int)).toNat), (9, Value.int .i64 i)] ∧ (0 ≤ i ∧ i ≤ (((total aa) : Nat) : Int)) ∧ Own w w19.heap.size 3 (Value.slice (some ⟨b24, 0, none⟩) ((((total aa) : Nat) : Int)).toNat ((((total aa) : Nat) : Int)).toNat) ((dsInit (fun q => foundN kd gl aa (decL (szs aa) q)) (total aa) i.toNat).map (Value.int .i64)) ∧ Ext w0 w ∧ Ext w9 w ∧ Ext w19 w ∧ Blk w b1 70 [Value.slice none 0 0, av, sv, Value.int .i64 lt, Value.int .i64 kd, Value.int .i64 gl] ∧ nn = ((((total aa) : Nat) : Int) - i).toNat) _ _ ⟨0, rfl, by omega, by rw [show (0 : Int).toNat = 0 from rfl, dsInit_zero, List.map_replicate]; exact hB28, E, fzS, fzM, hB4, rfl⟩ (.cons rfl (.cons rfl (.cons rfl (.cons rfl (.cons rfl (.cons rfl (.nil))))))) ?_
  rintro nn wl2 ls ⟨i, rfl, hi, ho, E, fzS, fzM, hB4, rfl⟩
  have hs30 := Below.size E
  have hs31 := Below.size fzS
  have hs32 := Below.size fzM
  have hil := dsInit_length (G := (fun q => foundN kd gl aa (decL (szs aa) q))) (n := (total aa)) i.toNat
  refine Cq.seq ?_
  refine Cq.seq ?_
  refine Cq.region ?_
  refine Sq.move .plain rfl rfl ?_
  refine Sq.move .plain rfl rfl ?_
  refine Sq.lss .plain rfl rfl rfl ?_
  refine Sq.part (fun c33 => ?_) (fun c33 => ?_)
  · refine Sq.nil ?_
    refine Eq.next ?_
    refine Cq.thn rfl ?_
    refine Cq.skip ?_
    refine Eq.next ?_
    refine Cq.seq ?_
    refine Cq.block ?_
    refine Cq.seq ?_
    refine Cq.region ?_
    refine Sq.move .plain rfl rfl ?_
    refine Sq.move .plain rfl rfl ?_
    obtain ⟨p34, hp35o⟩ := Own.at ho (i := i) (by omega) (by first | (simp only [List.length_map]; omega) | (simp; omega))
    refine Sq.atO sl55 hp35o .plain rfl rfl rfl ?_
    refine Sq.storeO one3 ho hp35o .plain rfl rfl rfl (fun w36 g37 ho38 => ?_)
    have hs39 := World.grownBy.size g37
    replace E := E.owned ho g37 (by omega)
    replace fzS := fzS.owned ho g37 (by omega)
    replace fzM := fzM.owned ho g37 (by omega)
    replace hB4 := hB4.owned ho g37 (by decide)
    replace ho := ho38
    refine Sq.nil ?_
    refine Eq.next ?_
    refine Cq.seq ?_
    obtain ⟨pM, rM, hpM, hrM⟩ := Read3.at hmv (i := i) (by omega) (by rw [movesN, List.length_map, List.length_range]; omega)
    replace hpM := hpM.ext fzM
    refine Cq.drawS 9 (fun w' => Blk w' b1 70 [Value.slice none 0 0, av, sv, Value.int .i64 lt, Value.int .i64 kd, Value.int .i64 gl] ∧ At w' 23 vM i pM rM) mixed (⟨hB4, hpM⟩) (fun w40 e41 hS => ?_)
    clear hS
    have hs42 := Below.size e41
    replace E := E.trans e41
    replace fzS := fzS.trans e41
    replace fzM := fzM.trans e41
    replace hB4 := hB4.ext e41
    replace ho := ho.ext e41
    replace hpM := hpM.ext e41
    refine Gq.st 0 rfl (by kernel_rfl) rfl .plain rfl (fun _ _ _ h => h) ⟨hB4, hpM⟩ (fun w' x => Still.loadAgg agg70 rfl x.1 rfl) ?_
    refine Gq.st 1 rfl (by kernel_rfl) rfl .plain rfl (fun _ _ _ h => h) ⟨hB4, hpM⟩ (fun w' x => Still.move rfl) ?_
    refine Gq.st 2 rfl (by kernel_rfl) rfl .plain rfl (fun _ _ _ h => h) ⟨hB4, hpM⟩ (fun w' x => Still.move rfl) ?_
    refine Gq.st 4 rfl (by kernel_rfl) rfl .plain rfl (fun _ _ _ h => h) ⟨hB4, hpM⟩ (fun w' x => Still.move rfl) ?_
    refine Gq.st 5 rfl (by kernel_rfl) rfl .plain rfl (fun _ _ _ h => h) ⟨hB4, hpM⟩ (fun w' x => Still.move rfl) ?_
    refine Gq.st 6 rfl (by kernel_rfl) rfl .plain rfl (fun _ _ _ h => h) ⟨hB4, hpM⟩ (fun w' x => Still.at' sl86 hpM rfl rfl) ?_
    refine Gq.st 7 rfl (by kernel_rfl) rfl .plain rfl (fun _ _ _ h => h) ⟨hB4, hpM⟩ (fun w' x => Still.loadA one23 rfl (x.2).1) ?_
    refine Gq.one 3 rfl (by kernel_rfl) ?_
    have hd47 := hB4.lt
    refine Sq.call fn85 .plain rfl rfl (l4Decode_c _ (szs aa) _ (ho11.ext fzS) i hso (by omega)) ?_
    rintro v43 w44 ⟨ho46, e45⟩
    have hs48 := Below.size E
    have hs49 := Below.size fzS
    have hs50 := Below.size fzM
    have hs51 := Below.size e45
    replace E := E.trans e45
    replace fzS := fzS.trans e45
    replace fzM := fzM.trans e45
    replace hB4 := hB4.ext e45
    replace ho := ho.ext e45
    replace hpM := hpM.ext e45
    refine Sq.nil ?_
    refine Eq.goes (fun _ => ⟨hB4, hpM⟩) ?_
    refine Gq.one 8 rfl (by kernel_rfl) ?_
    have hd55 := hB4.lt
    refine Sq.call fn84 .plain rfl rfl (l4Found_c _ aa av sv ss lt kd gl (hN.ext E) (hS.ext E) _ ((decL (szs aa) i)) (Own.row ho46) hok (decL_ok hso _) (by rw [decL_length, szs_length]) rM hk) ?_
    rintro _ w53 ⟨rfl, e54⟩
    have hs56 := Below.size E
    have hs57 := Below.size fzS
    have hs58 := Below.size fzM
    have hs59 := Below.size e54
    replace E := E.trans e54
    replace fzS := fzS.trans e54
    replace fzM := fzM.trans e54
    replace hB4 := hB4.ext e54
    replace ho := ho.ext e54
    replace hpM := hpM.ext e54
    refine Sq.partB (fun hfo => ?_) (fun hfo => ?_)
    · refine Sq.nil ?_
      refine Eq.goes (fun _ => ⟨hB4, hpM⟩) ?_
      refine Gq.done (by kernel_rfl) ?_
      refine Eq.next ?_
      refine Cq.thn rfl ?_
      refine Cq.region ?_
      refine Sq.move .plain rfl rfl ?_
      refine Sq.move .plain rfl rfl ?_
      obtain ⟨p60, hp61o⟩ := Own.at ho (i := i) (by omega) (by first | (simp only [List.length_map]; omega) | (simp; omega))
      refine Sq.atO sl55 hp61o .plain rfl rfl rfl ?_
      refine Sq.storeO one3 ho hp61o .plain rfl rfl rfl (fun w62 g63 ho64 => ?_)
      have hs65 := World.grownBy.size g63
      replace E := E.owned ho g63 (by omega)
      replace fzS := fzS.owned ho g63 (by omega)
      replace fzM := fzM.owned ho g63 (by omega)
      replace hB4 := hB4.owned ho g63 (by decide)
      replace ho := ho64
      refine Sq.nil ?_
      refine Eq.end ?_
      refine Eq.next ?_
      refine Cq.region ?_
      refine Sq.move .plain rfl rfl ?_
      refine Sq.add .plain rfl rfl rfl (by omega) ?_
      refine Sq.assign .plain rfl rfl ?_
      refine Sq.nil ?_
      have e1 := toNat_succ hi.1
      refine Eq.round _ _ ⟨i + 1, rfl, by omega, by rw [e1, ← dsInit_T (v := i) (by omega) (Int.toNat_of_nonneg hi.1) hfo]; exact ho, E, fzS, fzM, hB4, rfl⟩ (by omega) (.cons rfl (.cons rfl (.cons rfl (.cons rfl (.cons rfl (.cons rfl (.nil)))))))
    refine Sq.nil ?_
    refine Eq.goes (fun _ => ⟨hB4, hpM⟩) ?_
    refine Gq.done (by kernel_rfl) ?_
    refine Eq.next ?_
    refine Cq.els rfl ?_
    refine Cq.skip ?_
    refine Eq.end ?_
    refine Eq.next ?_
    refine Cq.region ?_
    refine Sq.move .plain rfl rfl ?_
    refine Sq.add .plain rfl rfl rfl (by omega) ?_
    refine Sq.assign .plain rfl rfl ?_
    refine Sq.nil ?_
    have e1 := toNat_succ hi.1
    refine Eq.round _ _ ⟨i + 1, rfl, by omega, by rw [e1, ← dsInit_F (v := i) (by omega) (Int.toNat_of_nonneg hi.1) hfo]; exact ho, E, fzS, fzM, hB4, rfl⟩ (by omega) (.cons rfl (.cons rfl (.cons rfl (.cons rfl (.cons rfl (.cons rfl (.nil)))))))
  refine Sq.nil ?_
  refine Eq.next ?_
  refine Cq.els rfl ?_
  refine Cq.exit ?_
  refine Eq.past ?_
  refine Eq.past ?_
  refine Eq.hit ?_
  refine Eq.next ?_
  refine Cq.seq ?_
  refine Cq.region ?_
  rw [dsInit_all (f := (fN aa)) (L := (letters lt)) (by omega)] at ho
  refine Sq.move .plain rfl rfl ?_
  refine Sq.move .plain rfl rfl ?_
  refine Sq.call fn86 .plain rfl rfl (l4Dist_c _ _ _ _ _ (fN aa) (letters lt) (fun q => foundN kd gl aa (decL (szs aa) q)) (total aa) fzM hmv (by omega) ho hfN (by omega) (by omega)) ?_
  rintro _ w66 ⟨rfl, ⟨dd, hdd, ho68, hstab⟩, g67⟩
  have hs69 := World.grownBy.size g67
  replace E := E.owned ho g67 (by omega)
  replace fzS := fzS.owned ho g67 (by omega)
  replace fzM := fzM.owned ho g67 (by omega)
  replace hB4 := hB4.owned ho g67 (by decide)
  replace ho := ho68
  refine Sq.nil ?_
  refine Eq.next ?_
  refine Cq.seq ?_
  refine Cq.region ?_
  refine Sq.move .plain rfl rfl ?_
  refine Sq.fieldAddr fld70_2 .plain rfl rfl ?_
  refine Sq.loadB one55 .plain rfl rfl hB4 rfl ?_
  have hd73 := hB4.lt
  refine Sq.call fn87 .plain rfl rfl (l4Encode_c _ (szs aa) ss _ _ (ho11.ext fzS) (hS.ext E) hso hst (by omega)) ?_
  rintro _ w71 ⟨rfl, e72⟩
  have hs74 := Below.size E
  have hs75 := Below.size fzS
  have hs76 := Below.size fzM
  have hs77 := Below.size e72
  replace E := E.trans e72
  replace fzS := fzS.trans e72
  replace fzM := fzM.trans e72
  replace hB4 := hB4.ext e72
  replace ho := ho.ext e72
  refine Sq.lit sl55 rfl rfl .plain rfl rfl (one_cons rfl one_nil) (fun b78 w79 e80 hlo81 ho82 _ => ?_)
  replace ho82 := ho82 w71.heap.size (Nat.le_refl _)
  have hs84 := Below.size e80
  replace E := E.trans e80
  replace fzS := fzS.trans e80
  replace fzM := fzM.trans e80
  replace hB4 := hB4.ext e80
  replace ho := ho.ext e80
  refine Sq.assign .plain rfl rfl ?_
  refine Sq.nil ?_
  refine Eq.next ?_
  refine Cq.seq ?_
  refine Cq.region ?_
  refine Sq.fieldAddr fld70_3 .plain rfl rfl ?_
  refine Sq.loadB one3 .plain rfl rfl hB4 rfl ?_
  have hd89 := hB4.lt
  refine Sq.call fn81 .plain rfl rfl (l1Letters_c lt (by omega) _) ?_
  rintro v85 w86 ⟨hl88, e87⟩
  have hs90 := Below.size E
  have hs91 := Below.size fzS
  have hs92 := Below.size fzM
  have hs93 := Below.size e87
  replace E := E.trans e87
  replace fzS := fzS.trans e87
  replace fzM := fzM.trans e87
  replace ho := ho.ext e87
  replace ho82 := ho82.ext e87
  refine Sq.assign .plain rfl rfl ?_
  refine Sq.nil ?_
  refine Eq.next ?_
  refine Cq.seq ?_
  refine Cq.region ?_
  refine Sq.assign .plain rfl rfl ?_
  refine Sq.nil ?_
  refine Eq.next ?_
  refine Cq.seq ?_
  refine Cq.region ?_
  refine Sq.move .plain rfl rfl ?_
  refine Sq.move .plain rfl rfl ?_
  replace ho82 : Own _ _ _ _ (([(encTo (szs aa) ss (szs aa).length)] : List Int).map (Value.int .i64)) := ho82
  refine Sq.idxInts sl55 one3 (Own.row ho82) .plain rfl rfl rfl .plain rfl rfl (by omega) (by simp only [List.length_singleton]; omega) ?_
  rw [show ([(encTo (szs aa) ss (szs aa).length)] : List Int).getD (0 : Int).toNat 0 = (encTo (szs aa) ss (szs aa).length) from rfl]
  have hdl := dsOf_length (f := (fN aa)) (L := (letters lt)) (G := (fun q => foundN kd gl aa (decL (szs aa) q))) (n := (total aa)) dd
  refine Sq.idxInts sl55 one3 (Own.row ho) .plain rfl rfl rfl .plain rfl rfl (by omega) (by omega) ?_
  rw [dsOf_get hS0b]
  refine Sq.assign .plain rfl rfl ?_
  refine Sq.nil ?_
  refine Eq.next ?_
  refine Cq.seq ?_
  refine Cq.block ?_
  have hdle := disTo_le (f := (fN aa)) (L := (letters lt)) (G := (fun q => foundN kd gl aa (decL (szs aa) q))) (d := dd) (q := (encTo (szs aa) ss (szs aa).length))
  refine Cq.loop (fun nn w ls => ∃ (u : List Int), ∃ (q : Int), ∃ (dI : Int), ∃ (av2 : Value), ls = [(7, vM), (8, Value.slice (some ⟨b24, 0, none⟩) ((((total aa) : Nat) : Int)).toNat ((((total aa) : Nat) : Int)).toNat), (10, av2), (11, v85), (12, Value.string (txt u)), (13, Value.int .i64 dI)] ∧ (0 ≤ q ∧ q < (((total aa) : Nat) : Int)) ∧ dI = (disTo (fN aa) (letters lt) (fun q => foundN kd gl aa (decL (szs aa) q)) dd) q ∧ (0 ≤ ((disTo (fN aa) (letters lt) (fun q => foundN kd gl aa (decL (szs aa) q)) dd) (encTo (szs aa) ss (szs aa).length)) → 0 ≤ dI ∧ gre (fN aa) (letters lt) (disTo (fN aa) (letters lt) (fun q => foundN kd gl aa (decL (szs aa) q)) dd) ((disTo (fN aa) (letters lt) (fun q => foundN kd gl aa (decL (szs aa) q)) dd) (encTo (szs aa) ss (szs aa).length)).toNat (encTo (szs aa) ss (szs aa).length) = u ++ gre (fN aa) (letters lt) (disTo (fN aa) (letters lt) (fun q => foundN kd gl aa (decL (szs aa) q)) dd) dI.toNat q) ∧ (((disTo (fN aa) (letters lt) (fun q => foundN kd gl aa (decL (szs aa) q)) dd) (encTo (szs aa) ss (szs aa).length)) < 0 → dI < 0 ∧ u = []) ∧ ((u.length : Int) + dI ≤ 200) ∧ Ints w 3 av2 [q] ∧ Ext w0 w ∧ Ext w9 w ∧ Ext w19 w ∧ Own w w19.heap.size 3 (Value.slice (some ⟨b24, 0, none⟩) ((((total aa) : Nat) : Int)).toNat ((((total aa) : Nat) : Int)).toNat) ((dsOf (fN aa) (letters lt) (fun q => foundN kd gl aa (decL (szs aa) q)) (total aa) dd).map (Value.int .i64)) ∧ Own w w79.heap.size 3 v85 ((letters lt).map (Value.int .i64)) ∧ nn = dI.toNat) _ _ ⟨[], (encTo (szs aa) ss (szs aa).length), _, _, rfl, hS0b, rfl, fun h => ⟨h, rfl⟩, fun h => ⟨h, rfl⟩, by show ((0 : Nat) : Int) + _ ≤ 200; omega, (Own.row ho82), E, fzS, fzM, ho, hl88, rfl⟩ (.cons rfl (.cons rfl (.cons rfl (.cons rfl (.cons rfl (.cons rfl (.nil))))))) ?_
  rintro nn wl3 ls ⟨u, q, dI, av2, rfl, hq, hdq, hpos, hneg, hsz, hav, E, fzS, fzM, ho, hl88, rfl⟩
  have hs94 := Below.size E
  have hs95 := Below.size fzS
  have hs96 := Below.size fzM
  refine Cq.seq ?_
  refine Cq.seq ?_
  refine Cq.region ?_
  refine Sq.move .plain rfl rfl ?_
  refine Sq.gtr .plain rfl rfl rfl ?_
  refine Sq.part (fun c97 => ?_) (fun c97 => ?_)
  · refine Sq.nil ?_
    refine Eq.next ?_
    refine Cq.thn rfl ?_
    refine Cq.skip ?_
    refine Eq.next ?_
    refine Cq.seq ?_
    refine Cq.block ?_
    refine Cq.seq ?_
    refine Cq.region ?_
    refine Sq.assign .plain rfl rfl ?_
    refine Sq.nil ?_
    refine Eq.next ?_
    refine Cq.seq ?_
    refine Cq.region ?_
    have hL0 : 0 < (letters lt).length := next_lt (k := 0) hdq.symm (by omega) (fun j hj => absurd hj (Nat.not_lt_zero _))
    refine Sq.move .plain rfl rfl ?_
    refine Sq.move .plain rfl rfl ?_
    refine Sq.move .plain rfl rfl ?_
    refine Sq.move .plain rfl rfl ?_
    refine Sq.move .plain rfl rfl ?_
    refine Sq.sub .plain rfl rfl rfl (by omega) ?_
    have hkk : 0 ≤ (0 : Int) ∧ (0 : Int).toNat < (letters lt).length := by omega
    have hfx := hfN q ((letters lt).getD (0 : Int).toNat 0) (getD_mem (by omega))
    refine Sq.call fn88 .plain rfl rfl (l4Closer_c _ _ _ _ (movesN aa (letters lt)) (dsOf (fN aa) (letters lt) (fun q => foundN kd gl aa (decL (szs aa) q)) (total aa) dd) q (0 : Int) (dI - 1) (fN aa q ((letters lt).getD (0 : Int).toNat 0)) (hmv.ext fzM) (Own.row ho) hav (by rw [movesN, List.length_map, List.length_range]; exact hq) (by rw [moves_at hq, List.length_map]; omega) (by rw [moves_at hq]; exact row_get (by omega)) (by rw [dsOf_length]; exact hfx)) ?_
    rintro v100 w98 ⟨hnv101, e99⟩
    rw [dsOf_get hfx] at hnv101
    have hs102 := Below.size e99
    replace E := E.trans e99
    replace fzS := fzS.trans e99
    replace fzM := fzM.trans e99
    replace ho := ho.ext e99
    replace hl88 := hl88.ext e99
    replace hav := hav.ext e99
    have hs103 := Below.size E
    have hs104 := Below.size fzS
    have hs105 := Below.size fzM
    refine Sq.assign .plain rfl rfl ?_
    refine Sq.nil ?_
    refine Eq.next ?_
    refine Cq.seq ?_
    refine Cq.block ?_
    refine Cq.loop (fun nn w ls => ∃ (k : Int), ∃ (nv : Value), ls = [(7, vM), (8, Value.slice (some ⟨b24, 0, none⟩) ((((total aa) : Nat) : Int)).toNat ((((total aa) : Nat) : Int)).toNat), (10, av2), (11, v85), (12, Value.string (txt u)), (13, Value.int .i64 dI), (14, Value.int .i64 k), (15, nv)] ∧ (0 ≤ k ∧ k < ((letters lt).length : Int)) ∧ (∀ j : Nat, j < k.toNat → ¬ (disTo (fN aa) (letters lt) (fun q => foundN kd gl aa (decL (szs aa) q)) dd) (fN aa q ((letters lt).getD j 0)) = dI - 1) ∧ Ints w 3 nv (if (disTo (fN aa) (letters lt) (fun q => foundN kd gl aa (decL (szs aa) q)) dd) (fN aa q ((letters lt).getD k.toNat 0)) = dI - 1 then [(fN aa q ((letters lt).getD k.toNat 0))] else []) ∧ Ext w0 w ∧ Ext w9 w ∧ Ext w19 w ∧ Own w w19.heap.size 3 (Value.slice (some ⟨b24, 0, none⟩) ((((total aa) : Nat) : Int)).toNat ((((total aa) : Nat) : Int)).toNat) ((dsOf (fN aa) (letters lt) (fun q => foundN kd gl aa (decL (szs aa) q)) (total aa) dd).map (Value.int .i64)) ∧ Ints w 3 av2 [q] ∧ Own w w79.heap.size 3 v85 ((letters lt).map (Value.int .i64)) ∧ nn = (((letters lt).length : Int) - k).toNat) _ _ ⟨0, _, rfl, by omega, fun j hj => absurd hj (Nat.not_lt_zero _), (Own.row hnv101), E, fzS, fzM, ho, hav, hl88, rfl⟩ (.cons rfl (.cons rfl (.cons rfl (.cons rfl (.cons rfl (.cons rfl (.cons rfl (.cons rfl (.nil))))))))) ?_
    rintro nn wl4 ls ⟨k, nv, rfl, hk4, hno, hnv, E, fzS, fzM, ho, hav, hl88, rfl⟩
    have hs106 := Below.size E
    have hs107 := Below.size fzS
    have hs108 := Below.size fzM
    refine Cq.seq ?_
    refine Cq.seq ?_
    refine Cq.region ?_
    refine Sq.move .plain rfl rfl ?_
    refine Sq.lenInts hnv .plain rfl und55 rfl ?_
    refine Sq.eql .plain rfl rfl rfl ?_
    refine Sq.part (fun hem => ?_) (fun hem => ?_)
    · refine Sq.nil ?_
      refine Eq.next ?_
      refine Cq.thn rfl ?_
      refine Cq.skip ?_
      refine Eq.next ?_
      refine Cq.block ?_
      refine Cq.seq ?_
      refine Cq.region ?_
      have hne : ¬ (disTo (fN aa) (letters lt) (fun q => foundN kd gl aa (decL (szs aa) q)) dd) (fN aa q ((letters lt).getD k.toNat 0)) = dI - 1 := fun h => by rw [if_pos h] at hem; exact absurd hem (by simp)
      have hno' : ∀ j : Nat, j < k.toNat + 1 → ¬ (disTo (fN aa) (letters lt) (fun q => foundN kd gl aa (decL (szs aa) q)) dd) (fN aa q ((letters lt).getD j 0)) = dI - 1 := fun j hj => (Nat.lt_or_ge j k.toNat).elim (hno j) (fun h => (show k.toNat = j by omega) ▸ hne)
      have hkl : k.toNat + 1 < (letters lt).length := next_lt hdq.symm (by omega) hno'
      refine Sq.move .plain rfl rfl ?_
      refine Sq.add .plain rfl rfl rfl (by omega) ?_
      refine Sq.assign .plain rfl rfl ?_
      refine Sq.nil ?_
      refine Eq.next ?_
      refine Cq.region ?_
      refine Sq.move .plain rfl rfl ?_
      refine Sq.move .plain rfl rfl ?_
      refine Sq.move .plain rfl rfl ?_
      refine Sq.move .plain rfl rfl ?_
      refine Sq.move .plain rfl rfl ?_
      refine Sq.sub .plain rfl rfl rfl (by omega) ?_
      have hkk : 0 ≤ (k + 1) ∧ (k + 1).toNat < (letters lt).length := by omega
      have hfx := hfN q ((letters lt).getD (k + 1).toNat 0) (getD_mem (by omega))
      refine Sq.call fn88 .plain rfl rfl (l4Closer_c _ _ _ _ (movesN aa (letters lt)) (dsOf (fN aa) (letters lt) (fun q => foundN kd gl aa (decL (szs aa) q)) (total aa) dd) q (k + 1) (dI - 1) (fN aa q ((letters lt).getD (k + 1).toNat 0)) (hmv.ext fzM) (Own.row ho) hav (by rw [movesN, List.length_map, List.length_range]; exact hq) (by rw [moves_at hq, List.length_map]; omega) (by rw [moves_at hq]; exact row_get (by omega)) (by rw [dsOf_length]; exact hfx)) ?_
      rintro v111 w109 ⟨hnv112, e110⟩
      rw [dsOf_get hfx] at hnv112
      have hs113 := Below.size e110
      replace E := E.trans e110
      replace fzS := fzS.trans e110
      replace fzM := fzM.trans e110
      replace ho := ho.ext e110
      replace hav := hav.ext e110
      replace hl88 := hl88.ext e110
      have hs114 := Below.size E
      have hs115 := Below.size fzS
      have hs116 := Below.size fzM
      refine Sq.assign .plain rfl rfl ?_
      refine Sq.nil ?_
      refine Eq.end ?_
      have e4 := toNat_succ hk4.1
      refine Eq.round _ _ ⟨k + 1, _, rfl, by omega, by rw [e4]; exact hno', (Own.row hnv112), E, fzS, fzM, ho, hav, hl88, rfl⟩ (by omega) (.cons rfl (.cons rfl (.cons rfl (.cons rfl (.cons rfl (.cons rfl (.cons rfl (.cons rfl (.nil)))))))))
    refine Sq.nil ?_
    refine Eq.next ?_
    refine Cq.els rfl ?_
    refine Cq.exit ?_
    refine Eq.past ?_
    refine Eq.past ?_
    refine Eq.hit ?_
    refine Eq.next ?_
    refine Cq.seq ?_
    refine Cq.region ?_
    have hyes : (disTo (fN aa) (letters lt) (fun q => foundN kd gl aa (decL (szs aa) q)) dd) (fN aa q ((letters lt).getD k.toNat 0)) = dI - 1 := Classical.byContradiction fun h => hem (by rw [if_neg h]; rfl)
    have hlx := letters_at lt (k := k.toNat) (by omega)
    rw [if_pos hyes] at hnv
    refine Sq.move .plain rfl rfl ?_
    refine Sq.assign .plain rfl rfl ?_
    refine Sq.nil ?_
    refine Eq.next ?_
    refine Cq.region ?_
    refine Sq.move .plain rfl rfl ?_
    refine Sq.move .plain rfl rfl ?_
    refine Sq.move .plain rfl rfl ?_
    refine Sq.idxInts sl55 one3 (Own.row hl88) .plain rfl rfl rfl .plain rfl rfl (by omega) (by omega) ?_
    refine Sq.call fn89 .plain rfl rfl (l1Text_c ((letters lt).getD k.toNat 0) (by omega) _) ?_
    rintro _ w118 ⟨rfl, e119⟩
    have hs120 := Below.size E
    have hs121 := Below.size fzS
    have hs122 := Below.size fzM
    have hs123 := Below.size e119
    replace E := E.trans e119
    replace fzS := fzS.trans e119
    replace fzM := fzM.trans e119
    replace ho := ho.ext e119
    replace hl88 := hl88.ext e119
    replace hnv := hnv.ext e119
    refine Sq.cat .plain rfl rfl rfl (by rw [txt_size, chr_size]; omega) ?_
    refine Sq.assign .plain rfl rfl ?_
    refine Sq.nil ?_
    refine Eq.end ?_
    refine Eq.next ?_
    refine Cq.region ?_
    refine Sq.move .plain rfl rfl ?_
    refine Sq.sub .plain rfl rfl rfl (by omega) ?_
    refine Sq.assign .plain rfl rfl ?_
    refine Sq.nil ?_
    rw [← txt_snoc]
    have gstep := gre_next (f := (fN aa)) (L := (letters lt)) (dis := (disTo (fN aa) (letters lt) (fun q => foundN kd gl aa (decL (szs aa) q)) dd)) (m := (dI - 1).toNat) (k := k.toNat) (q := q) (by omega) (fun j hj h => hno j hj (by omega)) (by omega)
    rw [show (dI - 1).toNat + 1 = dI.toNat by omega] at gstep
    refine Eq.round _ _ ⟨u ++ [((letters lt).getD k.toNat 0)], (fN aa q ((letters lt).getD k.toNat 0)), _, _, rfl, hfN _ _ (getD_mem (by omega)), hyes.symm, fun h => ⟨by omega, by rw [(hpos h).2, gstep, List.append_assoc]; rfl⟩, fun h => absurd (hneg h).1 (by omega), by rw [List.length_append]; simp only [List.length_singleton]; omega, hnv, E, fzS, fzM, ho, hl88, rfl⟩ (by omega) (.cons rfl (.cons rfl (.cons rfl (.cons rfl (.cons rfl (.cons rfl (.nil)))))))
  refine Sq.nil ?_
  refine Eq.next ?_
  refine Cq.els rfl ?_
  refine Cq.exit ?_
  refine Eq.past ?_
  refine Eq.past ?_
  refine Eq.hit ?_
  refine Eq.next ?_
  refine Cq.seq ?_
  refine Cq.region ?_
  refine Sq.move .plain rfl rfl ?_
  refine Sq.move .plain rfl rfl ?_
  refine Sq.eql .plain rfl rfl rfl ?_
  refine Sq.assign .plain rfl rfl ?_
  refine Sq.assign .plain rfl rfl ?_
  refine Sq.nil ?_
  refine Eq.next ?_
  refine Cq.ret ?_
  refine Eq.ret2 rfl rfl rfl ?_
  have hfst := first_gre (f := (fN aa)) (L := (letters lt)) (G := (fun q => foundN kd gl aa (decL (szs aa) q))) (s := (encTo (szs aa) ss (szs aa).length)) (letters_sorted lt) (Nat.le_trans (ord_range hfN hS0b) (by omega)) (P := fun q => 0 ≤ q ∧ q < (((total aa) : Nat) : Int)) (fun q _ l hl => hfN q l hl) hS0b hstab
  by_cases h0 : 0 ≤ ((disTo (fN aa) (letters lt) (fun q => foundN kd gl aa (decL (szs aa) q)) dd) (encTo (szs aa) ss (szs aa).length))
  · obtain ⟨h1, h2⟩ := hpos h0
    have h3 : dI = 0 := by omega
    rw [if_pos h0] at hfst
    rw [h3] at h2
    have h4 : gre (fN aa) (letters lt) (disTo (fN aa) (letters lt) (fun q => foundN kd gl aa (decL (szs aa) q)) dd) ((disTo (fN aa) (letters lt) (fun q => foundN kd gl aa (decL (szs aa) q)) dd) (encTo (szs aa) ss (szs aa).length)).toNat (encTo (szs aa) ss (szs aa).length) = u := by rw [h2]; exact List.append_nil u
    exact ⟨by rw [hfst, h4, decide_eq_true h3]; rfl, E⟩
  rw [if_neg h0] at hfst
  obtain ⟨h1, h2⟩ := hneg (by omega)
  subst h2
  exact ⟨by rw [hfst, decide_eq_false (by omega)]; rfl, E⟩
end Go.Proofs.Ytoboklelbbgcnaa
set_option linter.unusedSimpArgs false
set_option linter.unusedVariables false
namespace Go.Proofs.Ytoboklelbbgcnaa
open Go.RowKit
set_option maxRecDepth 100000 in
theorem fo1_c (w0 : World) (x y : Bool) : Ret Try.prog 63 #[Value.bool x, Value.bool y] w0 (fun v w => v = .bool (x && !y) ∧ w0 = w) := by
  refine Ret.of (args := [Value.bool x, Value.bool y]) Try.func63 rfl rfl rfl ?_
  rintro _ rfl
  show Cq _ _ _ _ [(0, Value.bool x), (1, Value.bool y)] _
  refine Cq.seq ?_
  refine Cq.region ?_
  refine Sq.assign .plain rfl rfl ?_
  refine Sq.nil ?_
  refine Eq.next ?_
  refine Cq.seq ?_
  refine Cq.region ?_
  refine Sq.move .plain rfl rfl ?_
  refine Sq.partB (fun hx => ?_) (fun hx => ?_)
  · refine Sq.move .plain rfl rfl ?_
    refine Sq.move (.met rfl rfl rfl) rfl rfl ?_
    refine Sq.not (.met rfl rfl rfl) rfl rfl ?_
    refine Sq.pickT .plain rfl rfl rfl ?_
    refine Sq.assign .plain rfl rfl ?_
    refine Sq.nil ?_
    refine Eq.next ?_
    refine Cq.ret ?_
    refine Eq.ret1 rfl rfl ?_
    exact ⟨by simp [*], rfl⟩
  refine Sq.move .plain rfl rfl ?_
  refine Sq.off rfl rfl rfl rfl rfl rfl ?_
  refine Sq.off rfl rfl rfl rfl rfl rfl ?_
  refine Sq.pickF .plain rfl rfl rfl ?_
  refine Sq.assign .plain rfl rfl ?_
  refine Sq.nil ?_
  refine Eq.next ?_
  refine Cq.ret ?_
  refine Eq.ret1 rfl rfl ?_
  exact ⟨by simp [*], rfl⟩
end Go.Proofs.Ytoboklelbbgcnaa
set_option linter.unusedSimpArgs false
set_option linter.unusedVariables false
namespace Go.Proofs.Ytoboklelbbgcnaa
open Go.RowKit
set_option maxRecDepth 100000 in
theorem fb1_c (w0 : World) (q y0 : Int) (a b : A) (bs bn bt b1 b2 : Nat) (xs ys : List Int) (hS : Blk w0 bs 52 [Value.slice (some ⟨b1, 0, none⟩) a.next.length a.next.length]) (hN : Blk w0 bn 3 [Value.int .i64 (List.length b.next : Int)]) (hT : Blk w0 bt 52 [Value.slice (some ⟨b2, 0, none⟩) b.next.length b.next.length]) (h1 : Blk w0 b1 57 (xs.map (Value.int .i64))) (h2 : Blk w0 b2 57 (ys.map (Value.int .i64))) (hTab : Tab a xs) (hTab' : Tab b ys) (hv : validA a = true) (hv' : validA b = true) (hq : InP a b q) (hx : 0 ≤ y0 ∧ y0 < 6) : Ret Try.prog 76 #[Value.int .i64 q, Value.int .i64 y0, Value.slice none 0 0, Value.pointer (some ⟨bs, 0, none⟩), Value.pointer (some ⟨bn, 0, none⟩), Value.pointer (some ⟨bt, 0, none⟩)] w0 (fun v w => Own w w0.heap.size 3 v [Value.int .i64 (fP a b q y0)] ∧ Ext w0 w) := by
  have E := Ext.refl w0
  have hz := zero_in hv'
  have hz2 := (validA_spec.1 hv').2.1
  have hdv : (0 ≤ q / (List.length b.next : Int) ∧ q / (List.length b.next : Int) < (a.next.length : Int)) ∧ 0 ≤ q % (List.length b.next : Int) ∧ q % (List.length b.next : Int) < (List.length b.next : Int) := inP_div hv' hq
  have hmu := fP_mul hv hv' hq hx
  have hg2 : 0 ≤ goA b (q % (List.length b.next : Int)) y0 ∧ goA b (q % (List.length b.next : Int)) y0 < b.next.length := goA_in hv' hdv.2 hx
  have hqb : 0 ≤ q ∧ q ≤ 144 := ⟨hq.1, by have h8 := hq.2; have h9 := le144 hv hv'; omega⟩
  refine Ret.of (args := [Value.int .i64 q, Value.int .i64 y0, Value.slice none 0 0, Value.pointer (some ⟨bs, 0, none⟩), Value.pointer (some ⟨bn, 0, none⟩), Value.pointer (some ⟨bt, 0, none⟩)]) Try.func76 rfl rfl rfl ?_
  rintro _ rfl
  show Cq _ _ _ _ [(0, Value.int .i64 q), (1, Value.int .i64 y0), (2, Value.slice none 0 0), (3, Value.pointer (some ⟨bs, 0, none⟩)), (4, Value.pointer (some ⟨bn, 0, none⟩)), (5, Value.pointer (some ⟨bt, 0, none⟩))] _
  refine Cq.seq ?_
  refine Cq.region ?_
  refine Sq.assign .plain rfl rfl ?_
  refine Sq.nil ?_
  refine Eq.next ?_
  refine Cq.seq ?_
  refine Cq.drawS 22 (fun w' => Blk w' bs 52 [Value.slice (some ⟨b1, 0, none⟩) a.next.length a.next.length] ∧ Blk w' bn 3 [Value.int .i64 (List.length b.next : Int)] ∧ Blk w' bt 52 [Value.slice (some ⟨b2, 0, none⟩) b.next.length b.next.length] ∧ Blk w' b1 57 (xs.map (Value.int .i64)) ∧ Blk w' b2 57 (ys.map (Value.int .i64)) ∧ Ext w0 w') mixed (⟨hS, hN, hT, h1, h2, E⟩) (fun w1 e2 hS => ?_)
  clear hS
  have hs3 := Below.size e2
  replace E := E.trans e2
  replace hS := hS.ext e2
  replace hN := hN.ext e2
  replace hT := hT.ext e2
  replace h1 := h1.ext e2
  replace h2 := h2.ext e2
  refine Gq.st 0 rfl (by kernel_rfl) rfl .plain rfl (fun _ _ _ h => h) ⟨hS, hN, hT, h1, h2, E⟩ (fun w' x => Still.move rfl) ?_
  refine Gq.st 1 rfl (by kernel_rfl) rfl .plain rfl (fun _ _ _ h => h) ⟨hS, hN, hT, h1, h2, E⟩ (fun w' x => Still.loadB one52 rfl x.1 rfl) ?_
  refine Gq.st 2 rfl (by kernel_rfl) rfl .plain rfl (fun _ _ _ h => h) ⟨hS, hN, hT, h1, h2, E⟩ (fun w' x => Still.move rfl) ?_
  refine Gq.st 3 rfl (by kernel_rfl) rfl .plain rfl (fun _ _ _ h => h) ⟨hS, hN, hT, h1, h2, E⟩ (fun w' x => Still.loadB one3 rfl x.2.1 rfl) ?_
  refine Gq.st 4 rfl (by kernel_rfl) rfl .plain rfl (fun _ _ _ h => h) ⟨hS, hN, hT, h1, h2, E⟩ (fun w' x => Still.quo rfl rfl (by omega)) ?_
  refine Gq.st 5 rfl (by kernel_rfl) rfl .plain rfl (fun _ _ _ h => h) ⟨hS, hN, hT, h1, h2, E⟩ (fun w' x => Still.move rfl) ?_
  refine Gq.st 6 rfl (by kernel_rfl) rfl .plain rfl (fun _ _ _ h => h) ⟨hS, hN, hT, h1, h2, E⟩ (fun w' x => Still.ixS slk52 rfl rfl (by omega) (by omega)) ?_
  refine Gq.st 7 rfl (by kernel_rfl) rfl .plain rfl (fun _ _ _ h => h) ⟨hS, hN, hT, h1, h2, E⟩ (fun w' x => Still.ixA ar57 rfl rfl (by omega) (by omega)) ?_
  refine Gq.st 8 rfl (by kernel_rfl) rfl .plain rfl (fun _ _ _ h => h) ⟨hS, hN, hT, h1, h2, E⟩ (fun w' x => Still.loadB one3 rfl x.2.2.2.1 (by rw [Nat.zero_add, List.getElem?_map, hTab.2 (q / (List.length b.next : Int)) y0 (by first | omega | assumption) (by omega)]; rfl)) ?_
  refine Gq.st 9 rfl (by kernel_rfl) rfl .plain rfl (fun _ _ _ h => h) ⟨hS, hN, hT, h1, h2, E⟩ (fun w' x => Still.loadB one3 rfl x.2.1 rfl) ?_
  refine Gq.st 10 rfl (by kernel_rfl) rfl .plain rfl (fun _ _ _ h => h) ⟨hS, hN, hT, h1, h2, E⟩ (fun w' x => Still.mul rfl rfl (by omega)) ?_
  refine Gq.st 11 rfl (by kernel_rfl) rfl .plain rfl (fun _ _ _ h => h) ⟨hS, hN, hT, h1, h2, E⟩ (fun w' x => Still.loadB one52 rfl x.2.2.1 rfl) ?_
  refine Gq.st 12 rfl (by kernel_rfl) rfl .plain rfl (fun _ _ _ h => h) ⟨hS, hN, hT, h1, h2, E⟩ (fun w' x => Still.move rfl) ?_
  refine Gq.st 13 rfl (by kernel_rfl) rfl .plain rfl (fun _ _ _ h => h) ⟨hS, hN, hT, h1, h2, E⟩ (fun w' x => Still.loadB one3 rfl x.2.1 rfl) ?_
  refine Gq.st 14 rfl (by kernel_rfl) rfl .plain rfl (fun _ _ _ h => h) ⟨hS, hN, hT, h1, h2, E⟩ (fun w' x => Still.rem rfl rfl (by omega)) ?_
  refine Gq.st 15 rfl (by kernel_rfl) rfl .plain rfl (fun _ _ _ h => h) ⟨hS, hN, hT, h1, h2, E⟩ (fun w' x => Still.move rfl) ?_
  refine Gq.st 16 rfl (by kernel_rfl) rfl .plain rfl (fun _ _ _ h => h) ⟨hS, hN, hT, h1, h2, E⟩ (fun w' x => Still.ixS slk52 rfl rfl (by omega) (by omega)) ?_
  refine Gq.st 17 rfl (by kernel_rfl) rfl .plain rfl (fun _ _ _ h => h) ⟨hS, hN, hT, h1, h2, E⟩ (fun w' x => Still.ixA ar57 rfl rfl (by omega) (by omega)) ?_
  refine Gq.st 18 rfl (by kernel_rfl) rfl .plain rfl (fun _ _ _ h => h) ⟨hS, hN, hT, h1, h2, E⟩ (fun w' x => Still.loadB one3 rfl x.2.2.2.2.1 (by rw [Nat.zero_add, List.getElem?_map, hTab'.2 (q % (List.length b.next : Int)) y0 (by first | omega | assumption) (by omega)]; rfl)) ?_
  refine Gq.st 19 rfl (by kernel_rfl) rfl .plain rfl (fun _ _ _ h => h) ⟨hS, hN, hT, h1, h2, E⟩ (fun w' x => Still.add rfl rfl (by omega)) ?_
  refine Gq.one 20 rfl (by kernel_rfl) ?_
  refine Sq.lit sl55 rfl rfl .plain rfl rfl (one_cons rfl one_nil) (fun b4 w5 e6 hlo7 ho8 _ => ?_)
  replace ho8 := ho8 w1.heap.size (Nat.le_refl _)
  have hs10 := Below.size e6
  replace E := E.trans e6
  replace hS := hS.ext e6
  replace hN := hN.ext e6
  replace hT := hT.ext e6
  replace h1 := h1.ext e6
  replace h2 := h2.ext e6
  refine Sq.nil ?_
  refine Eq.goes (fun _ => ⟨hS, hN, hT, h1, h2, E⟩) ?_
  refine Gq.one 21 rfl (by kernel_rfl) ?_
  refine Sq.app sl55 (Own.nil w5 (w0.heap.size) 3) (by omega) (Own.row ho8) (one_cons rfl one_nil) (by simp) .plain rfl rfl rfl rfl (fun v11 w12 ho14 g13 => ?_)
  have hs15 := g13.size
  have e16 := Ext.of_grown g13
  have hs17 := Below.size e16
  replace E := E.trans e16
  replace hS := hS.ext e16
  replace hN := hN.ext e16
  replace hT := hT.ext e16
  replace h1 := h1.ext e16
  replace h2 := h2.ext e16
  refine Sq.nil ?_
  refine Eq.goes (fun _ => ⟨hS, hN, hT, h1, h2, E⟩) ?_
  refine Gq.one 22 rfl (by kernel_rfl) ?_
  refine Sq.assign .plain rfl rfl ?_
  refine Sq.nil ?_
  refine Eq.goes (fun h => absurd h (by decide)) ?_
  refine Gq.done (by kernel_rfl) ?_
  refine Eq.next ?_
  refine Cq.ret ?_
  refine Eq.ret1 rfl rfl ?_
  exact ⟨by simpa [fP] using ho14, E⟩
set_option maxRecDepth 100000 in
theorem fb2_c (w0 : World) (q : Int) (a b : A) (nx ac nx' ac' gv : Value) (g : Bool → Bool → Bool) (bg ba bn bb : Nat) (hG : Blk w0 bg 64 [gv]) (hA : Blk w0 ba 26 [Value.int .i64 a.al, nx, ac]) (hN : Blk w0 bn 3 [Value.int .i64 (List.length b.next : Int)]) (hB : Blk w0 bb 26 [Value.int .i64 b.al, nx', ac']) (hac : Bools w0 4 ac a.acc) (hac' : Bools w0 4 ac' b.acc) (hgo : BClo Try.prog w0 gv g) (hv : validA a = true) (hv' : validA b = true) (hq : InP a b q) : Ret Try.prog 78 #[Value.int .i64 q, Value.pointer (some ⟨bg, 0, none⟩), Value.pointer (some ⟨ba, 0, none⟩), Value.pointer (some ⟨bn, 0, none⟩), Value.pointer (some ⟨bb, 0, none⟩)] w0 (fun v w => v = .bool (g (accA a (q / (List.length b.next : Int))) (accA b (q % (List.length b.next : Int)))) ∧ Ext w0 w) := by
  have E := Ext.refl w0
  obtain ⟨kg, fg, cg, hgv, hFg, hgoal⟩ := hgo
  have hz := zero_in hv'
  have hz1 := (validA_spec.1 hv).2
  have hz2 := (validA_spec.1 hv').2
  have hdv : (0 ≤ q / (List.length b.next : Int) ∧ q / (List.length b.next : Int) < (a.next.length : Int)) ∧ 0 ≤ q % (List.length b.next : Int) ∧ q % (List.length b.next : Int) < (List.length b.next : Int) := inP_div hv' hq
  have hqb : 0 ≤ q ∧ q ≤ 144 := ⟨hq.1, by have h8 := hq.2; have h9 := le144 hv hv'; omega⟩
  refine Ret.of (args := [Value.int .i64 q, Value.pointer (some ⟨bg, 0, none⟩), Value.pointer (some ⟨ba, 0, none⟩), Value.pointer (some ⟨bn, 0, none⟩), Value.pointer (some ⟨bb, 0, none⟩)]) Try.func78 rfl rfl rfl ?_
  rintro _ rfl
  show Cq _ _ _ _ [(0, Value.int .i64 q), (1, Value.pointer (some ⟨bg, 0, none⟩)), (2, Value.pointer (some ⟨ba, 0, none⟩)), (3, Value.pointer (some ⟨bn, 0, none⟩)), (4, Value.pointer (some ⟨bb, 0, none⟩))] _
  refine Cq.seq ?_
  refine Cq.region ?_
  refine Sq.assign .plain rfl rfl ?_
  refine Sq.nil ?_
  refine Eq.next ?_
  refine Cq.seq ?_
  obtain ⟨phpA, hpA⟩ := Bools.at hac (i := q / (List.length b.next : Int)) (by omega) (by omega)
  obtain ⟨phpB, hpB⟩ := Bools.at hac' (i := q % (List.length b.next : Int)) (by omega) (by omega)
  refine Cq.drawS 16 (fun w' => Blk w' bg 64 [gv] ∧ Blk w' ba 26 [Value.int .i64 a.al, nx, ac] ∧ Blk w' bn 3 [Value.int .i64 (List.length b.next : Int)] ∧ Blk w' bb 26 [Value.int .i64 b.al, nx', ac'] ∧ At w' 4 ac (q / (List.length b.next : Int)) phpA (.bool (a.acc.getD (q / (List.length b.next : Int)).toNat false)) ∧ At w' 4 ac' (q % (List.length b.next : Int)) phpB (.bool (b.acc.getD (q % (List.length b.next : Int)).toNat false)) ∧ Ext w0 w') mixed (⟨hG, hA, hN, hB, hpA, hpB, E⟩) (fun w1 e2 hS => ?_)
  clear hS
  have hs3 := Below.size e2
  replace E := E.trans e2
  replace hG := hG.ext e2
  replace hA := hA.ext e2
  replace hN := hN.ext e2
  replace hB := hB.ext e2
  replace hpA := hpA.ext e2
  replace hpB := hpB.ext e2
  refine Gq.st 0 rfl (by kernel_rfl) rfl .plain rfl (fun _ _ _ h => h) ⟨hG, hA, hN, hB, hpA, hpB, E⟩ (fun w' x => Still.loadB one64 rfl x.1 rfl) ?_
  refine Gq.st 1 rfl (by kernel_rfl) rfl .plain rfl (fun _ _ _ h => h) ⟨hG, hA, hN, hB, hpA, hpB, E⟩ (fun w' x => Still.fieldAddr fld26_2 rfl) ?_
  refine Gq.st 2 rfl (by kernel_rfl) rfl .plain rfl (fun _ _ _ h => h) ⟨hG, hA, hN, hB, hpA, hpB, E⟩ (fun w' x => Still.loadB one24 rfl x.2.1 rfl) ?_
  refine Gq.st 3 rfl (by kernel_rfl) rfl .plain rfl (fun _ _ _ h => h) ⟨hG, hA, hN, hB, hpA, hpB, E⟩ (fun w' x => Still.move rfl) ?_
  refine Gq.st 4 rfl (by kernel_rfl) rfl .plain rfl (fun _ _ _ h => h) ⟨hG, hA, hN, hB, hpA, hpB, E⟩ (fun w' x => Still.loadB one3 rfl x.2.2.1 rfl) ?_
  refine Gq.st 5 rfl (by kernel_rfl) rfl .plain rfl (fun _ _ _ h => h) ⟨hG, hA, hN, hB, hpA, hpB, E⟩ (fun w' x => Still.quo rfl rfl (by omega)) ?_
  refine Gq.st 6 rfl (by kernel_rfl) rfl .plain rfl (fun _ _ _ h => h) ⟨hG, hA, hN, hB, hpA, hpB, E⟩ (fun w' x => Still.at' sl24 hpA rfl rfl) ?_
  refine Gq.st 7 rfl (by kernel_rfl) rfl .plain rfl (fun _ _ _ h => h) ⟨hG, hA, hN, hB, hpA, hpB, E⟩ (fun w' x => Still.loadA one4 rfl (x.2.2.2.2.1).1) ?_
  refine Gq.st 8 rfl (by kernel_rfl) rfl .plain rfl (fun _ _ _ h => h) ⟨hG, hA, hN, hB, hpA, hpB, E⟩ (fun w' x => Still.fieldAddr fld26_2 rfl) ?_
  refine Gq.st 9 rfl (by kernel_rfl) rfl .plain rfl (fun _ _ _ h => h) ⟨hG, hA, hN, hB, hpA, hpB, E⟩ (fun w' x => Still.loadB one24 rfl x.2.2.2.1 rfl) ?_
  refine Gq.st 10 rfl (by kernel_rfl) rfl .plain rfl (fun _ _ _ h => h) ⟨hG, hA, hN, hB, hpA, hpB, E⟩ (fun w' x => Still.move rfl) ?_
  refine Gq.st 11 rfl (by kernel_rfl) rfl .plain rfl (fun _ _ _ h => h) ⟨hG, hA, hN, hB, hpA, hpB, E⟩ (fun w' x => Still.loadB one3 rfl x.2.2.1 rfl) ?_
  refine Gq.st 12 rfl (by kernel_rfl) rfl .plain rfl (fun _ _ _ h => h) ⟨hG, hA, hN, hB, hpA, hpB, E⟩ (fun w' x => Still.rem rfl rfl (by omega)) ?_
  refine Gq.st 13 rfl (by kernel_rfl) rfl .plain rfl (fun _ _ _ h => h) ⟨hG, hA, hN, hB, hpA, hpB, E⟩ (fun w' x => Still.at' sl24 hpB rfl rfl) ?_
  refine Gq.st 14 rfl (by kernel_rfl) rfl .plain rfl (fun _ _ _ h => h) ⟨hG, hA, hN, hB, hpA, hpB, E⟩ (fun w' x => Still.loadA one4 rfl (x.2.2.2.2.2.1).1) ?_
  refine Gq.one 15 rfl (by kernel_rfl) ?_
  refine Sq.callC hFg .plain rfl (by rw [← hgv]; rfl) rfl (hgoal _ _ _ E) ?_
  rintro _ w4 ⟨rfl, e5⟩
  have hs6 := Below.size e5
  replace E := E.trans e5
  replace hG := hG.ext e5
  replace hA := hA.ext e5
  replace hN := hN.ext e5
  replace hB := hB.ext e5
  replace hpA := hpA.ext e5
  replace hpB := hpB.ext e5
  refine Sq.nil ?_
  refine Eq.goes (fun _ => ⟨hG, hA, hN, hB, hpA, hpB, E⟩) ?_
  refine Gq.one 16 rfl (by kernel_rfl) ?_
  refine Sq.assign .plain rfl rfl ?_
  refine Sq.nil ?_
  refine Eq.goes (fun h => absurd h (by decide)) ?_
  refine Gq.done (by kernel_rfl) ?_
  refine Eq.next ?_
  refine Cq.ret ?_
  refine Eq.ret1 rfl rfl ?_
  exact ⟨rfl, E⟩
set_option maxHeartbeats 1000000 in
set_option maxRecDepth 100000 in
theorem firstOfBoth_c (w0 : World) (a b : A) (nx ac nx' ac' : Value) (hnx : Rows w0 55 3 nx a.next) (hac : Bools w0 4 ac a.acc) (hnx' : Rows w0 55 3 nx' b.next) (hac' : Bools w0 4 ac' b.acc) (gv : Value) (g : Bool → Bool → Bool) (hgo : BClo Try.prog w0 gv g) (i0 j0 : Int) (hv : validA a = true) (hv' : validA b = true) (hp : In2 a b (i0, j0)) : Ret Try.prog 51 #[Value.agg #[Value.int .i64 a.al, nx, ac], Value.agg #[Value.int .i64 b.al, nx', ac'], Value.int .i64 i0, Value.int .i64 j0, gv] w0 (fun v w => v = resW (firstAB a b (i0, j0) g) ∧ Ext w0 w) := by
  have E := Ext.refl w0
  have hal := (validA_spec.1 hv).1
  have h144 := le144 hv hv'
  have hz1 := (validA_spec.1 hv).2
  have hz2 := (validA_spec.1 hv').2
  have hp1 := hp.1
  have hp2 := hp.2
  simp only at hp1 hp2
  have hee := inP_enc (p := (i0, j0)) hp
  unfold InP enc2 at hee
  simp only at hee
  have hm1 := mul144 hv hv'
  have hm2 := (Int.mul_nonneg (a := i0) (b := (List.length b.next : Int)) (by omega) (by omega))
  refine Ret.of (args := [Value.agg #[Value.int .i64 a.al, nx, ac], Value.agg #[Value.int .i64 b.al, nx', ac'], Value.int .i64 i0, Value.int .i64 j0, gv]) Try.func51 rfl rfl rfl ?_
  rintro _ rfl
  show Cq _ _ _ _ [(0, Value.agg #[Value.int .i64 a.al, nx, ac]), (1, Value.agg #[Value.int .i64 b.al, nx', ac']), (2, Value.int .i64 i0), (3, Value.int .i64 j0), (4, gv)] _
  refine Cq.seq ?_
  refine Cq.region ?_
  refine Sq.box .plain rfl rfl (fun b1 w2 e3 hB4 hlo5 => ?_)
  have hd6 := Nat.le_trans (Below.size E) hlo5
  have hs7 := Below.size e3
  replace E := E.trans e3
  refine Sq.box .plain rfl rfl (fun b8 w9 e10 hB11 hlo12 => ?_)
  have hd13 := Nat.le_trans (Below.size E) hlo12
  have hd14 := Nat.lt_of_lt_of_le hB4.lt hlo12
  have hs15 := Below.size e10
  replace E := E.trans e10
  replace hB4 := hB4.ext e10
  refine Sq.box1 .plain rfl rfl (BClo.one hgo) (fun b16 w17 e18 hB19 hlo20 => ?_)
  have hd21 := Nat.le_trans (Below.size E) hlo20
  have hd22 := Nat.lt_of_lt_of_le hB4.lt hlo20
  have hd23 := Nat.lt_of_lt_of_le hB11.lt hlo20
  have hs24 := Below.size e18
  replace E := E.trans e18
  replace hB4 := hB4.ext e18
  replace hB11 := hB11.ext e18
  refine Sq.assign .plain rfl rfl ?_
  refine Sq.assign .plain rfl rfl ?_
  refine Sq.nil ?_
  refine Eq.next ?_
  refine Cq.seq ?_
  refine Cq.cut (fun ls w => ∃ (c8 : Nat), ∃ (c9 : Nat), ∃ (t1 : Nat), ∃ (t2 : Nat), ∃ (xs : List Int), ∃ (ys0 : List Int), ls = [(2, Value.int .i64 i0), (3, Value.int .i64 j0), (5, Value.pointer (some ⟨b1, 0, none⟩)), (6, Value.pointer (some ⟨b8, 0, none⟩)), (9, Value.pointer (some ⟨b16, 0, none⟩)), (12, Value.pointer (some ⟨c8, 0, none⟩)), (13, Value.pointer (some ⟨c9, 0, none⟩))] ∧ Blk w c8 52 [Value.slice (some ⟨t1, 0, none⟩) a.next.length a.next.length] ∧ Blk w c9 52 [Value.slice (some ⟨t2, 0, none⟩) b.next.length b.next.length] ∧ Blk w t1 57 (xs.map (Value.int .i64)) ∧ Blk w t2 57 (ys0.map (Value.int .i64)) ∧ Tab a xs ∧ Tab b ys0 ∧ (b1 < c8 ∧ b1 < c9 ∧ b1 < t1 ∧ b1 < t2 ∧ b8 < c8 ∧ b8 < c9 ∧ b8 < t1 ∧ b8 < t2 ∧ b16 < c8 ∧ b16 < c9 ∧ b16 < t1 ∧ b16 < t2) ∧ Ext w0 w ∧ Blk w b1 26 [Value.int .i64 a.al, nx, ac] ∧ Blk w b8 26 [Value.int .i64 b.al, nx', ac'] ∧ Blk w b16 64 [gv]) ?_ ?_
  · refine Cq.drawS 7 (fun w' => Blk w' b1 26 [Value.int .i64 a.al, nx, ac] ∧ Blk w' b8 26 [Value.int .i64 b.al, nx', ac']) mixed (⟨hB4, hB11⟩) (fun w25 e26 hS => ?_)
    clear hS
    have hs27 := Below.size e26
    replace E := E.trans e26
    replace hB4 := hB4.ext e26
    replace hB11 := hB11.ext e26
    replace hB19 := hB19.ext e26
    refine Gq.st 0 rfl (by kernel_rfl) rfl .plain rfl (fun _ _ _ h => h) ⟨hB4, hB11⟩ (fun w' x => Still.loadAgg agg26 rfl x.1 rfl) ?_
    refine Gq.st 2 rfl (by kernel_rfl) rfl .plain rfl (fun _ _ _ h => h) ⟨hB4, hB11⟩ (fun w' x => Still.loadAgg agg26 rfl x.2 rfl) ?_
    refine Gq.three 1 4 5 rfl rfl rfl (by kernel_rfl) ?_ ?_ ?_
    · have hd36 := hB4.lt
      have hd37 := hB11.lt
      have hd38 := hB19.lt
      refine Sq.call fn43 .plain rfl rfl (tableOf_c _ a _ _ (hnx.ext E) (hac.ext E) hv) ?_
      rintro _ w29 ⟨⟨b31, xs32, rfl, hlo33, hT34, hTab35⟩, e30⟩
      have hs39 := Below.size E
      have hs40 := Below.size e30
      replace E := E.trans e30
      replace hB4 := hB4.ext e30
      replace hB11 := hB11.ext e30
      replace hB19 := hB19.ext e30
      refine Sq.nil ?_
      refine Eq.goes (fun _ => ⟨hB4, hB11⟩) ?_
      refine Gq.three 3 4 5 rfl rfl rfl (by kernel_rfl) ?_ ?_ ?_
      · have hd49 := hB4.lt
        have hd50 := hB11.lt
        have hd51 := hB19.lt
        have hd52 := hT34.lt
        refine Sq.call fn43 .plain rfl rfl (tableOf_c _ b _ _ (hnx'.ext E) (hac'.ext E) hv') ?_
        rintro _ w42 ⟨⟨b44, xs45, rfl, hlo46, hT47, hTab48⟩, e43⟩
        have hs53 := Below.size E
        have hs54 := Below.size e43
        replace E := E.trans e43
        replace hB4 := hB4.ext e43
        replace hB11 := hB11.ext e43
        replace hB19 := hB19.ext e43
        replace hT34 := hT34.ext e43
        refine Sq.nil ?_
        refine Eq.goes (fun _ => ⟨hB4, hB11⟩) ?_
        refine Gq.two 4 5 rfl rfl (by kernel_rfl) ?_ ?_
        · refine Sq.alloc1 zero52 rfl .plain rfl (fun b55 w56 e57 hB58 hlo59 => ?_)
          have hd60 := Nat.le_trans (Below.size E) hlo59
          have hd61 := Nat.lt_of_lt_of_le hB4.lt hlo59
          have hd62 := Nat.lt_of_lt_of_le hB11.lt hlo59
          have hd63 := Nat.lt_of_lt_of_le hB19.lt hlo59
          have hd64 := Nat.lt_of_lt_of_le hT34.lt hlo59
          have hd65 := Nat.lt_of_lt_of_le hT47.lt hlo59
          have hs66 := Below.size e57
          replace E := E.trans e57
          replace hB4 := hB4.ext e57
          replace hB11 := hB11.ext e57
          replace hB19 := hB19.ext e57
          replace hT34 := hT34.ext e57
          replace hT47 := hT47.ext e57
          refine Sq.nil ?_
          refine Eq.goes (fun _ => ⟨hB4, hB11⟩) ?_
          refine Gq.one 5 rfl (by kernel_rfl) ?_
          refine Sq.alloc1 zero52 rfl .plain rfl (fun b67 w68 e69 hB70 hlo71 => ?_)
          have hd72 := Nat.le_trans (Below.size E) hlo71
          have hd73 := Nat.lt_of_lt_of_le hB4.lt hlo71
          have hd74 := Nat.lt_of_lt_of_le hB11.lt hlo71
          have hd75 := Nat.lt_of_lt_of_le hB19.lt hlo71
          have hd76 := Nat.lt_of_lt_of_le hT34.lt hlo71
          have hd77 := Nat.lt_of_lt_of_le hT47.lt hlo71
          have hd78 := Nat.lt_of_lt_of_le hB58.lt hlo71
          have hs79 := Below.size e69
          replace E := E.trans e69
          replace hB4 := hB4.ext e69
          replace hB11 := hB11.ext e69
          replace hB19 := hB19.ext e69
          replace hT34 := hT34.ext e69
          replace hT47 := hT47.ext e69
          replace hB58 := hB58.ext e69
          refine Sq.nil ?_
          refine Eq.goes (fun _ => ⟨hB4, hB11⟩) ?_
          refine Gq.one 6 rfl (by kernel_rfl) ?_
          refine Sq.store one52 .plain rfl rfl rfl hB58 (by simp) (fun w80 g81 hB82 => ?_)
          have hs83 := World.grownBy.size g81
          replace E := E.grown g81 (fun k hk => by injection hk with hk; subst hk; omega)
          replace hB4 := hB4.grown g81 (by intro h; injection h with h; omega)
          replace hB11 := hB11.grown g81 (by intro h; injection h with h; omega)
          replace hB19 := hB19.grown g81 (by intro h; injection h with h; omega)
          replace hT34 := hT34.grown g81 (by intro h; injection h with h; omega)
          replace hT47 := hT47.grown g81 (by intro h; injection h with h; omega)
          replace hB70 := hB70.grown g81 (by intro h; injection h with h; omega)
          replace hB58 := hB82
          refine Sq.nil ?_
          refine Eq.goes (fun _ => ⟨hB4, hB11⟩) ?_
          refine Gq.one 7 rfl (by kernel_rfl) ?_
          refine Sq.store one52 .plain rfl rfl rfl hB70 (by simp) (fun w84 g85 hB86 => ?_)
          have hs87 := World.grownBy.size g85
          replace E := E.grown g85 (fun k hk => by injection hk with hk; subst hk; omega)
          replace hB4 := hB4.grown g85 (by intro h; injection h with h; omega)
          replace hB11 := hB11.grown g85 (by intro h; injection h with h; omega)
          replace hB19 := hB19.grown g85 (by intro h; injection h with h; omega)
          replace hT34 := hT34.grown g85 (by intro h; injection h with h; omega)
          replace hT47 := hT47.grown g85 (by intro h; injection h with h; omega)
          replace hB58 := hB58.grown g85 (by intro h; injection h with h; omega)
          replace hB70 := hB86
          refine Sq.nil ?_
          refine Eq.goes (fun h => absurd h (by decide)) ?_
          refine Gq.done (by kernel_rfl) ?_
          refine Eq.left _ ⟨b55, b67, _, _, _, _, rfl, hB58, hB70, hT34, hT47, hTab35, hTab48, by omega, E, hB4, hB11, hB19⟩ (.cons rfl (.cons rfl (.cons rfl (.cons rfl (.cons rfl (.cons rfl (.cons rfl (.nil))))))))
        refine Sq.alloc1 zero52 rfl .plain rfl (fun b88 w89 e90 hB91 hlo92 => ?_)
        have hd93 := Nat.le_trans (Below.size E) hlo92
        have hd94 := Nat.lt_of_lt_of_le hB4.lt hlo92
        have hd95 := Nat.lt_of_lt_of_le hB11.lt hlo92
        have hd96 := Nat.lt_of_lt_of_le hB19.lt hlo92
        have hd97 := Nat.lt_of_lt_of_le hT34.lt hlo92
        have hd98 := Nat.lt_of_lt_of_le hT47.lt hlo92
        have hs99 := Below.size e90
        replace E := E.trans e90
        replace hB4 := hB4.ext e90
        replace hB11 := hB11.ext e90
        replace hB19 := hB19.ext e90
        replace hT34 := hT34.ext e90
        replace hT47 := hT47.ext e90
        refine Sq.nil ?_
        refine Eq.goes (fun _ => ⟨hB4, hB11⟩) ?_
        refine Gq.one 4 rfl (by kernel_rfl) ?_
        refine Sq.alloc1 zero52 rfl .plain rfl (fun b100 w101 e102 hB103 hlo104 => ?_)
        have hd105 := Nat.le_trans (Below.size E) hlo104
        have hd106 := Nat.lt_of_lt_of_le hB4.lt hlo104
        have hd107 := Nat.lt_of_lt_of_le hB11.lt hlo104
        have hd108 := Nat.lt_of_lt_of_le hB19.lt hlo104
        have hd109 := Nat.lt_of_lt_of_le hT34.lt hlo104
        have hd110 := Nat.lt_of_lt_of_le hT47.lt hlo104
        have hd111 := Nat.lt_of_lt_of_le hB91.lt hlo104
        have hs112 := Below.size e102
        replace E := E.trans e102
        replace hB4 := hB4.ext e102
        replace hB11 := hB11.ext e102
        replace hB19 := hB19.ext e102
        replace hT34 := hT34.ext e102
        replace hT47 := hT47.ext e102
        replace hB91 := hB91.ext e102
        refine Sq.nil ?_
        refine Eq.goes (fun _ => ⟨hB4, hB11⟩) ?_
        refine Gq.one 6 rfl (by kernel_rfl) ?_
        refine Sq.store one52 .plain rfl rfl rfl hB103 (by simp) (fun w113 g114 hB115 => ?_)
        have hs116 := World.grownBy.size g114
        replace E := E.grown g114 (fun k hk => by injection hk with hk; subst hk; omega)
        replace hB4 := hB4.grown g114 (by intro h; injection h with h; omega)
        replace hB11 := hB11.grown g114 (by intro h; injection h with h; omega)
        replace hB19 := hB19.grown g114 (by intro h; injection h with h; omega)
        replace hT34 := hT34.grown g114 (by intro h; injection h with h; omega)
        replace hT47 := hT47.grown g114 (by intro h; injection h with h; omega)
        replace hB91 := hB91.grown g114 (by intro h; injection h with h; omega)
        replace hB103 := hB115
        refine Sq.nil ?_
        refine Eq.goes (fun _ => ⟨hB4, hB11⟩) ?_
        refine Gq.one 7 rfl (by kernel_rfl) ?_
        refine Sq.store one52 .plain rfl rfl rfl hB91 (by simp) (fun w117 g118 hB119 => ?_)
        have hs120 := World.grownBy.size g118
        replace E := E.grown g118 (fun k hk => by injection hk with hk; subst hk; omega)
        replace hB4 := hB4.grown g118 (by intro h; injection h with h; omega)
        replace hB11 := hB11.grown g118 (by intro h; injection h with h; omega)
        replace hB19 := hB19.grown g118 (by intro h; injection h with h; omega)
        replace hT34 := hT34.grown g118 (by intro h; injection h with h; omega)
        replace hT47 := hT47.grown g118 (by intro h; injection h with h; omega)
        replace hB103 := hB103.grown g118 (by intro h; injection h with h; omega)
        replace hB91 := hB119
        refine Sq.nil ?_
        refine Eq.goes (fun h => absurd h (by decide)) ?_
        refine Gq.done (by kernel_rfl) ?_
        refine Eq.left _ ⟨b100, b88, _, _, _, _, rfl, hB103, hB91, hT34, hT47, hTab35, hTab48, by omega, E, hB4, hB11, hB19⟩ (.cons rfl (.cons rfl (.cons rfl (.cons rfl (.cons rfl (.cons rfl (.cons rfl (.nil))))))))
      · refine Sq.alloc1 zero52 rfl .plain rfl (fun b121 w122 e123 hB124 hlo125 => ?_)
        have hd126 := Nat.le_trans (Below.size E) hlo125
        have hd127 := Nat.lt_of_lt_of_le hB4.lt hlo125
        have hd128 := Nat.lt_of_lt_of_le hB11.lt hlo125
        have hd129 := Nat.lt_of_lt_of_le hB19.lt hlo125
        have hd130 := Nat.lt_of_lt_of_le hT34.lt hlo125
        have hs131 := Below.size e123
        replace E := E.trans e123
        replace hB4 := hB4.ext e123
        replace hB11 := hB11.ext e123
        replace hB19 := hB19.ext e123
        replace hT34 := hT34.ext e123
        refine Sq.nil ?_
        refine Eq.goes (fun _ => ⟨hB4, hB11⟩) ?_
        refine Gq.two 3 5 rfl rfl (by kernel_rfl) ?_ ?_
        · have hd140 := hB4.lt
          have hd141 := hB11.lt
          have hd142 := hB19.lt
          have hd143 := hT34.lt
          have hd144 := hB124.lt
          refine Sq.call fn43 .plain rfl rfl (tableOf_c _ b _ _ (hnx'.ext E) (hac'.ext E) hv') ?_
          rintro _ w133 ⟨⟨b135, xs136, rfl, hlo137, hT138, hTab139⟩, e134⟩
          have hs145 := Below.size E
          have hs146 := Below.size e134
          replace E := E.trans e134
          replace hB4 := hB4.ext e134
          replace hB11 := hB11.ext e134
          replace hB19 := hB19.ext e134
          replace hT34 := hT34.ext e134
          replace hB124 := hB124.ext e134
          refine Sq.nil ?_
          refine Eq.goes (fun _ => ⟨hB4, hB11⟩) ?_
          refine Gq.one 5 rfl (by kernel_rfl) ?_
          refine Sq.alloc1 zero52 rfl .plain rfl (fun b147 w148 e149 hB150 hlo151 => ?_)
          have hd152 := Nat.le_trans (Below.size E) hlo151
          have hd153 := Nat.lt_of_lt_of_le hB4.lt hlo151
          have hd154 := Nat.lt_of_lt_of_le hB11.lt hlo151
          have hd155 := Nat.lt_of_lt_of_le hB19.lt hlo151
          have hd156 := Nat.lt_of_lt_of_le hT34.lt hlo151
          have hd157 := Nat.lt_of_lt_of_le hB124.lt hlo151
          have hd158 := Nat.lt_of_lt_of_le hT138.lt hlo151
          have hs159 := Below.size e149
          replace E := E.trans e149
          replace hB4 := hB4.ext e149
          replace hB11 := hB11.ext e149
          replace hB19 := hB19.ext e149
          replace hT34 := hT34.ext e149
          replace hB124 := hB124.ext e149
          replace hT138 := hT138.ext e149
          refine Sq.nil ?_
          refine Eq.goes (fun _ => ⟨hB4, hB11⟩) ?_
          refine Gq.one 6 rfl (by kernel_rfl) ?_
          refine Sq.store one52 .plain rfl rfl rfl hB124 (by simp) (fun w160 g161 hB162 => ?_)
          have hs163 := World.grownBy.size g161
          replace E := E.grown g161 (fun k hk => by injection hk with hk; subst hk; omega)
          replace hB4 := hB4.grown g161 (by intro h; injection h with h; omega)
          replace hB11 := hB11.grown g161 (by intro h; injection h with h; omega)
          replace hB19 := hB19.grown g161 (by intro h; injection h with h; omega)
          replace hT34 := hT34.grown g161 (by intro h; injection h with h; omega)
          replace hT138 := hT138.grown g161 (by intro h; injection h with h; omega)
          replace hB150 := hB150.grown g161 (by intro h; injection h with h; omega)
          replace hB124 := hB162
          refine Sq.nil ?_
          refine Eq.goes (fun _ => ⟨hB4, hB11⟩) ?_
          refine Gq.one 7 rfl (by kernel_rfl) ?_
          refine Sq.store one52 .plain rfl rfl rfl hB150 (by simp) (fun w164 g165 hB166 => ?_)
          have hs167 := World.grownBy.size g165
          replace E := E.grown g165 (fun k hk => by injection hk with hk; subst hk; omega)
          replace hB4 := hB4.grown g165 (by intro h; injection h with h; omega)
          replace hB11 := hB11.grown g165 (by intro h; injection h with h; omega)
          replace hB19 := hB19.grown g165 (by intro h; injection h with h; omega)
          replace hT34 := hT34.grown g165 (by intro h; injection h with h; omega)
          replace hB124 := hB124.grown g165 (by intro h; injection h with h; omega)
          replace hT138 := hT138.grown g165 (by intro h; injection h with h; omega)
          replace hB150 := hB166
          refine Sq.nil ?_
          refine Eq.goes (fun h => absurd h (by decide)) ?_
          refine Gq.done (by kernel_rfl) ?_
          refine Eq.left _ ⟨b121, b147, _, _, _, _, rfl, hB124, hB150, hT34, hT138, hTab35, hTab139, by omega, E, hB4, hB11, hB19⟩ (.cons rfl (.cons rfl (.cons rfl (.cons rfl (.cons rfl (.cons rfl (.cons rfl (.nil))))))))
        refine Sq.alloc1 zero52 rfl .plain rfl (fun b168 w169 e170 hB171 hlo172 => ?_)
        have hd173 := Nat.le_trans (Below.size E) hlo172
        have hd174 := Nat.lt_of_lt_of_le hB4.lt hlo172
        have hd175 := Nat.lt_of_lt_of_le hB11.lt hlo172
        have hd176 := Nat.lt_of_lt_of_le hB19.lt hlo172
        have hd177 := Nat.lt_of_lt_of_le hT34.lt hlo172
        have hd178 := Nat.lt_of_lt_of_le hB124.lt hlo172
        have hs179 := Below.size e170
        replace E := E.trans e170
        replace hB4 := hB4.ext e170
        replace hB11 := hB11.ext e170
        replace hB19 := hB19.ext e170
        replace hT34 := hT34.ext e170
        replace hB124 := hB124.ext e170
        refine Sq.nil ?_
        refine Eq.goes (fun _ => ⟨hB4, hB11⟩) ?_
        refine Gq.one 3 rfl (by kernel_rfl) ?_
        have hd188 := hB4.lt
        have hd189 := hB11.lt
        have hd190 := hB19.lt
        have hd191 := hT34.lt
        have hd192 := hB124.lt
        have hd193 := hB171.lt
        refine Sq.call fn43 .plain rfl rfl (tableOf_c _ b _ _ (hnx'.ext E) (hac'.ext E) hv') ?_
        rintro _ w181 ⟨⟨b183, xs184, rfl, hlo185, hT186, hTab187⟩, e182⟩
        have hs194 := Below.size E
        have hs195 := Below.size e182
        replace E := E.trans e182
        replace hB4 := hB4.ext e182
        replace hB11 := hB11.ext e182
        replace hB19 := hB19.ext e182
        replace hT34 := hT34.ext e182
        replace hB124 := hB124.ext e182
        replace hB171 := hB171.ext e182
        refine Sq.nil ?_
        refine Eq.goes (fun _ => ⟨hB4, hB11⟩) ?_
        refine Gq.one 6 rfl (by kernel_rfl) ?_
        refine Sq.store one52 .plain rfl rfl rfl hB124 (by simp) (fun w196 g197 hB198 => ?_)
        have hs199 := World.grownBy.size g197
        replace E := E.grown g197 (fun k hk => by injection hk with hk; subst hk; omega)
        replace hB4 := hB4.grown g197 (by intro h; injection h with h; omega)
        replace hB11 := hB11.grown g197 (by intro h; injection h with h; omega)
        replace hB19 := hB19.grown g197 (by intro h; injection h with h; omega)
        replace hT34 := hT34.grown g197 (by intro h; injection h with h; omega)
        replace hB171 := hB171.grown g197 (by intro h; injection h with h; omega)
        replace hT186 := hT186.grown g197 (by intro h; injection h with h; omega)
        replace hB124 := hB198
        refine Sq.nil ?_
        refine Eq.goes (fun _ => ⟨hB4, hB11⟩) ?_
        refine Gq.one 7 rfl (by kernel_rfl) ?_
        refine Sq.store one52 .plain rfl rfl rfl hB171 (by simp) (fun w200 g201 hB202 => ?_)
        have hs203 := World.grownBy.size g201
        replace E := E.grown g201 (fun k hk => by injection hk with hk; subst hk; omega)
        replace hB4 := hB4.grown g201 (by intro h; injection h with h; omega)
        replace hB11 := hB11.grown g201 (by intro h; injection h with h; omega)
        replace hB19 := hB19.grown g201 (by intro h; injection h with h; omega)
        replace hT34 := hT34.grown g201 (by intro h; injection h with h; omega)
        replace hB124 := hB124.grown g201 (by intro h; injection h with h; omega)
        replace hT186 := hT186.grown g201 (by intro h; injection h with h; omega)
        replace hB171 := hB202
        refine Sq.nil ?_
        refine Eq.goes (fun h => absurd h (by decide)) ?_
        refine Gq.done (by kernel_rfl) ?_
        refine Eq.left _ ⟨b121, b168, _, _, _, _, rfl, hB124, hB171, hT34, hT186, hTab35, hTab187, by omega, E, hB4, hB11, hB19⟩ (.cons rfl (.cons rfl (.cons rfl (.cons rfl (.cons rfl (.cons rfl (.cons rfl (.nil))))))))
      refine Sq.alloc1 zero52 rfl .plain rfl (fun b204 w205 e206 hB207 hlo208 => ?_)
      have hd209 := Nat.le_trans (Below.size E) hlo208
      have hd210 := Nat.lt_of_lt_of_le hB4.lt hlo208
      have hd211 := Nat.lt_of_lt_of_le hB11.lt hlo208
      have hd212 := Nat.lt_of_lt_of_le hB19.lt hlo208
      have hd213 := Nat.lt_of_lt_of_le hT34.lt hlo208
      have hs214 := Below.size e206
      replace E := E.trans e206
      replace hB4 := hB4.ext e206
      replace hB11 := hB11.ext e206
      replace hB19 := hB19.ext e206
      replace hT34 := hT34.ext e206
      refine Sq.nil ?_
      refine Eq.goes (fun _ => ⟨hB4, hB11⟩) ?_
      refine Gq.two 3 4 rfl rfl (by kernel_rfl) ?_ ?_
      · have hd223 := hB4.lt
        have hd224 := hB11.lt
        have hd225 := hB19.lt
        have hd226 := hT34.lt
        have hd227 := hB207.lt
        refine Sq.call fn43 .plain rfl rfl (tableOf_c _ b _ _ (hnx'.ext E) (hac'.ext E) hv') ?_
        rintro _ w216 ⟨⟨b218, xs219, rfl, hlo220, hT221, hTab222⟩, e217⟩
        have hs228 := Below.size E
        have hs229 := Below.size e217
        replace E := E.trans e217
        replace hB4 := hB4.ext e217
        replace hB11 := hB11.ext e217
        replace hB19 := hB19.ext e217
        replace hT34 := hT34.ext e217
        replace hB207 := hB207.ext e217
        refine Sq.nil ?_
        refine Eq.goes (fun _ => ⟨hB4, hB11⟩) ?_
        refine Gq.one 4 rfl (by kernel_rfl) ?_
        refine Sq.alloc1 zero52 rfl .plain rfl (fun b230 w231 e232 hB233 hlo234 => ?_)
        have hd235 := Nat.le_trans (Below.size E) hlo234
        have hd236 := Nat.lt_of_lt_of_le hB4.lt hlo234
        have hd237 := Nat.lt_of_lt_of_le hB11.lt hlo234
        have hd238 := Nat.lt_of_lt_of_le hB19.lt hlo234
        have hd239 := Nat.lt_of_lt_of_le hT34.lt hlo234
        have hd240 := Nat.lt_of_lt_of_le hB207.lt hlo234
        have hd241 := Nat.lt_of_lt_of_le hT221.lt hlo234
        have hs242 := Below.size e232
        replace E := E.trans e232
        replace hB4 := hB4.ext e232
        replace hB11 := hB11.ext e232
        replace hB19 := hB19.ext e232
        replace hT34 := hT34.ext e232
        replace hB207 := hB207.ext e232
        replace hT221 := hT221.ext e232
        refine Sq.nil ?_
        refine Eq.goes (fun _ => ⟨hB4, hB11⟩) ?_
        refine Gq.one 6 rfl (by kernel_rfl) ?_
        refine Sq.store one52 .plain rfl rfl rfl hB233 (by simp) (fun w243 g244 hB245 => ?_)
        have hs246 := World.grownBy.size g244
        replace E := E.grown g244 (fun k hk => by injection hk with hk; subst hk; omega)
        replace hB4 := hB4.grown g244 (by intro h; injection h with h; omega)
        replace hB11 := hB11.grown g244 (by intro h; injection h with h; omega)
        replace hB19 := hB19.grown g244 (by intro h; injection h with h; omega)
        replace hT34 := hT34.grown g244 (by intro h; injection h with h; omega)
        replace hB207 := hB207.grown g244 (by intro h; injection h with h; omega)
        replace hT221 := hT221.grown g244 (by intro h; injection h with h; omega)
        replace hB233 := hB245
        refine Sq.nil ?_
        refine Eq.goes (fun _ => ⟨hB4, hB11⟩) ?_
        refine Gq.one 7 rfl (by kernel_rfl) ?_
        refine Sq.store one52 .plain rfl rfl rfl hB207 (by simp) (fun w247 g248 hB249 => ?_)
        have hs250 := World.grownBy.size g248
        replace E := E.grown g248 (fun k hk => by injection hk with hk; subst hk; omega)
        replace hB4 := hB4.grown g248 (by intro h; injection h with h; omega)
        replace hB11 := hB11.grown g248 (by intro h; injection h with h; omega)
        replace hB19 := hB19.grown g248 (by intro h; injection h with h; omega)
        replace hT34 := hT34.grown g248 (by intro h; injection h with h; omega)
        replace hT221 := hT221.grown g248 (by intro h; injection h with h; omega)
        replace hB233 := hB233.grown g248 (by intro h; injection h with h; omega)
        replace hB207 := hB249
        refine Sq.nil ?_
        refine Eq.goes (fun h => absurd h (by decide)) ?_
        refine Gq.done (by kernel_rfl) ?_
        refine Eq.left _ ⟨b230, b204, _, _, _, _, rfl, hB233, hB207, hT34, hT221, hTab35, hTab222, by omega, E, hB4, hB11, hB19⟩ (.cons rfl (.cons rfl (.cons rfl (.cons rfl (.cons rfl (.cons rfl (.cons rfl (.nil))))))))
      refine Sq.alloc1 zero52 rfl .plain rfl (fun b251 w252 e253 hB254 hlo255 => ?_)
      have hd256 := Nat.le_trans (Below.size E) hlo255
      have hd257 := Nat.lt_of_lt_of_le hB4.lt hlo255
      have hd258 := Nat.lt_of_lt_of_le hB11.lt hlo255
      have hd259 := Nat.lt_of_lt_of_le hB19.lt hlo255
      have hd260 := Nat.lt_of_lt_of_le hT34.lt hlo255
      have hd261 := Nat.lt_of_lt_of_le hB207.lt hlo255
      have hs262 := Below.size e253
      replace E := E.trans e253
      replace hB4 := hB4.ext e253
      replace hB11 := hB11.ext e253
      replace hB19 := hB19.ext e253
      replace hT34 := hT34.ext e253
      replace hB207 := hB207.ext e253
      refine Sq.nil ?_
      refine Eq.goes (fun _ => ⟨hB4, hB11⟩) ?_
      refine Gq.one 3 rfl (by kernel_rfl) ?_
      have hd271 := hB4.lt
      have hd272 := hB11.lt
      have hd273 := hB19.lt
      have hd274 := hT34.lt
      have hd275 := hB207.lt
      have hd276 := hB254.lt
      refine Sq.call fn43 .plain rfl rfl (tableOf_c _ b _ _ (hnx'.ext E) (hac'.ext E) hv') ?_
      rintro _ w264 ⟨⟨b266, xs267, rfl, hlo268, hT269, hTab270⟩, e265⟩
      have hs277 := Below.size E
      have hs278 := Below.size e265
      replace E := E.trans e265
      replace hB4 := hB4.ext e265
      replace hB11 := hB11.ext e265
      replace hB19 := hB19.ext e265
      replace hT34 := hT34.ext e265
      replace hB207 := hB207.ext e265
      replace hB254 := hB254.ext e265
      refine Sq.nil ?_
      refine Eq.goes (fun _ => ⟨hB4, hB11⟩) ?_
      refine Gq.one 6 rfl (by kernel_rfl) ?_
      refine Sq.store one52 .plain rfl rfl rfl hB254 (by simp) (fun w279 g280 hB281 => ?_)
      have hs282 := World.grownBy.size g280
      replace E := E.grown g280 (fun k hk => by injection hk with hk; subst hk; omega)
      replace hB4 := hB4.grown g280 (by intro h; injection h with h; omega)
      replace hB11 := hB11.grown g280 (by intro h; injection h with h; omega)
      replace hB19 := hB19.grown g280 (by intro h; injection h with h; omega)
      replace hT34 := hT34.grown g280 (by intro h; injection h with h; omega)
      replace hB207 := hB207.grown g280 (by intro h; injection h with h; omega)
      replace hT269 := hT269.grown g280 (by intro h; injection h with h; omega)
      replace hB254 := hB281
      refine Sq.nil ?_
      refine Eq.goes (fun _ => ⟨hB4, hB11⟩) ?_
      refine Gq.one 7 rfl (by kernel_rfl) ?_
      refine Sq.store one52 .plain rfl rfl rfl hB207 (by simp) (fun w283 g284 hB285 => ?_)
      have hs286 := World.grownBy.size g284
      replace E := E.grown g284 (fun k hk => by injection hk with hk; subst hk; omega)
      replace hB4 := hB4.grown g284 (by intro h; injection h with h; omega)
      replace hB11 := hB11.grown g284 (by intro h; injection h with h; omega)
      replace hB19 := hB19.grown g284 (by intro h; injection h with h; omega)
      replace hT34 := hT34.grown g284 (by intro h; injection h with h; omega)
      replace hB254 := hB254.grown g284 (by intro h; injection h with h; omega)
      replace hT269 := hT269.grown g284 (by intro h; injection h with h; omega)
      replace hB207 := hB285
      refine Sq.nil ?_
      refine Eq.goes (fun h => absurd h (by decide)) ?_
      refine Gq.done (by kernel_rfl) ?_
      refine Eq.left _ ⟨b251, b204, _, _, _, _, rfl, hB254, hB207, hT34, hT269, hTab35, hTab270, by omega, E, hB4, hB11, hB19⟩ (.cons rfl (.cons rfl (.cons rfl (.cons rfl (.cons rfl (.cons rfl (.cons rfl (.nil))))))))
    · refine Sq.alloc1 zero52 rfl .plain rfl (fun b287 w288 e289 hB290 hlo291 => ?_)
      have hd292 := Nat.le_trans (Below.size E) hlo291
      have hd293 := Nat.lt_of_lt_of_le hB4.lt hlo291
      have hd294 := Nat.lt_of_lt_of_le hB11.lt hlo291
      have hd295 := Nat.lt_of_lt_of_le hB19.lt hlo291
      have hs296 := Below.size e289
      replace E := E.trans e289
      replace hB4 := hB4.ext e289
      replace hB11 := hB11.ext e289
      replace hB19 := hB19.ext e289
      refine Sq.nil ?_
      refine Eq.goes (fun _ => ⟨hB4, hB11⟩) ?_
      refine Gq.two 1 5 rfl rfl (by kernel_rfl) ?_ ?_
      · have hd305 := hB4.lt
        have hd306 := hB11.lt
        have hd307 := hB19.lt
        have hd308 := hB290.lt
        refine Sq.call fn43 .plain rfl rfl (tableOf_c _ a _ _ (hnx.ext E) (hac.ext E) hv) ?_
        rintro _ w298 ⟨⟨b300, xs301, rfl, hlo302, hT303, hTab304⟩, e299⟩
        have hs309 := Below.size E
        have hs310 := Below.size e299
        replace E := E.trans e299
        replace hB4 := hB4.ext e299
        replace hB11 := hB11.ext e299
        replace hB19 := hB19.ext e299
        replace hB290 := hB290.ext e299
        refine Sq.nil ?_
        refine Eq.goes (fun _ => ⟨hB4, hB11⟩) ?_
        refine Gq.two 3 5 rfl rfl (by kernel_rfl) ?_ ?_
        · have hd319 := hB4.lt
          have hd320 := hB11.lt
          have hd321 := hB19.lt
          have hd322 := hB290.lt
          have hd323 := hT303.lt
          refine Sq.call fn43 .plain rfl rfl (tableOf_c _ b _ _ (hnx'.ext E) (hac'.ext E) hv') ?_
          rintro _ w312 ⟨⟨b314, xs315, rfl, hlo316, hT317, hTab318⟩, e313⟩
          have hs324 := Below.size E
          have hs325 := Below.size e313
          replace E := E.trans e313
          replace hB4 := hB4.ext e313
          replace hB11 := hB11.ext e313
          replace hB19 := hB19.ext e313
          replace hB290 := hB290.ext e313
          replace hT303 := hT303.ext e313
          refine Sq.nil ?_
          refine Eq.goes (fun _ => ⟨hB4, hB11⟩) ?_
          refine Gq.one 5 rfl (by kernel_rfl) ?_
          refine Sq.alloc1 zero52 rfl .plain rfl (fun b326 w327 e328 hB329 hlo330 => ?_)
          have hd331 := Nat.le_trans (Below.size E) hlo330
          have hd332 := Nat.lt_of_lt_of_le hB4.lt hlo330
          have hd333 := Nat.lt_of_lt_of_le hB11.lt hlo330
          have hd334 := Nat.lt_of_lt_of_le hB19.lt hlo330
          have hd335 := Nat.lt_of_lt_of_le hB290.lt hlo330
          have hd336 := Nat.lt_of_lt_of_le hT303.lt hlo330
          have hd337 := Nat.lt_of_lt_of_le hT317.lt hlo330
          have hs338 := Below.size e328
          replace E := E.trans e328
          replace hB4 := hB4.ext e328
          replace hB11 := hB11.ext e328
          replace hB19 := hB19.ext e328
          replace hB290 := hB290.ext e328
          replace hT303 := hT303.ext e328
          replace hT317 := hT317.ext e328
          refine Sq.nil ?_
          refine Eq.goes (fun _ => ⟨hB4, hB11⟩) ?_
          refine Gq.one 6 rfl (by kernel_rfl) ?_
          refine Sq.store one52 .plain rfl rfl rfl hB290 (by simp) (fun w339 g340 hB341 => ?_)
          have hs342 := World.grownBy.size g340
          replace E := E.grown g340 (fun k hk => by injection hk with hk; subst hk; omega)
          replace hB4 := hB4.grown g340 (by intro h; injection h with h; omega)
          replace hB11 := hB11.grown g340 (by intro h; injection h with h; omega)
          replace hB19 := hB19.grown g340 (by intro h; injection h with h; omega)
          replace hT303 := hT303.grown g340 (by intro h; injection h with h; omega)
          replace hT317 := hT317.grown g340 (by intro h; injection h with h; omega)
          replace hB329 := hB329.grown g340 (by intro h; injection h with h; omega)
          replace hB290 := hB341
          refine Sq.nil ?_
          refine Eq.goes (fun _ => ⟨hB4, hB11⟩) ?_
          refine Gq.one 7 rfl (by kernel_rfl) ?_
          refine Sq.store one52 .plain rfl rfl rfl hB329 (by simp) (fun w343 g344 hB345 => ?_)
          have hs346 := World.grownBy.size g344
          replace E := E.grown g344 (fun k hk => by injection hk with hk; subst hk; omega)
          replace hB4 := hB4.grown g344 (by intro h; injection h with h; omega)
          replace hB11 := hB11.grown g344 (by intro h; injection h with h; omega)
          replace hB19 := hB19.grown g344 (by intro h; injection h with h; omega)
          replace hB290 := hB290.grown g344 (by intro h; injection h with h; omega)
          replace hT303 := hT303.grown g344 (by intro h; injection h with h; omega)
          replace hT317 := hT317.grown g344 (by intro h; injection h with h; omega)
          replace hB329 := hB345
          refine Sq.nil ?_
          refine Eq.goes (fun h => absurd h (by decide)) ?_
          refine Gq.done (by kernel_rfl) ?_
          refine Eq.left _ ⟨b287, b326, _, _, _, _, rfl, hB290, hB329, hT303, hT317, hTab304, hTab318, by omega, E, hB4, hB11, hB19⟩ (.cons rfl (.cons rfl (.cons rfl (.cons rfl (.cons rfl (.cons rfl (.cons rfl (.nil))))))))
        refine Sq.alloc1 zero52 rfl .plain rfl (fun b347 w348 e349 hB350 hlo351 => ?_)
        have hd352 := Nat.le_trans (Below.size E) hlo351
        have hd353 := Nat.lt_of_lt_of_le hB4.lt hlo351
        have hd354 := Nat.lt_of_lt_of_le hB11.lt hlo351
        have hd355 := Nat.lt_of_lt_of_le hB19.lt hlo351
        have hd356 := Nat.lt_of_lt_of_le hB290.lt hlo351
        have hd357 := Nat.lt_of_lt_of_le hT303.lt hlo351
        have hs358 := Below.size e349
        replace E := E.trans e349
        replace hB4 := hB4.ext e349
        replace hB11 := hB11.ext e349
        replace hB19 := hB19.ext e349
        replace hB290 := hB290.ext e349
        replace hT303 := hT303.ext e349
        refine Sq.nil ?_
        refine Eq.goes (fun _ => ⟨hB4, hB11⟩) ?_
        refine Gq.one 3 rfl (by kernel_rfl) ?_
        have hd367 := hB4.lt
        have hd368 := hB11.lt
        have hd369 := hB19.lt
        have hd370 := hB290.lt
        have hd371 := hT303.lt
        have hd372 := hB350.lt
        refine Sq.call fn43 .plain rfl rfl (tableOf_c _ b _ _ (hnx'.ext E) (hac'.ext E) hv') ?_
        rintro _ w360 ⟨⟨b362, xs363, rfl, hlo364, hT365, hTab366⟩, e361⟩
        have hs373 := Below.size E
        have hs374 := Below.size e361
        replace E := E.trans e361
        replace hB4 := hB4.ext e361
        replace hB11 := hB11.ext e361
        replace hB19 := hB19.ext e361
        replace hB290 := hB290.ext e361
        replace hT303 := hT303.ext e361
        replace hB350 := hB350.ext e361
        refine Sq.nil ?_
        refine Eq.goes (fun _ => ⟨hB4, hB11⟩) ?_
        refine Gq.one 6 rfl (by kernel_rfl) ?_
        refine Sq.store one52 .plain rfl rfl rfl hB290 (by simp) (fun w375 g376 hB377 => ?_)
        have hs378 := World.grownBy.size g376
        replace E := E.grown g376 (fun k hk => by injection hk with hk; subst hk; omega)
        replace hB4 := hB4.grown g376 (by intro h; injection h with h; omega)
        replace hB11 := hB11.grown g376 (by intro h; injection h with h; omega)
        replace hB19 := hB19.grown g376 (by intro h; injection h with h; omega)
        replace hT303 := hT303.grown g376 (by intro h; injection h with h; omega)
        replace hB350 := hB350.grown g376 (by intro h; injection h with h; omega)
        replace hT365 := hT365.grown g376 (by intro h; injection h with h; omega)
        replace hB290 := hB377
        refine Sq.nil ?_
        refine Eq.goes (fun _ => ⟨hB4, hB11⟩) ?_
        refine Gq.one 7 rfl (by kernel_rfl) ?_
        refine Sq.store one52 .plain rfl rfl rfl hB350 (by simp) (fun w379 g380 hB381 => ?_)
        have hs382 := World.grownBy.size g380
        replace E := E.grown g380 (fun k hk => by injection hk with hk; subst hk; omega)
        replace hB4 := hB4.grown g380 (by intro h; injection h with h; omega)
        replace hB11 := hB11.grown g380 (by intro h; injection h with h; omega)
        replace hB19 := hB19.grown g380 (by intro h; injection h with h; omega)
        replace hB290 := hB290.grown g380 (by intro h; injection h with h; omega)
        replace hT303 := hT303.grown g380 (by intro h; injection h with h; omega)
        replace hT365 := hT365.grown g380 (by intro h; injection h with h; omega)
        replace hB350 := hB381
        refine Sq.nil ?_
        refine Eq.goes (fun h => absurd h (by decide)) ?_
        refine Gq.done (by kernel_rfl) ?_
        refine Eq.left _ ⟨b287, b347, _, _, _, _, rfl, hB290, hB350, hT303, hT365, hTab304, hTab366, by omega, E, hB4, hB11, hB19⟩ (.cons rfl (.cons rfl (.cons rfl (.cons rfl (.cons rfl (.cons rfl (.cons rfl (.nil))))))))
      refine Sq.alloc1 zero52 rfl .plain rfl (fun b383 w384 e385 hB386 hlo387 => ?_)
      have hd388 := Nat.le_trans (Below.size E) hlo387
      have hd389 := Nat.lt_of_lt_of_le hB4.lt hlo387
      have hd390 := Nat.lt_of_lt_of_le hB11.lt hlo387
      have hd391 := Nat.lt_of_lt_of_le hB19.lt hlo387
      have hd392 := Nat.lt_of_lt_of_le hB290.lt hlo387
      have hs393 := Below.size e385
      replace E := E.trans e385
      replace hB4 := hB4.ext e385
      replace hB11 := hB11.ext e385
      replace hB19 := hB19.ext e385
      replace hB290 := hB290.ext e385
      refine Sq.nil ?_
      refine Eq.goes (fun _ => ⟨hB4, hB11⟩) ?_
      refine Gq.one 1 rfl (by kernel_rfl) ?_
      have hd402 := hB4.lt
      have hd403 := hB11.lt
      have hd404 := hB19.lt
      have hd405 := hB290.lt
      have hd406 := hB386.lt
      refine Sq.call fn43 .plain rfl rfl (tableOf_c _ a _ _ (hnx.ext E) (hac.ext E) hv) ?_
      rintro _ w395 ⟨⟨b397, xs398, rfl, hlo399, hT400, hTab401⟩, e396⟩
      have hs407 := Below.size E
      have hs408 := Below.size e396
      replace E := E.trans e396
      replace hB4 := hB4.ext e396
      replace hB11 := hB11.ext e396
      replace hB19 := hB19.ext e396
      replace hB290 := hB290.ext e396
      replace hB386 := hB386.ext e396
      refine Sq.nil ?_
      refine Eq.goes (fun _ => ⟨hB4, hB11⟩) ?_
      refine Gq.one 3 rfl (by kernel_rfl) ?_
      have hd417 := hB4.lt
      have hd418 := hB11.lt
      have hd419 := hB19.lt
      have hd420 := hB290.lt
      have hd421 := hB386.lt
      have hd422 := hT400.lt
      refine Sq.call fn43 .plain rfl rfl (tableOf_c _ b _ _ (hnx'.ext E) (hac'.ext E) hv') ?_
      rintro _ w410 ⟨⟨b412, xs413, rfl, hlo414, hT415, hTab416⟩, e411⟩
      have hs423 := Below.size E
      have hs424 := Below.size e411
      replace E := E.trans e411
      replace hB4 := hB4.ext e411
      replace hB11 := hB11.ext e411
      replace hB19 := hB19.ext e411
      replace hB290 := hB290.ext e411
      replace hB386 := hB386.ext e411
      replace hT400 := hT400.ext e411
      refine Sq.nil ?_
      refine Eq.goes (fun _ => ⟨hB4, hB11⟩) ?_
      refine Gq.one 6 rfl (by kernel_rfl) ?_
      refine Sq.store one52 .plain rfl rfl rfl hB290 (by simp) (fun w425 g426 hB427 => ?_)
      have hs428 := World.grownBy.size g426
      replace E := E.grown g426 (fun k hk => by injection hk with hk; subst hk; omega)
      replace hB4 := hB4.grown g426 (by intro h; injection h with h; omega)
      replace hB11 := hB11.grown g426 (by intro h; injection h with h; omega)
      replace hB19 := hB19.grown g426 (by intro h; injection h with h; omega)
      replace hB386 := hB386.grown g426 (by intro h; injection h with h; omega)
      replace hT400 := hT400.grown g426 (by intro h; injection h with h; omega)
      replace hT415 := hT415.grown g426 (by intro h; injection h with h; omega)
      replace hB290 := hB427
      refine Sq.nil ?_
      refine Eq.goes (fun _ => ⟨hB4, hB11⟩) ?_
      refine Gq.one 7 rfl (by kernel_rfl) ?_
      refine Sq.store one52 .plain rfl rfl rfl hB386 (by simp) (fun w429 g430 hB431 => ?_)
      have hs432 := World.grownBy.size g430
      replace E := E.grown g430 (fun k hk => by injection hk with hk; subst hk; omega)
      replace hB4 := hB4.grown g430 (by intro h; injection h with h; omega)
      replace hB11 := hB11.grown g430 (by intro h; injection h with h; omega)
      replace hB19 := hB19.grown g430 (by intro h; injection h with h; omega)
      replace hB290 := hB290.grown g430 (by intro h; injection h with h; omega)
      replace hT400 := hT400.grown g430 (by intro h; injection h with h; omega)
      replace hT415 := hT415.grown g430 (by intro h; injection h with h; omega)
      replace hB386 := hB431
      refine Sq.nil ?_
      refine Eq.goes (fun h => absurd h (by decide)) ?_
      refine Gq.done (by kernel_rfl) ?_
      refine Eq.left _ ⟨b287, b383, _, _, _, _, rfl, hB290, hB386, hT400, hT415, hTab401, hTab416, by omega, E, hB4, hB11, hB19⟩ (.cons rfl (.cons rfl (.cons rfl (.cons rfl (.cons rfl (.cons rfl (.cons rfl (.nil))))))))
    refine Sq.alloc1 zero52 rfl .plain rfl (fun b433 w434 e435 hB436 hlo437 => ?_)
    have hd438 := Nat.le_trans (Below.size E) hlo437
    have hd439 := Nat.lt_of_lt_of_le hB4.lt hlo437
    have hd440 := Nat.lt_of_lt_of_le hB11.lt hlo437
    have hd441 := Nat.lt_of_lt_of_le hB19.lt hlo437
    have hs442 := Below.size e435
    replace E := E.trans e435
    replace hB4 := hB4.ext e435
    replace hB11 := hB11.ext e435
    replace hB19 := hB19.ext e435
    refine Sq.nil ?_
    refine Eq.goes (fun _ => ⟨hB4, hB11⟩) ?_
    refine Gq.two 1 4 rfl rfl (by kernel_rfl) ?_ ?_
    · have hd451 := hB4.lt
      have hd452 := hB11.lt
      have hd453 := hB19.lt
      have hd454 := hB436.lt
      refine Sq.call fn43 .plain rfl rfl (tableOf_c _ a _ _ (hnx.ext E) (hac.ext E) hv) ?_
      rintro _ w444 ⟨⟨b446, xs447, rfl, hlo448, hT449, hTab450⟩, e445⟩
      have hs455 := Below.size E
      have hs456 := Below.size e445
      replace E := E.trans e445
      replace hB4 := hB4.ext e445
      replace hB11 := hB11.ext e445
      replace hB19 := hB19.ext e445
      replace hB436 := hB436.ext e445
      refine Sq.nil ?_
      refine Eq.goes (fun _ => ⟨hB4, hB11⟩) ?_
      refine Gq.two 3 4 rfl rfl (by kernel_rfl) ?_ ?_
      · have hd465 := hB4.lt
        have hd466 := hB11.lt
        have hd467 := hB19.lt
        have hd468 := hB436.lt
        have hd469 := hT449.lt
        refine Sq.call fn43 .plain rfl rfl (tableOf_c _ b _ _ (hnx'.ext E) (hac'.ext E) hv') ?_
        rintro _ w458 ⟨⟨b460, xs461, rfl, hlo462, hT463, hTab464⟩, e459⟩
        have hs470 := Below.size E
        have hs471 := Below.size e459
        replace E := E.trans e459
        replace hB4 := hB4.ext e459
        replace hB11 := hB11.ext e459
        replace hB19 := hB19.ext e459
        replace hB436 := hB436.ext e459
        replace hT449 := hT449.ext e459
        refine Sq.nil ?_
        refine Eq.goes (fun _ => ⟨hB4, hB11⟩) ?_
        refine Gq.one 4 rfl (by kernel_rfl) ?_
        refine Sq.alloc1 zero52 rfl .plain rfl (fun b472 w473 e474 hB475 hlo476 => ?_)
        have hd477 := Nat.le_trans (Below.size E) hlo476
        have hd478 := Nat.lt_of_lt_of_le hB4.lt hlo476
        have hd479 := Nat.lt_of_lt_of_le hB11.lt hlo476
        have hd480 := Nat.lt_of_lt_of_le hB19.lt hlo476
        have hd481 := Nat.lt_of_lt_of_le hB436.lt hlo476
        have hd482 := Nat.lt_of_lt_of_le hT449.lt hlo476
        have hd483 := Nat.lt_of_lt_of_le hT463.lt hlo476
        have hs484 := Below.size e474
        replace E := E.trans e474
        replace hB4 := hB4.ext e474
        replace hB11 := hB11.ext e474
        replace hB19 := hB19.ext e474
        replace hB436 := hB436.ext e474
        replace hT449 := hT449.ext e474
        replace hT463 := hT463.ext e474
        refine Sq.nil ?_
        refine Eq.goes (fun _ => ⟨hB4, hB11⟩) ?_
        refine Gq.one 6 rfl (by kernel_rfl) ?_
        refine Sq.store one52 .plain rfl rfl rfl hB475 (by simp) (fun w485 g486 hB487 => ?_)
        have hs488 := World.grownBy.size g486
        replace E := E.grown g486 (fun k hk => by injection hk with hk; subst hk; omega)
        replace hB4 := hB4.grown g486 (by intro h; injection h with h; omega)
        replace hB11 := hB11.grown g486 (by intro h; injection h with h; omega)
        replace hB19 := hB19.grown g486 (by intro h; injection h with h; omega)
        replace hB436 := hB436.grown g486 (by intro h; injection h with h; omega)
        replace hT449 := hT449.grown g486 (by intro h; injection h with h; omega)
        replace hT463 := hT463.grown g486 (by intro h; injection h with h; omega)
        replace hB475 := hB487
        refine Sq.nil ?_
        refine Eq.goes (fun _ => ⟨hB4, hB11⟩) ?_
        refine Gq.one 7 rfl (by kernel_rfl) ?_
        refine Sq.store one52 .plain rfl rfl rfl hB436 (by simp) (fun w489 g490 hB491 => ?_)
        have hs492 := World.grownBy.size g490
        replace E := E.grown g490 (fun k hk => by injection hk with hk; subst hk; omega)
        replace hB4 := hB4.grown g490 (by intro h; injection h with h; omega)
        replace hB11 := hB11.grown g490 (by intro h; injection h with h; omega)
        replace hB19 := hB19.grown g490 (by intro h; injection h with h; omega)
        replace hT449 := hT449.grown g490 (by intro h; injection h with h; omega)
        replace hT463 := hT463.grown g490 (by intro h; injection h with h; omega)
        replace hB475 := hB475.grown g490 (by intro h; injection h with h; omega)
        replace hB436 := hB491
        refine Sq.nil ?_
        refine Eq.goes (fun h => absurd h (by decide)) ?_
        refine Gq.done (by kernel_rfl) ?_
        refine Eq.left _ ⟨b472, b433, _, _, _, _, rfl, hB475, hB436, hT449, hT463, hTab450, hTab464, by omega, E, hB4, hB11, hB19⟩ (.cons rfl (.cons rfl (.cons rfl (.cons rfl (.cons rfl (.cons rfl (.cons rfl (.nil))))))))
      refine Sq.alloc1 zero52 rfl .plain rfl (fun b493 w494 e495 hB496 hlo497 => ?_)
      have hd498 := Nat.le_trans (Below.size E) hlo497
      have hd499 := Nat.lt_of_lt_of_le hB4.lt hlo497
      have hd500 := Nat.lt_of_lt_of_le hB11.lt hlo497
      have hd501 := Nat.lt_of_lt_of_le hB19.lt hlo497
      have hd502 := Nat.lt_of_lt_of_le hB436.lt hlo497
      have hd503 := Nat.lt_of_lt_of_le hT449.lt hlo497
      have hs504 := Below.size e495
      replace E := E.trans e495
      replace hB4 := hB4.ext e495
      replace hB11 := hB11.ext e495
      replace hB19 := hB19.ext e495
      replace hB436 := hB436.ext e495
      replace hT449 := hT449.ext e495
      refine Sq.nil ?_
      refine Eq.goes (fun _ => ⟨hB4, hB11⟩) ?_
      refine Gq.one 3 rfl (by kernel_rfl) ?_
      have hd513 := hB4.lt
      have hd514 := hB11.lt
      have hd515 := hB19.lt
      have hd516 := hB436.lt
      have hd517 := hT449.lt
      have hd518 := hB496.lt
      refine Sq.call fn43 .plain rfl rfl (tableOf_c _ b _ _ (hnx'.ext E) (hac'.ext E) hv') ?_
      rintro _ w506 ⟨⟨b508, xs509, rfl, hlo510, hT511, hTab512⟩, e507⟩
      have hs519 := Below.size E
      have hs520 := Below.size e507
      replace E := E.trans e507
      replace hB4 := hB4.ext e507
      replace hB11 := hB11.ext e507
      replace hB19 := hB19.ext e507
      replace hB436 := hB436.ext e507
      replace hT449 := hT449.ext e507
      replace hB496 := hB496.ext e507
      refine Sq.nil ?_
      refine Eq.goes (fun _ => ⟨hB4, hB11⟩) ?_
      refine Gq.one 6 rfl (by kernel_rfl) ?_
      refine Sq.store one52 .plain rfl rfl rfl hB496 (by simp) (fun w521 g522 hB523 => ?_)
      have hs524 := World.grownBy.size g522
      replace E := E.grown g522 (fun k hk => by injection hk with hk; subst hk; omega)
      replace hB4 := hB4.grown g522 (by intro h; injection h with h; omega)
      replace hB11 := hB11.grown g522 (by intro h; injection h with h; omega)
      replace hB19 := hB19.grown g522 (by intro h; injection h with h; omega)
      replace hB436 := hB436.grown g522 (by intro h; injection h with h; omega)
      replace hT449 := hT449.grown g522 (by intro h; injection h with h; omega)
      replace hT511 := hT511.grown g522 (by intro h; injection h with h; omega)
      replace hB496 := hB523
      refine Sq.nil ?_
      refine Eq.goes (fun _ => ⟨hB4, hB11⟩) ?_
      refine Gq.one 7 rfl (by kernel_rfl) ?_
      refine Sq.store one52 .plain rfl rfl rfl hB436 (by simp) (fun w525 g526 hB527 => ?_)
      have hs528 := World.grownBy.size g526
      replace E := E.grown g526 (fun k hk => by injection hk with hk; subst hk; omega)
      replace hB4 := hB4.grown g526 (by intro h; injection h with h; omega)
      replace hB11 := hB11.grown g526 (by intro h; injection h with h; omega)
      replace hB19 := hB19.grown g526 (by intro h; injection h with h; omega)
      replace hT449 := hT449.grown g526 (by intro h; injection h with h; omega)
      replace hB496 := hB496.grown g526 (by intro h; injection h with h; omega)
      replace hT511 := hT511.grown g526 (by intro h; injection h with h; omega)
      replace hB436 := hB527
      refine Sq.nil ?_
      refine Eq.goes (fun h => absurd h (by decide)) ?_
      refine Gq.done (by kernel_rfl) ?_
      refine Eq.left _ ⟨b493, b433, _, _, _, _, rfl, hB496, hB436, hT449, hT511, hTab450, hTab512, by omega, E, hB4, hB11, hB19⟩ (.cons rfl (.cons rfl (.cons rfl (.cons rfl (.cons rfl (.cons rfl (.cons rfl (.nil))))))))
    refine Sq.alloc1 zero52 rfl .plain rfl (fun b529 w530 e531 hB532 hlo533 => ?_)
    have hd534 := Nat.le_trans (Below.size E) hlo533
    have hd535 := Nat.lt_of_lt_of_le hB4.lt hlo533
    have hd536 := Nat.lt_of_lt_of_le hB11.lt hlo533
    have hd537 := Nat.lt_of_lt_of_le hB19.lt hlo533
    have hd538 := Nat.lt_of_lt_of_le hB436.lt hlo533
    have hs539 := Below.size e531
    replace E := E.trans e531
    replace hB4 := hB4.ext e531
    replace hB11 := hB11.ext e531
    replace hB19 := hB19.ext e531
    replace hB436 := hB436.ext e531
    refine Sq.nil ?_
    refine Eq.goes (fun _ => ⟨hB4, hB11⟩) ?_
    refine Gq.one 1 rfl (by kernel_rfl) ?_
    have hd548 := hB4.lt
    have hd549 := hB11.lt
    have hd550 := hB19.lt
    have hd551 := hB436.lt
    have hd552 := hB532.lt
    refine Sq.call fn43 .plain rfl rfl (tableOf_c _ a _ _ (hnx.ext E) (hac.ext E) hv) ?_
    rintro _ w541 ⟨⟨b543, xs544, rfl, hlo545, hT546, hTab547⟩, e542⟩
    have hs553 := Below.size E
    have hs554 := Below.size e542
    replace E := E.trans e542
    replace hB4 := hB4.ext e542
    replace hB11 := hB11.ext e542
    replace hB19 := hB19.ext e542
    replace hB436 := hB436.ext e542
    replace hB532 := hB532.ext e542
    refine Sq.nil ?_
    refine Eq.goes (fun _ => ⟨hB4, hB11⟩) ?_
    refine Gq.one 3 rfl (by kernel_rfl) ?_
    have hd563 := hB4.lt
    have hd564 := hB11.lt
    have hd565 := hB19.lt
    have hd566 := hB436.lt
    have hd567 := hB532.lt
    have hd568 := hT546.lt
    refine Sq.call fn43 .plain rfl rfl (tableOf_c _ b _ _ (hnx'.ext E) (hac'.ext E) hv') ?_
    rintro _ w556 ⟨⟨b558, xs559, rfl, hlo560, hT561, hTab562⟩, e557⟩
    have hs569 := Below.size E
    have hs570 := Below.size e557
    replace E := E.trans e557
    replace hB4 := hB4.ext e557
    replace hB11 := hB11.ext e557
    replace hB19 := hB19.ext e557
    replace hB436 := hB436.ext e557
    replace hB532 := hB532.ext e557
    replace hT546 := hT546.ext e557
    refine Sq.nil ?_
    refine Eq.goes (fun _ => ⟨hB4, hB11⟩) ?_
    refine Gq.one 6 rfl (by kernel_rfl) ?_
    refine Sq.store one52 .plain rfl rfl rfl hB532 (by simp) (fun w571 g572 hB573 => ?_)
    have hs574 := World.grownBy.size g572
    replace E := E.grown g572 (fun k hk => by injection hk with hk; subst hk; omega)
    replace hB4 := hB4.grown g572 (by intro h; injection h with h; omega)
    replace hB11 := hB11.grown g572 (by intro h; injection h with h; omega)
    replace hB19 := hB19.grown g572 (by intro h; injection h with h; omega)
    replace hB436 := hB436.grown g572 (by intro h; injection h with h; omega)
    replace hT546 := hT546.grown g572 (by intro h; injection h with h; omega)
    replace hT561 := hT561.grown g572 (by intro h; injection h with h; omega)
    replace hB532 := hB573
    refine Sq.nil ?_
    refine Eq.goes (fun _ => ⟨hB4, hB11⟩) ?_
    refine Gq.one 7 rfl (by kernel_rfl) ?_
    refine Sq.store one52 .plain rfl rfl rfl hB436 (by simp) (fun w575 g576 hB577 => ?_)
    have hs578 := World.grownBy.size g576
    replace E := E.grown g576 (fun k hk => by injection hk with hk; subst hk; omega)
    replace hB4 := hB4.grown g576 (by intro h; injection h with h; omega)
    replace hB11 := hB11.grown g576 (by intro h; injection h with h; omega)
    replace hB19 := hB19.grown g576 (by intro h; injection h with h; omega)
    replace hB532 := hB532.grown g576 (by intro h; injection h with h; omega)
    replace hT546 := hT546.grown g576 (by intro h; injection h with h; omega)
    replace hT561 := hT561.grown g576 (by intro h; injection h with h; omega)
    replace hB436 := hB577
    refine Sq.nil ?_
    refine Eq.goes (fun h => absurd h (by decide)) ?_
    refine Gq.done (by kernel_rfl) ?_
    refine Eq.left _ ⟨b529, b433, _, _, _, _, rfl, hB532, hB436, hT546, hT561, hTab547, hTab562, by omega, E, hB4, hB11, hB19⟩ (.cons rfl (.cons rfl (.cons rfl (.cons rfl (.cons rfl (.cons rfl (.cons rfl (.nil))))))))
  rintro ls wc1 ⟨c8, c9, t1, t2, xs, ys0, rfl, hP1, hP2, hT1, hT2, hTab, hTab', hbb, E, hB4, hB11, hB19⟩
  have hs579 := Below.size E
  refine Eq.next ?_
  refine Cq.seq ?_
  refine Cq.region ?_
  refine Sq.loadB one52 .plain rfl rfl hP2 rfl ?_
  refine Sq.len .plain rfl und52 rfl ?_
  refine Sq.alloc1 zero3 rfl .plain rfl (fun b580 w581 e582 hB583 hlo584 => ?_)
  have hd585 := Nat.le_trans (Below.size E) hlo584
  have hd586 := Nat.lt_of_lt_of_le hB4.lt hlo584
  have hd587 := Nat.lt_of_lt_of_le hB11.lt hlo584
  have hd588 := Nat.lt_of_lt_of_le hB19.lt hlo584
  have hd589 := Nat.lt_of_lt_of_le hP1.lt hlo584
  have hd590 := Nat.lt_of_lt_of_le hP2.lt hlo584
  have hd591 := Nat.lt_of_lt_of_le hT1.lt hlo584
  have hd592 := Nat.lt_of_lt_of_le hT2.lt hlo584
  have hs593 := Below.size e582
  replace E := E.trans e582
  replace hB4 := hB4.ext e582
  replace hB11 := hB11.ext e582
  replace hB19 := hB19.ext e582
  replace hP1 := hP1.ext e582
  replace hP2 := hP2.ext e582
  replace hT1 := hT1.ext e582
  replace hT2 := hT2.ext e582
  refine Sq.store one3 .plain rfl rfl rfl hB583 (by simp) (fun w594 g595 hB596 => ?_)
  have hs597 := World.grownBy.size g595
  replace E := E.grown g595 (fun k hk => by injection hk with hk; subst hk; omega)
  replace hB4 := hB4.grown g595 (by intro h; injection h with h; omega)
  replace hB11 := hB11.grown g595 (by intro h; injection h with h; omega)
  replace hB19 := hB19.grown g595 (by intro h; injection h with h; omega)
  replace hP1 := hP1.grown g595 (by intro h; injection h with h; omega)
  replace hP2 := hP2.grown g595 (by intro h; injection h with h; omega)
  replace hT1 := hT1.grown g595 (by intro h; injection h with h; omega)
  replace hT2 := hT2.grown g595 (by intro h; injection h with h; omega)
  replace hB583 := hB596
  refine Sq.nil ?_
  refine Eq.next ?_
  refine Cq.seq ?_
  refine Cq.region ?_
  refine Sq.makeFunc .plain rfl rfl ?_
  refine Sq.assign .plain rfl rfl ?_
  refine Sq.nil ?_
  refine Eq.next ?_
  refine Cq.seq ?_
  refine Cq.drawS 18 (fun w' => Blk w' c8 52 [Value.slice (some ⟨t1, 0, none⟩) a.next.length a.next.length] ∧ Blk w' c9 52 [Value.slice (some ⟨t2, 0, none⟩) b.next.length b.next.length] ∧ Blk w' t1 57 (xs.map (Value.int .i64)) ∧ Blk w' t2 57 (ys0.map (Value.int .i64)) ∧ Blk w' b580 3 [Value.int .i64 (List.length b.next : Int)] ∧ Blk w' b1 26 [Value.int .i64 a.al, nx, ac] ∧ Blk w' b8 26 [Value.int .i64 b.al, nx', ac'] ∧ Blk w' b16 64 [gv] ∧ Ext w0 w') mixed (⟨hP1, hP2, hT1, hT2, hB583, hB4, hB11, hB19, E⟩) (fun w598 e599 hS => ?_)
  clear hS
  have hs600 := Below.size e599
  replace E := E.trans e599
  replace hB4 := hB4.ext e599
  replace hB11 := hB11.ext e599
  replace hB19 := hB19.ext e599
  replace hP1 := hP1.ext e599
  replace hP2 := hP2.ext e599
  replace hT1 := hT1.ext e599
  replace hT2 := hT2.ext e599
  replace hB583 := hB583.ext e599
  refine Gq.st 0 rfl (by kernel_rfl) rfl .plain rfl (fun _ _ _ h => h) ⟨hP1, hP2, hT1, hT2, hB583, hB4, hB11, hB19, E⟩ (fun w' x => Still.loadB one52 rfl x.1 rfl) ?_
  refine Gq.st 1 rfl (by kernel_rfl) rfl .plain rfl (fun _ _ _ h => h) ⟨hP1, hP2, hT1, hT2, hB583, hB4, hB11, hB19, E⟩ (fun w' x => Still.len und52 rfl) ?_
  refine Gq.st 2 rfl (by kernel_rfl) rfl .plain rfl (fun _ _ _ h => h) ⟨hP1, hP2, hT1, hT2, hB583, hB4, hB11, hB19, E⟩ (fun w' x => Still.loadB one3 rfl x.2.2.2.2.1 rfl) ?_
  refine Gq.st 3 rfl (by kernel_rfl) rfl .plain rfl (fun _ _ _ h => h) ⟨hP1, hP2, hT1, hT2, hB583, hB4, hB11, hB19, E⟩ (fun w' x => Still.mul rfl rfl (by omega)) ?_
  refine Gq.st 4 rfl (by kernel_rfl) rfl .plain rfl (fun _ _ _ h => h) ⟨hP1, hP2, hT1, hT2, hB583, hB4, hB11, hB19, E⟩ (fun w' x => Still.move rfl) ?_
  refine Gq.st 5 rfl (by kernel_rfl) rfl .plain rfl (fun _ _ _ h => h) ⟨hP1, hP2, hT1, hT2, hB583, hB4, hB11, hB19, E⟩ (fun w' x => Still.loadB one3 rfl x.2.2.2.2.1 rfl) ?_
  refine Gq.st 6 rfl (by kernel_rfl) rfl .plain rfl (fun _ _ _ h => h) ⟨hP1, hP2, hT1, hT2, hB583, hB4, hB11, hB19, E⟩ (fun w' x => Still.mul rfl rfl (by omega)) ?_
  refine Gq.st 7 rfl (by kernel_rfl) rfl .plain rfl (fun _ _ _ h => h) ⟨hP1, hP2, hT1, hT2, hB583, hB4, hB11, hB19, E⟩ (fun w' x => Still.move rfl) ?_
  refine Gq.st 8 rfl (by kernel_rfl) rfl .plain rfl (fun _ _ _ h => h) ⟨hP1, hP2, hT1, hT2, hB583, hB4, hB11, hB19, E⟩ (fun w' x => Still.add rfl rfl (by omega)) ?_
  refine Gq.st 10 rfl (by kernel_rfl) rfl .plain rfl (fun _ _ _ h => h) ⟨hP1, hP2, hT1, hT2, hB583, hB4, hB11, hB19, E⟩ (fun w' x => Still.fieldAddr fld26_0 rfl) ?_
  refine Gq.st 11 rfl (by kernel_rfl) rfl .plain rfl (fun _ _ _ h => h) ⟨hP1, hP2, hT1, hT2, hB583, hB4, hB11, hB19, E⟩ (fun w' x => Still.loadB one3 rfl x.2.2.2.2.2.1 rfl) ?_
  refine Gq.st 13 rfl (by kernel_rfl) rfl .plain rfl (fun _ _ _ h => h) ⟨hP1, hP2, hT1, hT2, hB583, hB4, hB11, hB19, E⟩ (fun w' x => Still.move rfl) ?_
  refine Gq.st 14 rfl (by kernel_rfl) rfl .plain rfl (fun _ _ _ h => h) ⟨hP1, hP2, hT1, hT2, hB583, hB4, hB11, hB19, E⟩ (fun w' x => Still.makeFunc rfl) ?_
  refine Gq.two 9 12 rfl rfl (by kernel_rfl) ?_ ?_
  · refine Sq.lit sl55 rfl rfl .plain rfl rfl (one_cons rfl one_nil) (fun b601 w602 e603 hlo604 ho605 _ => ?_)
    replace ho605 := ho605 w598.heap.size (Nat.le_refl _)
    have hs607 := Below.size e603
    replace E := E.trans e603
    replace hB4 := hB4.ext e603
    replace hB11 := hB11.ext e603
    replace hB19 := hB19.ext e603
    replace hP1 := hP1.ext e603
    replace hP2 := hP2.ext e603
    replace hT1 := hT1.ext e603
    replace hT2 := hT2.ext e603
    replace hB583 := hB583.ext e603
    refine Sq.nil ?_
    refine Eq.goes (fun _ => ⟨hP1, hP2, hT1, hT2, hB583, hB4, hB11, hB19, E⟩) ?_
    refine Gq.one 12 rfl (by kernel_rfl) ?_
    have hd612 := hB4.lt
    have hd613 := hB11.lt
    have hd614 := hB19.lt
    have hd615 := hP1.lt
    have hd616 := hP2.lt
    have hd617 := hT1.lt
    have hd618 := hT2.lt
    have hd619 := hB583.lt
    refine Sq.call fn45 .plain rfl rfl (lettersOf_c a.al (by omega) _) ?_
    rintro v608 w609 ⟨hl611, e610⟩
    have hs620 := Below.size E
    have hs621 := Below.size e610
    replace E := E.trans e610
    replace hB4 := hB4.ext e610
    replace hB11 := hB11.ext e610
    replace hB19 := hB19.ext e610
    replace hP1 := hP1.ext e610
    replace hP2 := hP2.ext e610
    replace hT1 := hT1.ext e610
    replace hT2 := hT2.ext e610
    replace hB583 := hB583.ext e610
    replace ho605 := ho605.ext e610
    refine Sq.nil ?_
    refine Eq.goes (fun _ => ⟨hP1, hP2, hT1, hT2, hB583, hB4, hB11, hB19, E⟩) ?_
    refine Gq.one 15 rfl (by kernel_rfl) ?_
    have hd624 := hB4.lt
    have hd625 := hB11.lt
    have hd626 := hB19.lt
    have hd627 := hP1.lt
    have hd628 := hP2.lt
    have hd629 := hT1.lt
    have hd630 := hT2.lt
    have hd631 := hB583.lt
    have hlet := letters_len6 a.al
    refine Sq.call fn77 .plain rfl rfl (firstPath_c _ ((List.length a.next : Int) * (List.length b.next : Int)) (a.next.length * b.next.length) (i0 * (List.length b.next : Int) + j0) (letters a.al) _ _ _ _ (fP a b) (fun q => g (accA a (q / (List.length b.next : Int))) (accA b (q % (List.length b.next : Int)))) (fun q => InP a b q) (Int.natCast_mul _ _).symm (Own.row ho605) (Own.row hl611) (by omega) (fun x hx => ⟨(mem_letters hx).1, (mem_letters hx).2.1⟩) (inP_enc (p := (i0, j0)) hp) (fun q hq x hx => fP_in hv hv' hq ⟨(mem_letters hx).1, (mem_letters hx).2.1⟩) (fun q hq => hq) (by omega) ⟨76, _, [Value.pointer (some ⟨c8, 0, none⟩), Value.pointer (some ⟨b580, 0, none⟩), Value.pointer (some ⟨c9, 0, none⟩)], rfl, fn76, fun w q y0 hx hq hxx => fb1_c w q y0 a b _ _ _ _ _ _ _ (hP1.ext hx) (hB583.ext hx) (hP2.ext hx) (hT1.ext hx) (hT2.ext hx) hTab hTab' hv hv' hq hxx⟩ ⟨78, _, [Value.pointer (some ⟨b16, 0, none⟩), Value.pointer (some ⟨b1, 0, none⟩), Value.pointer (some ⟨b580, 0, none⟩), Value.pointer (some ⟨b8, 0, none⟩)], rfl, fn78, fun w q hx hq => fb2_c w q a b _ _ _ _ _ g _ _ _ _ (hB19.ext hx) (hB4.ext hx) (hB583.ext hx) (hB11.ext hx) ((hac.ext E).ext hx) ((hac'.ext E).ext hx) ((BClo.up hgo E).up hx) hv hv' hq⟩) ?_
    rintro _ w622 ⟨rfl, e623⟩
    have hs632 := Below.size E
    have hs633 := Below.size e623
    replace E := E.trans e623
    replace hB4 := hB4.ext e623
    replace hB11 := hB11.ext e623
    replace hB19 := hB19.ext e623
    replace hP1 := hP1.ext e623
    replace hP2 := hP2.ext e623
    replace hT1 := hT1.ext e623
    replace hT2 := hT2.ext e623
    replace hB583 := hB583.ext e623
    refine Sq.nil ?_
    refine Eq.goes (fun _ => ⟨hP1, hP2, hT1, hT2, hB583, hB4, hB11, hB19, E⟩) ?_
    refine Gq.st 16 rfl (by kernel_rfl) rfl .plain rfl (fun _ _ _ h => h) ⟨hP1, hP2, hT1, hT2, hB583, hB4, hB11, hB19, E⟩ (fun w' x => Still.extract rfl rfl) ?_
    refine Gq.st 17 rfl (by kernel_rfl) rfl .plain rfl (fun _ _ _ h => h) ⟨hP1, hP2, hT1, hT2, hB583, hB4, hB11, hB19, E⟩ (fun w' x => Still.extract rfl rfl) ?_
    refine Gq.one 18 rfl (by kernel_rfl) ?_
    refine Sq.assign .plain rfl rfl ?_
    refine Sq.nil ?_
    refine Eq.goes (fun h => absurd h (by decide)) ?_
    refine Gq.one 19 rfl (by kernel_rfl) ?_
    refine Sq.assign .plain rfl rfl ?_
    refine Sq.nil ?_
    refine Eq.goes (fun h => absurd h (by decide)) ?_
    refine Gq.done (by kernel_rfl) ?_
    refine Eq.next ?_
    refine Cq.ret ?_
    refine Eq.ret2 rfl rfl rfl ?_
    rw [← firstAB_enc hv hv' hp]
    exact ⟨rfl, E⟩
  have hd638 := hB4.lt
  have hd639 := hB11.lt
  have hd640 := hB19.lt
  have hd641 := hP1.lt
  have hd642 := hP2.lt
  have hd643 := hT1.lt
  have hd644 := hT2.lt
  have hd645 := hB583.lt
  refine Sq.call fn45 .plain rfl rfl (lettersOf_c a.al (by omega) _) ?_
  rintro v634 w635 ⟨hl637, e636⟩
  have hs646 := Below.size E
  have hs647 := Below.size e636
  replace E := E.trans e636
  replace hB4 := hB4.ext e636
  replace hB11 := hB11.ext e636
  replace hB19 := hB19.ext e636
  replace hP1 := hP1.ext e636
  replace hP2 := hP2.ext e636
  replace hT1 := hT1.ext e636
  replace hT2 := hT2.ext e636
  replace hB583 := hB583.ext e636
  refine Sq.nil ?_
  refine Eq.goes (fun _ => ⟨hP1, hP2, hT1, hT2, hB583, hB4, hB11, hB19, E⟩) ?_
  refine Gq.one 9 rfl (by kernel_rfl) ?_
  refine Sq.lit sl55 rfl rfl .plain rfl rfl (one_cons rfl one_nil) (fun b648 w649 e650 hlo651 ho652 _ => ?_)
  replace ho652 := ho652 w635.heap.size (Nat.le_refl _)
  have hs654 := Below.size e650
  replace E := E.trans e650
  replace hB4 := hB4.ext e650
  replace hB11 := hB11.ext e650
  replace hB19 := hB19.ext e650
  replace hP1 := hP1.ext e650
  replace hP2 := hP2.ext e650
  replace hT1 := hT1.ext e650
  replace hT2 := hT2.ext e650
  replace hB583 := hB583.ext e650
  replace hl637 := hl637.ext e650
  refine Sq.nil ?_
  refine Eq.goes (fun _ => ⟨hP1, hP2, hT1, hT2, hB583, hB4, hB11, hB19, E⟩) ?_
  refine Gq.one 15 rfl (by kernel_rfl) ?_
  have hd657 := hB4.lt
  have hd658 := hB11.lt
  have hd659 := hB19.lt
  have hd660 := hP1.lt
  have hd661 := hP2.lt
  have hd662 := hT1.lt
  have hd663 := hT2.lt
  have hd664 := hB583.lt
  have hlet := letters_len6 a.al
  refine Sq.call fn77 .plain rfl rfl (firstPath_c _ ((List.length a.next : Int) * (List.length b.next : Int)) (a.next.length * b.next.length) (i0 * (List.length b.next : Int) + j0) (letters a.al) _ _ _ _ (fP a b) (fun q => g (accA a (q / (List.length b.next : Int))) (accA b (q % (List.length b.next : Int)))) (fun q => InP a b q) (Int.natCast_mul _ _).symm (Own.row ho652) (Own.row hl637) (by omega) (fun x hx => ⟨(mem_letters hx).1, (mem_letters hx).2.1⟩) (inP_enc (p := (i0, j0)) hp) (fun q hq x hx => fP_in hv hv' hq ⟨(mem_letters hx).1, (mem_letters hx).2.1⟩) (fun q hq => hq) (by omega) ⟨76, _, [Value.pointer (some ⟨c8, 0, none⟩), Value.pointer (some ⟨b580, 0, none⟩), Value.pointer (some ⟨c9, 0, none⟩)], rfl, fn76, fun w q y0 hx hq hxx => fb1_c w q y0 a b _ _ _ _ _ _ _ (hP1.ext hx) (hB583.ext hx) (hP2.ext hx) (hT1.ext hx) (hT2.ext hx) hTab hTab' hv hv' hq hxx⟩ ⟨78, _, [Value.pointer (some ⟨b16, 0, none⟩), Value.pointer (some ⟨b1, 0, none⟩), Value.pointer (some ⟨b580, 0, none⟩), Value.pointer (some ⟨b8, 0, none⟩)], rfl, fn78, fun w q hx hq => fb2_c w q a b _ _ _ _ _ g _ _ _ _ (hB19.ext hx) (hB4.ext hx) (hB583.ext hx) (hB11.ext hx) ((hac.ext E).ext hx) ((hac'.ext E).ext hx) ((BClo.up hgo E).up hx) hv hv' hq⟩) ?_
  rintro _ w655 ⟨rfl, e656⟩
  have hs665 := Below.size E
  have hs666 := Below.size e656
  replace E := E.trans e656
  replace hB4 := hB4.ext e656
  replace hB11 := hB11.ext e656
  replace hB19 := hB19.ext e656
  replace hP1 := hP1.ext e656
  replace hP2 := hP2.ext e656
  replace hT1 := hT1.ext e656
  replace hT2 := hT2.ext e656
  replace hB583 := hB583.ext e656
  refine Sq.nil ?_
  refine Eq.goes (fun _ => ⟨hP1, hP2, hT1, hT2, hB583, hB4, hB11, hB19, E⟩) ?_
  refine Gq.st 16 rfl (by kernel_rfl) rfl .plain rfl (fun _ _ _ h => h) ⟨hP1, hP2, hT1, hT2, hB583, hB4, hB11, hB19, E⟩ (fun w' x => Still.extract rfl rfl) ?_
  refine Gq.st 17 rfl (by kernel_rfl) rfl .plain rfl (fun _ _ _ h => h) ⟨hP1, hP2, hT1, hT2, hB583, hB4, hB11, hB19, E⟩ (fun w' x => Still.extract rfl rfl) ?_
  refine Gq.one 18 rfl (by kernel_rfl) ?_
  refine Sq.assign .plain rfl rfl ?_
  refine Sq.nil ?_
  refine Eq.goes (fun h => absurd h (by decide)) ?_
  refine Gq.one 19 rfl (by kernel_rfl) ?_
  refine Sq.assign .plain rfl rfl ?_
  refine Sq.nil ?_
  refine Eq.goes (fun h => absurd h (by decide)) ?_
  refine Gq.done (by kernel_rfl) ?_
  refine Eq.next ?_
  refine Cq.ret ?_
  refine Eq.ret2 rfl rfl rfl ?_
  rw [← firstAB_enc hv hv' hp]
  exact ⟨rfl, E⟩
end Go.Proofs.Ytoboklelbbgcnaa
set_option linter.unusedSimpArgs false
set_option linter.unusedVariables false
namespace Go.Proofs.Ytoboklelbbgcnaa
open Go.RowKit
set_option maxRecDepth 100000 in
theorem cmp_c (w0 : World) (a b : A) (nx ac nx' ac' : Value) (hnx : Rows w0 55 3 nx a.next) (hac : Bools w0 4 ac a.acc) (hnx' : Rows w0 55 3 nx' b.next) (hac' : Bools w0 4 ac' b.acc) : Ret Try.prog 40 #[Value.agg #[Value.int .i64 a.al, nx, ac], Value.agg #[Value.int .i64 b.al, nx', ac']] w0 (fun v w => v = .bool (cmp2 a b) ∧ Ext w0 w) := by
  have E := Ext.refl w0
  refine Ret.of (args := [Value.agg #[Value.int .i64 a.al, nx, ac], Value.agg #[Value.int .i64 b.al, nx', ac']]) Try.func40 rfl rfl rfl ?_
  rintro _ rfl
  show Cq _ _ _ _ [(0, Value.agg #[Value.int .i64 a.al, nx, ac]), (1, Value.agg #[Value.int .i64 b.al, nx', ac'])] _
  refine Cq.seq ?_
  refine Cq.region ?_
  refine Sq.box .plain rfl rfl (fun b1 w2 e3 hB4 hlo5 => ?_)
  have hd6 := Nat.le_trans (Below.size E) hlo5
  have hs7 := Below.size e3
  replace E := E.trans e3
  refine Sq.box .plain rfl rfl (fun b8 w9 e10 hB11 hlo12 => ?_)
  have hd13 := Nat.le_trans (Below.size E) hlo12
  have hd14 := Nat.lt_of_lt_of_le hB4.lt hlo12
  have hs15 := Below.size e10
  replace E := E.trans e10
  replace hB4 := hB4.ext e10
  refine Sq.assign .plain rfl rfl ?_
  refine Sq.nil ?_
  refine Eq.next ?_
  refine Cq.seq ?_
  refine Cq.region ?_
  refine Sq.loadAgg agg26 .plain rfl rfl hB4 rfl ?_
  have hd19 := hB4.lt
  have hd20 := hB11.lt
  refine Sq.call fn18 .plain rfl rfl (valid_c _ a _ _ (hnx.ext E) (hac.ext E)) ?_
  rintro _ w17 ⟨rfl, e18⟩
  have hs21 := Below.size E
  have hs22 := Below.size e18
  replace E := E.trans e18
  replace hB4 := hB4.ext e18
  replace hB11 := hB11.ext e18
  refine Sq.partB (fun hva => ?_) (fun hva => ?_)
  · refine Sq.move .plain rfl rfl ?_
    refine Sq.loadAgg agg26 (.met rfl rfl rfl) rfl rfl hB11 rfl ?_
    have hd26 := hB4.lt
    have hd27 := hB11.lt
    refine Sq.call fn18 (.met rfl rfl rfl) rfl rfl (valid_c _ b _ _ (hnx'.ext E) (hac'.ext E)) ?_
    rintro _ w24 ⟨rfl, e25⟩
    have hs28 := Below.size E
    have hs29 := Below.size e25
    replace E := E.trans e25
    replace hB4 := hB4.ext e25
    replace hB11 := hB11.ext e25
    refine Sq.partB (fun hvb => ?_) (fun hvb => ?_)
    · refine Sq.pickT .plain rfl rfl rfl ?_
      refine Sq.move .plain rfl rfl ?_
      refine Sq.fieldAddr fld26_0 (.met rfl rfl rfl) rfl rfl ?_
      refine Sq.loadB one3 (.met rfl rfl rfl) rfl rfl hB4 rfl ?_
      refine Sq.fieldAddr fld26_0 (.met rfl rfl rfl) rfl rfl ?_
      refine Sq.loadB one3 (.met rfl rfl rfl) rfl rfl hB11 rfl ?_
      refine Sq.eql (.met rfl rfl rfl) rfl rfl rfl ?_
      refine Sq.pickT .plain rfl rfl rfl ?_
      refine Sq.assign .plain rfl rfl ?_
      refine Sq.nil ?_
      refine Eq.next ?_
      refine Cq.ret ?_
      refine Eq.ret1 rfl rfl ?_
      exact ⟨by simp [cmp2, hva, hvb], E⟩
    refine Sq.pickT .plain rfl rfl rfl ?_
    refine Sq.move .plain rfl rfl ?_
    refine Sq.off rfl rfl rfl rfl rfl rfl ?_
    refine Sq.off rfl rfl rfl rfl rfl rfl ?_
    refine Sq.off rfl rfl rfl rfl rfl rfl ?_
    refine Sq.off rfl rfl rfl rfl rfl rfl ?_
    refine Sq.off rfl rfl rfl rfl rfl rfl ?_
    refine Sq.pickF .plain rfl rfl rfl ?_
    refine Sq.assign .plain rfl rfl ?_
    refine Sq.nil ?_
    refine Eq.next ?_
    refine Cq.ret ?_
    refine Eq.ret1 rfl rfl ?_
    exact ⟨by simp [cmp2, hva, hvb], E⟩
  refine Sq.move .plain rfl rfl ?_
  refine Sq.off rfl rfl rfl rfl rfl rfl ?_
  refine Sq.off rfl rfl rfl rfl rfl rfl ?_
  refine Sq.pickF .plain rfl rfl rfl ?_
  refine Sq.move .plain rfl rfl ?_
  refine Sq.off rfl rfl rfl rfl rfl rfl ?_
  refine Sq.off rfl rfl rfl rfl rfl rfl ?_
  refine Sq.off rfl rfl rfl rfl rfl rfl ?_
  refine Sq.off rfl rfl rfl rfl rfl rfl ?_
  refine Sq.off rfl rfl rfl rfl rfl rfl ?_
  refine Sq.pickF .plain rfl rfl rfl ?_
  refine Sq.assign .plain rfl rfl ?_
  refine Sq.nil ?_
  refine Eq.next ?_
  refine Cq.ret ?_
  refine Eq.ret1 rfl rfl ?_
  exact ⟨by simp [cmp2, hva], E⟩
set_option maxRecDepth 100000 in
theorem fOut_c (w0 : World) (a b : A) (nx ac nx' ac' : Value) (hnx : Rows w0 55 3 nx a.next) (hac : Bools w0 4 ac a.acc) (hnx' : Rows w0 55 3 nx' b.next) (hac' : Bools w0 4 ac' b.acc) : Ret Try.prog 30 #[Value.agg #[Value.int .i64 a.al, nx, ac], Value.agg #[Value.int .i64 b.al, nx', ac']] w0 (fun v w => v = resW (fOut a b) ∧ Ext w0 w) := by
  have E := Ext.refl w0
  refine Ret.of (args := [Value.agg #[Value.int .i64 a.al, nx, ac], Value.agg #[Value.int .i64 b.al, nx', ac']]) Try.func30 rfl rfl rfl ?_
  rintro _ rfl
  show Cq _ _ _ _ [(0, Value.agg #[Value.int .i64 a.al, nx, ac]), (1, Value.agg #[Value.int .i64 b.al, nx', ac'])] _
  refine Cq.seq ?_
  refine Cq.region ?_
  refine Sq.box .plain rfl rfl (fun b1 w2 e3 hB4 hlo5 => ?_)
  have hd6 := Nat.le_trans (Below.size E) hlo5
  have hs7 := Below.size e3
  replace E := E.trans e3
  refine Sq.box .plain rfl rfl (fun b8 w9 e10 hB11 hlo12 => ?_)
  have hd13 := Nat.le_trans (Below.size E) hlo12
  have hd14 := Nat.lt_of_lt_of_le hB4.lt hlo12
  have hs15 := Below.size e10
  replace E := E.trans e10
  replace hB4 := hB4.ext e10
  refine Sq.assign .plain rfl rfl ?_
  refine Sq.assign .plain rfl rfl ?_
  refine Sq.nil ?_
  refine Eq.next ?_
  refine Cq.seq ?_
  refine Cq.seq ?_
  refine Cq.region ?_
  refine Sq.loadAgg agg26 .plain rfl rfl hB4 rfl ?_
  refine Sq.loadAgg agg26 .plain rfl rfl hB11 rfl ?_
  have hd19 := hB4.lt
  have hd20 := hB11.lt
  refine Sq.call fn40 .plain rfl rfl (cmp_c _ a b _ _ _ _ (hnx.ext E) (hac.ext E) (hnx'.ext E) (hac'.ext E)) ?_
  rintro _ w17 ⟨rfl, e18⟩
  have hs21 := Below.size E
  have hs22 := Below.size e18
  replace E := E.trans e18
  replace hB4 := hB4.ext e18
  replace hB11 := hB11.ext e18
  refine Sq.partB (fun hC => ?_) (fun hC => ?_)
  · refine Sq.notT .plain rfl rfl ?_
    refine Sq.nil ?_
    refine Eq.next ?_
    refine Cq.els rfl ?_
    refine Cq.skip ?_
    refine Eq.next ?_
    refine Cq.seq ?_
    refine Cq.region ?_
    refine Sq.loadAgg agg26 .plain rfl rfl hB4 rfl ?_
    refine Sq.loadAgg agg26 .plain rfl rfl hB11 rfl ?_
    have hd26 := hB4.lt
    have hd27 := hB11.lt
    refine Sq.call fn51 .plain rfl rfl (firstOfBoth_c _ a b _ _ _ _ (hnx.ext E) (hac.ext E) (hnx'.ext E) (hac'.ext E) _ (fun x y => x && !y) ⟨63, _, [], rfl, fn63, fun w x y hx => (fo1_c w x y).mono fun v w' h => ⟨h.1, h.2 ▸ Ext.refl w⟩⟩ 0 0 (cmp2_spec.1 hC).1 (cmp2_spec.1 hC).2.1 (in_zero (cmp2_spec.1 hC).1 (cmp2_spec.1 hC).2.1)) ?_
    rintro _ w24 ⟨rfl, e25⟩
    have hs28 := Below.size E
    have hs29 := Below.size e25
    replace E := E.trans e25
    refine Sq.extract .plain rfl rfl rfl ?_
    refine Sq.extract .plain rfl rfl rfl ?_
    refine Sq.assign .plain rfl rfl ?_
    refine Sq.assign .plain rfl rfl ?_
    refine Sq.nil ?_
    refine Eq.next ?_
    refine Cq.ret ?_
    refine Eq.ret2 rfl rfl rfl ?_
    exact ⟨by rw [fOut, fTwo, if_pos hC]; rfl, E⟩
  refine Sq.notF .plain rfl rfl ?_
  refine Sq.nil ?_
  refine Eq.next ?_
  refine Cq.thn rfl ?_
  refine Cq.seq ?_
  refine Cq.region ?_
  refine Sq.assign .plain rfl rfl ?_
  refine Sq.assign .plain rfl rfl ?_
  refine Sq.nil ?_
  refine Eq.next ?_
  refine Cq.ret ?_
  refine Eq.pastRet ?_
  refine Eq.ret2 rfl rfl rfl ?_
  exact ⟨by rw [fOut, fTwo, if_neg (by rw [hC]; decide)]; rfl, E⟩
set_option maxRecDepth 100000 in
theorem within2_c (w0 : World) (a b : A) (nx ac nx' ac' : Value) (hnx : Rows w0 55 3 nx a.next) (hac : Bools w0 4 ac a.acc) (hnx' : Rows w0 55 3 nx' b.next) (hac' : Bools w0 4 ac' b.acc) : Ret Try.prog 13 #[Value.agg #[Value.int .i64 a.al, nx, ac], Value.agg #[Value.int .i64 b.al, nx', ac']] w0 (fun v w => v = .bool (withinL a b) ∧ Ext w0 w) := by
  have E := Ext.refl w0
  refine Ret.of (args := [Value.agg #[Value.int .i64 a.al, nx, ac], Value.agg #[Value.int .i64 b.al, nx', ac']]) Try.func13 rfl rfl rfl ?_
  rintro _ rfl
  show Cq _ _ _ _ [(0, Value.agg #[Value.int .i64 a.al, nx, ac]), (1, Value.agg #[Value.int .i64 b.al, nx', ac'])] _
  refine Cq.seq ?_
  refine Cq.region ?_
  refine Sq.box .plain rfl rfl (fun b1 w2 e3 hB4 hlo5 => ?_)
  have hd6 := Nat.le_trans (Below.size E) hlo5
  have hs7 := Below.size e3
  replace E := E.trans e3
  refine Sq.box .plain rfl rfl (fun b8 w9 e10 hB11 hlo12 => ?_)
  have hd13 := Nat.le_trans (Below.size E) hlo12
  have hd14 := Nat.lt_of_lt_of_le hB4.lt hlo12
  have hs15 := Below.size e10
  replace E := E.trans e10
  replace hB4 := hB4.ext e10
  refine Sq.assign .plain rfl rfl ?_
  refine Sq.nil ?_
  refine Eq.next ?_
  refine Cq.seq ?_
  refine Cq.region ?_
  refine Sq.loadAgg agg26 .plain rfl rfl hB4 rfl ?_
  refine Sq.loadAgg agg26 .plain rfl rfl hB11 rfl ?_
  have hd19 := hB4.lt
  have hd20 := hB11.lt
  refine Sq.call fn30 .plain rfl rfl (fOut_c _ a b _ _ _ _ (hnx.ext E) (hac.ext E) (hnx'.ext E) (hac'.ext E)) ?_
  rintro _ w17 ⟨rfl, e18⟩
  have hs21 := Below.size E
  have hs22 := Below.size e18
  replace E := E.trans e18
  replace hB4 := hB4.ext e18
  replace hB11 := hB11.ext e18
  refine Sq.move .plain rfl rfl ?_
  refine Sq.extract .plain rfl rfl rfl ?_
  refine Sq.extract .plain rfl rfl rfl ?_
  refine Sq.assign .plain rfl rfl ?_
  refine Sq.assign .plain rfl rfl ?_
  refine Sq.nil ?_
  refine Eq.next ?_
  refine Cq.seq ?_
  refine Cq.region ?_
  refine Sq.loadAgg agg26 .plain rfl rfl hB4 rfl ?_
  refine Sq.loadAgg agg26 .plain rfl rfl hB11 rfl ?_
  have hd26 := hB4.lt
  have hd27 := hB11.lt
  refine Sq.call fn40 .plain rfl rfl (cmp_c _ a b _ _ _ _ (hnx.ext E) (hac.ext E) (hnx'.ext E) (hac'.ext E)) ?_
  rintro _ w24 ⟨rfl, e25⟩
  have hs28 := Below.size E
  have hs29 := Below.size e25
  replace E := E.trans e25
  refine Sq.partB (fun hC => ?_) (fun hC => ?_)
  · refine Sq.move .plain rfl rfl ?_
    refine Sq.move (.met rfl rfl rfl) rfl rfl ?_
    refine Sq.not (.met rfl rfl rfl) rfl rfl ?_
    refine Sq.pickT .plain rfl rfl rfl ?_
    refine Sq.assign .plain rfl rfl ?_
    refine Sq.nil ?_
    refine Eq.next ?_
    refine Cq.ret ?_
    refine Eq.ret1 rfl rfl ?_
    exact ⟨by simp [withinL, hC], E⟩
  refine Sq.move .plain rfl rfl ?_
  refine Sq.off rfl rfl rfl rfl rfl rfl ?_
  refine Sq.off rfl rfl rfl rfl rfl rfl ?_
  refine Sq.pickF .plain rfl rfl rfl ?_
  refine Sq.assign .plain rfl rfl ?_
  refine Sq.nil ?_
  refine Eq.next ?_
  refine Cq.ret ?_
  refine Eq.ret1 rfl rfl ?_
  exact ⟨by simp [withinL, hC], E⟩
end Go.Proofs.Ytoboklelbbgcnaa
set_option linter.unusedSimpArgs false
set_option linter.unusedVariables false
namespace Go.Proofs.Ytoboklelbbgcnaa
open Go.RowKit
set_option maxRecDepth 100000 in
theorem sCmp_c (w0 : World) (a b : A) (nx ac nx' ac' : Value) (hnx : Rows w0 55 3 nx a.next) (hac : Bools w0 4 ac a.acc) (hnx' : Rows w0 55 3 nx' b.next) (hac' : Bools w0 4 ac' b.acc) : Ret Try.prog 41 #[Value.agg #[Value.int .i64 a.al, nx, ac], Value.agg #[Value.int .i64 b.al, nx', ac']] w0 (fun v w => v = .bool (cmp2 a b) ∧ Ext w0 w) := by
  have E := Ext.refl w0
  refine Ret.of (args := [Value.agg #[Value.int .i64 a.al, nx, ac], Value.agg #[Value.int .i64 b.al, nx', ac']]) Try.func41 rfl rfl rfl ?_
  rintro _ rfl
  show Cq _ _ _ _ [(0, Value.agg #[Value.int .i64 a.al, nx, ac]), (1, Value.agg #[Value.int .i64 b.al, nx', ac'])] _
  refine Cq.seq ?_
  refine Cq.region ?_
  refine Sq.box .plain rfl rfl (fun b1 w2 e3 hB4 hlo5 => ?_)
  have hd6 := Nat.le_trans (Below.size E) hlo5
  have hs7 := Below.size e3
  replace E := E.trans e3
  refine Sq.box .plain rfl rfl (fun b8 w9 e10 hB11 hlo12 => ?_)
  have hd13 := Nat.le_trans (Below.size E) hlo12
  have hd14 := Nat.lt_of_lt_of_le hB4.lt hlo12
  have hs15 := Below.size e10
  replace E := E.trans e10
  replace hB4 := hB4.ext e10
  refine Sq.assign .plain rfl rfl ?_
  refine Sq.nil ?_
  refine Eq.next ?_
  refine Cq.seq ?_
  refine Cq.region ?_
  refine Sq.loadAgg agg26 .plain rfl rfl hB4 rfl ?_
  have hd19 := hB4.lt
  have hd20 := hB11.lt
  refine Sq.call fn53 .plain rfl rfl (sValid_c _ a _ _ (hnx.ext E) (hac.ext E)) ?_
  rintro _ w17 ⟨rfl, e18⟩
  have hs21 := Below.size E
  have hs22 := Below.size e18
  replace E := E.trans e18
  replace hB4 := hB4.ext e18
  replace hB11 := hB11.ext e18
  refine Sq.partB (fun hva => ?_) (fun hva => ?_)
  · refine Sq.move .plain rfl rfl ?_
    refine Sq.loadAgg agg26 (.met rfl rfl rfl) rfl rfl hB11 rfl ?_
    have hd26 := hB4.lt
    have hd27 := hB11.lt
    refine Sq.call fn53 (.met rfl rfl rfl) rfl rfl (sValid_c _ b _ _ (hnx'.ext E) (hac'.ext E)) ?_
    rintro _ w24 ⟨rfl, e25⟩
    have hs28 := Below.size E
    have hs29 := Below.size e25
    replace E := E.trans e25
    replace hB4 := hB4.ext e25
    replace hB11 := hB11.ext e25
    refine Sq.partB (fun hvb => ?_) (fun hvb => ?_)
    · refine Sq.pickT .plain rfl rfl rfl ?_
      refine Sq.move .plain rfl rfl ?_
      refine Sq.fieldAddr fld26_0 (.met rfl rfl rfl) rfl rfl ?_
      refine Sq.loadB one3 (.met rfl rfl rfl) rfl rfl hB4 rfl ?_
      refine Sq.fieldAddr fld26_0 (.met rfl rfl rfl) rfl rfl ?_
      refine Sq.loadB one3 (.met rfl rfl rfl) rfl rfl hB11 rfl ?_
      refine Sq.eql (.met rfl rfl rfl) rfl rfl rfl ?_
      refine Sq.pickT .plain rfl rfl rfl ?_
      refine Sq.assign .plain rfl rfl ?_
      refine Sq.nil ?_
      refine Eq.next ?_
      refine Cq.ret ?_
      refine Eq.ret1 rfl rfl ?_
      exact ⟨by simp [cmp2, hva, hvb], E⟩
    refine Sq.pickT .plain rfl rfl rfl ?_
    refine Sq.move .plain rfl rfl ?_
    refine Sq.off rfl rfl rfl rfl rfl rfl ?_
    refine Sq.off rfl rfl rfl rfl rfl rfl ?_
    refine Sq.off rfl rfl rfl rfl rfl rfl ?_
    refine Sq.off rfl rfl rfl rfl rfl rfl ?_
    refine Sq.off rfl rfl rfl rfl rfl rfl ?_
    refine Sq.pickF .plain rfl rfl rfl ?_
    refine Sq.assign .plain rfl rfl ?_
    refine Sq.nil ?_
    refine Eq.next ?_
    refine Cq.ret ?_
    refine Eq.ret1 rfl rfl ?_
    exact ⟨by simp [cmp2, hva, hvb], E⟩
  refine Sq.move .plain rfl rfl ?_
  refine Sq.off rfl rfl rfl rfl rfl rfl ?_
  refine Sq.off rfl rfl rfl rfl rfl rfl ?_
  refine Sq.pickF .plain rfl rfl rfl ?_
  refine Sq.move .plain rfl rfl ?_
  refine Sq.off rfl rfl rfl rfl rfl rfl ?_
  refine Sq.off rfl rfl rfl rfl rfl rfl ?_
  refine Sq.off rfl rfl rfl rfl rfl rfl ?_
  refine Sq.off rfl rfl rfl rfl rfl rfl ?_
  refine Sq.off rfl rfl rfl rfl rfl rfl ?_
  refine Sq.pickF .plain rfl rfl rfl ?_
  refine Sq.assign .plain rfl rfl ?_
  refine Sq.nil ?_
  refine Eq.next ?_
  refine Cq.ret ?_
  refine Eq.ret1 rfl rfl ?_
  exact ⟨by simp [cmp2, hva], E⟩
set_option maxRecDepth 100000 in
theorem sfOut_c (w0 : World) (a b : A) (nx ac nx' ac' : Value) (hnx : Rows w0 55 3 nx a.next) (hac : Bools w0 4 ac a.acc) (hnx' : Rows w0 55 3 nx' b.next) (hac' : Bools w0 4 ac' b.acc) : Ret Try.prog 31 #[Value.agg #[Value.int .i64 a.al, nx, ac], Value.agg #[Value.int .i64 b.al, nx', ac']] w0 (fun v w => v = resW (fOut a b) ∧ Ext w0 w) := by
  have E := Ext.refl w0
  refine Ret.of (args := [Value.agg #[Value.int .i64 a.al, nx, ac], Value.agg #[Value.int .i64 b.al, nx', ac']]) Try.func31 rfl rfl rfl ?_
  rintro _ rfl
  show Cq _ _ _ _ [(0, Value.agg #[Value.int .i64 a.al, nx, ac]), (1, Value.agg #[Value.int .i64 b.al, nx', ac'])] _
  refine Cq.seq ?_
  refine Cq.region ?_
  refine Sq.box .plain rfl rfl (fun b1 w2 e3 hB4 hlo5 => ?_)
  have hd6 := Nat.le_trans (Below.size E) hlo5
  have hs7 := Below.size e3
  replace E := E.trans e3
  refine Sq.box .plain rfl rfl (fun b8 w9 e10 hB11 hlo12 => ?_)
  have hd13 := Nat.le_trans (Below.size E) hlo12
  have hd14 := Nat.lt_of_lt_of_le hB4.lt hlo12
  have hs15 := Below.size e10
  replace E := E.trans e10
  replace hB4 := hB4.ext e10
  refine Sq.assign .plain rfl rfl ?_
  refine Sq.assign .plain rfl rfl ?_
  refine Sq.nil ?_
  refine Eq.next ?_
  refine Cq.seq ?_
  refine Cq.seq ?_
  refine Cq.region ?_
  refine Sq.loadAgg agg26 .plain rfl rfl hB4 rfl ?_
  refine Sq.loadAgg agg26 .plain rfl rfl hB11 rfl ?_
  have hd19 := hB4.lt
  have hd20 := hB11.lt
  refine Sq.call fn41 .plain rfl rfl (sCmp_c _ a b _ _ _ _ (hnx.ext E) (hac.ext E) (hnx'.ext E) (hac'.ext E)) ?_
  rintro _ w17 ⟨rfl, e18⟩
  have hs21 := Below.size E
  have hs22 := Below.size e18
  replace E := E.trans e18
  replace hB4 := hB4.ext e18
  replace hB11 := hB11.ext e18
  refine Sq.partB (fun hC => ?_) (fun hC => ?_)
  · refine Sq.notT .plain rfl rfl ?_
    refine Sq.nil ?_
    refine Eq.next ?_
    refine Cq.els rfl ?_
    refine Cq.skip ?_
    refine Eq.next ?_
    refine Cq.seq ?_
    refine Cq.region ?_
    refine Sq.loadAgg agg26 .plain rfl rfl hB4 rfl ?_
    refine Sq.loadAgg agg26 .plain rfl rfl hB11 rfl ?_
    refine Sq.litW slw67 rfl rfl (by decide) .plain rfl (rows := [[Value.int .i64 a.al, nx, ac], [Value.int .i64 b.al, nx', ac']]) rfl (fun r hr => (List.mem_cons.1 hr).elim (fun h => by rw [h]; exact ⟨rfl, (one_cons rfl (one_cons (Rows.one (hnx.ext E)) (one_cons (Row.one (hac.ext E)) one_nil)))⟩) (fun h => by rw [List.mem_singleton.1 h]; exact ⟨rfl, (one_cons rfl (one_cons (Rows.one (hnx'.ext E)) (one_cons (Row.one (hac'.ext E)) one_nil)))⟩)) (fun b23 w24 e25 hlo26 ho27 _ => ?_)
    have hs29 := Below.size e25
    replace E := E.trans e25
    replace hB4 := hB4.ext e25
    replace hB11 := hB11.ext e25
    have hN28 := NetA.of2 (ho27 _ (Nat.le_refl _)) (hnx.ext E) (hac.ext E) (hnx'.ext E) (hac'.ext E)
    refine Sq.lit sl55 rfl rfl .plain rfl rfl (one_cons rfl (one_cons rfl one_nil)) (fun b30 w31 e32 hlo33 ho34 _ => ?_)
    replace ho34 := ho34 w24.heap.size (Nat.le_refl _)
    have hs36 := Below.size e32
    replace E := E.trans e32
    replace hB4 := hB4.ext e32
    replace hB11 := hB11.ext e32
    replace hN28 := hN28.ext e32
    refine Sq.fieldAddr fld26_0 .plain rfl rfl ?_
    refine Sq.loadB one3 .plain rfl rfl hB4 rfl ?_
    refine Sq.build st70 rfl rfl .plain rfl rfl (one_cons rfl (one_cons (Row.one (Own.row ho34)) (one_cons rfl (one_cons rfl one_nil)))) rfl ?_
    have hd39 := hB4.lt
    have hd40 := hB11.lt
    refine Sq.call fn55 .plain rfl rfl (Ret.resW (l4First_c _ [a, b] _ _ ([0, 0] : List Int) a.al 2 0 hN28 (Own.row ho34) (netOk2 (cmp2_spec.1 hC).1 (cmp2_spec.1 hC).2.1) (stOk2 (zero_in (cmp2_spec.1 hC).1) (zero_in (cmp2_spec.1 hC).2.1)) rfl (.inr (.inr ⟨.inr rfl, rfl⟩)) (validA_spec.1 (cmp2_spec.1 hC).1).1) (net2 (g := (fun x y => x && !y)) (cmp2_spec.1 hC).1 (cmp2_spec.1 hC).2.1 (in_zero (cmp2_spec.1 hC).1 (cmp2_spec.1 hC).2.1) (fun p q => rfl))) ?_
    rintro _ w37 ⟨rfl, e38⟩
    have hs41 := Below.size E
    have hs42 := Below.size e38
    replace E := E.trans e38
    refine Sq.extract .plain rfl rfl rfl ?_
    refine Sq.extract .plain rfl rfl rfl ?_
    refine Sq.assign .plain rfl rfl ?_
    refine Sq.assign .plain rfl rfl ?_
    refine Sq.nil ?_
    refine Eq.next ?_
    refine Cq.ret ?_
    refine Eq.ret2 rfl rfl rfl ?_
    exact ⟨by rw [fOut, fTwo, if_pos hC]; rfl, E⟩
  refine Sq.notF .plain rfl rfl ?_
  refine Sq.nil ?_
  refine Eq.next ?_
  refine Cq.thn rfl ?_
  refine Cq.seq ?_
  refine Cq.region ?_
  refine Sq.assign .plain rfl rfl ?_
  refine Sq.assign .plain rfl rfl ?_
  refine Sq.nil ?_
  refine Eq.next ?_
  refine Cq.ret ?_
  refine Eq.pastRet ?_
  refine Eq.ret2 rfl rfl rfl ?_
  exact ⟨by rw [fOut, fTwo, if_neg (by rw [hC]; decide)]; rfl, E⟩
set_option maxRecDepth 100000 in
theorem sWithin2_c (w0 : World) (a b : A) (nx ac nx' ac' : Value) (hnx : Rows w0 55 3 nx a.next) (hac : Bools w0 4 ac a.acc) (hnx' : Rows w0 55 3 nx' b.next) (hac' : Bools w0 4 ac' b.acc) : Ret Try.prog 14 #[Value.agg #[Value.int .i64 a.al, nx, ac], Value.agg #[Value.int .i64 b.al, nx', ac']] w0 (fun v w => v = .bool (withinL a b) ∧ Ext w0 w) := by
  have E := Ext.refl w0
  refine Ret.of (args := [Value.agg #[Value.int .i64 a.al, nx, ac], Value.agg #[Value.int .i64 b.al, nx', ac']]) Try.func14 rfl rfl rfl ?_
  rintro _ rfl
  show Cq _ _ _ _ [(0, Value.agg #[Value.int .i64 a.al, nx, ac]), (1, Value.agg #[Value.int .i64 b.al, nx', ac'])] _
  refine Cq.seq ?_
  refine Cq.region ?_
  refine Sq.box .plain rfl rfl (fun b1 w2 e3 hB4 hlo5 => ?_)
  have hd6 := Nat.le_trans (Below.size E) hlo5
  have hs7 := Below.size e3
  replace E := E.trans e3
  refine Sq.box .plain rfl rfl (fun b8 w9 e10 hB11 hlo12 => ?_)
  have hd13 := Nat.le_trans (Below.size E) hlo12
  have hd14 := Nat.lt_of_lt_of_le hB4.lt hlo12
  have hs15 := Below.size e10
  replace E := E.trans e10
  replace hB4 := hB4.ext e10
  refine Sq.assign .plain rfl rfl ?_
  refine Sq.nil ?_
  refine Eq.next ?_
  refine Cq.seq ?_
  refine Cq.region ?_
  refine Sq.loadAgg agg26 .plain rfl rfl hB4 rfl ?_
  refine Sq.loadAgg agg26 .plain rfl rfl hB11 rfl ?_
  have hd19 := hB4.lt
  have hd20 := hB11.lt
  refine Sq.call fn31 .plain rfl rfl (sfOut_c _ a b _ _ _ _ (hnx.ext E) (hac.ext E) (hnx'.ext E) (hac'.ext E)) ?_
  rintro _ w17 ⟨rfl, e18⟩
  have hs21 := Below.size E
  have hs22 := Below.size e18
  replace E := E.trans e18
  replace hB4 := hB4.ext e18
  replace hB11 := hB11.ext e18
  refine Sq.move .plain rfl rfl ?_
  refine Sq.extract .plain rfl rfl rfl ?_
  refine Sq.extract .plain rfl rfl rfl ?_
  refine Sq.assign .plain rfl rfl ?_
  refine Sq.assign .plain rfl rfl ?_
  refine Sq.nil ?_
  refine Eq.next ?_
  refine Cq.seq ?_
  refine Cq.region ?_
  refine Sq.loadAgg agg26 .plain rfl rfl hB4 rfl ?_
  refine Sq.loadAgg agg26 .plain rfl rfl hB11 rfl ?_
  have hd26 := hB4.lt
  have hd27 := hB11.lt
  refine Sq.call fn41 .plain rfl rfl (sCmp_c _ a b _ _ _ _ (hnx.ext E) (hac.ext E) (hnx'.ext E) (hac'.ext E)) ?_
  rintro _ w24 ⟨rfl, e25⟩
  have hs28 := Below.size E
  have hs29 := Below.size e25
  replace E := E.trans e25
  refine Sq.partB (fun hC => ?_) (fun hC => ?_)
  · refine Sq.move .plain rfl rfl ?_
    refine Sq.move (.met rfl rfl rfl) rfl rfl ?_
    refine Sq.not (.met rfl rfl rfl) rfl rfl ?_
    refine Sq.pickT .plain rfl rfl rfl ?_
    refine Sq.assign .plain rfl rfl ?_
    refine Sq.nil ?_
    refine Eq.next ?_
    refine Cq.ret ?_
    refine Eq.ret1 rfl rfl ?_
    exact ⟨by simp [withinL, hC], E⟩
  refine Sq.move .plain rfl rfl ?_
  refine Sq.off rfl rfl rfl rfl rfl rfl ?_
  refine Sq.off rfl rfl rfl rfl rfl rfl ?_
  refine Sq.pickF .plain rfl rfl rfl ?_
  refine Sq.assign .plain rfl rfl ?_
  refine Sq.nil ?_
  refine Eq.next ?_
  refine Cq.ret ?_
  refine Eq.ret1 rfl rfl ?_
  exact ⟨by simp [withinL, hC], E⟩
end Go.Proofs.Ytoboklelbbgcnaa
set_option linter.unusedSimpArgs false
set_option linter.unusedVariables false
namespace Go.Proofs.Ytoboklelbbgcnaa
open Go.RowKit
set_option maxRecDepth 100000 in
theorem count_c (w0 : World) (a : A) (nx ac : Value) (hnx : Rows w0 55 3 nx a.next) (hac : Bools w0 4 ac a.acc) (n : Int) (hnb : -1000 ≤ n ∧ n ≤ 1000) : Ret Try.prog 37 #[Value.agg #[Value.int .i64 a.al, nx, ac], Value.int .i64 n] w0 (fun v w => v = .int .i64 (count a n) ∧ Ext w0 w) := by
  have E := Ext.refl w0
  refine Ret.of (args := [Value.agg #[Value.int .i64 a.al, nx, ac], Value.int .i64 n]) Try.func37 rfl rfl rfl ?_
  rintro _ rfl
  show Cq _ _ _ _ [(0, Value.agg #[Value.int .i64 a.al, nx, ac]), (1, Value.int .i64 n)] _
  refine Cq.seq ?_
  refine Cq.region ?_
  refine Sq.box .plain rfl rfl (fun b1 w2 e3 hB4 hlo5 => ?_)
  have hd6 := Nat.le_trans (Below.size E) hlo5
  have hs7 := Below.size e3
  replace E := E.trans e3
  refine Sq.assign .plain rfl rfl ?_
  refine Sq.nil ?_
  refine Eq.next ?_
  refine Cq.seq ?_
  refine Cq.seq ?_
  refine Cq.region ?_
  refine Sq.loadAgg agg26 .plain rfl rfl hB4 rfl ?_
  have hd11 := hB4.lt
  refine Sq.call fn18 .plain rfl rfl (valid_c _ a _ _ (hnx.ext E) (hac.ext E)) ?_
  rintro _ w9 ⟨rfl, e10⟩
  have hs12 := Below.size E
  have hs13 := Below.size e10
  replace E := E.trans e10
  replace hB4 := hB4.ext e10
  refine Sq.partB (fun hv => ?_) (fun hv => ?_)
  · refine Sq.notT .plain rfl rfl ?_
    refine Sq.move .plain rfl rfl ?_
    refine Sq.move (.met rfl rfl rfl) rfl rfl ?_
    refine Sq.lss (.met rfl rfl rfl) rfl rfl rfl ?_
    refine Sq.part (fun c14 => ?_) (fun c14 => ?_)
    · refine Sq.pickF .plain rfl rfl rfl ?_
      refine Sq.move .plain rfl rfl ?_
      refine Sq.off rfl rfl rfl rfl rfl rfl ?_
      refine Sq.off rfl rfl rfl rfl rfl rfl ?_
      refine Sq.pickT .plain rfl rfl rfl ?_
      refine Sq.nil ?_
      refine Eq.next ?_
      refine Cq.thn rfl ?_
      refine Cq.seq ?_
      refine Cq.region ?_
      refine Sq.assign .plain rfl rfl ?_
      refine Sq.nil ?_
      refine Eq.next ?_
      refine Cq.ret ?_
      refine Eq.pastRet ?_
      refine Eq.ret1 rfl rfl ?_
      exact ⟨by rw [count_bad (by omega)], E⟩
    refine Sq.pickF .plain rfl rfl rfl ?_
    refine Sq.move .plain rfl rfl ?_
    refine Sq.move (.met rfl rfl rfl) rfl rfl ?_
    refine Sq.gtr (.met rfl rfl rfl) rfl rfl rfl ?_
    refine Sq.part (fun c15 => ?_) (fun c15 => ?_)
    · refine Sq.pickF .plain rfl rfl rfl ?_
      refine Sq.nil ?_
      refine Eq.next ?_
      refine Cq.thn rfl ?_
      refine Cq.seq ?_
      refine Cq.region ?_
      refine Sq.assign .plain rfl rfl ?_
      refine Sq.nil ?_
      refine Eq.next ?_
      refine Cq.ret ?_
      refine Eq.pastRet ?_
      refine Eq.ret1 rfl rfl ?_
      exact ⟨by rw [count_bad (by omega)], E⟩
    refine Sq.pickF .plain rfl rfl rfl ?_
    refine Sq.nil ?_
    refine Eq.next ?_
    refine Cq.els rfl ?_
    refine Cq.skip ?_
    refine Eq.next ?_
    refine Cq.seq ?_
    refine Cq.region ?_
    have hvs := validA_spec.1 hv
    have hv1 := hvs.2.1
    have hv2 := hvs.2.2.1
    refine Sq.fieldAddr fld26_1 .plain rfl rfl ?_
    refine Sq.loadB one23 .plain rfl rfl hB4 rfl ?_
    refine Sq.lenRows (hnx.ext E) .plain rfl und23 rfl ?_
    refine Sq.make sl55 .plain rfl rfl rfl rfl (by omega) (fun b16 w17 e18 hlo19 hB20 => ?_)
    replace hB20 := hB20 w9.heap.size (Nat.le_refl _)
    have hs21 := Below.size e18
    replace E := E.trans e18
    replace hB4 := hB4.ext e18
    refine Sq.assign .plain rfl rfl ?_
    refine Sq.nil ?_
    refine Eq.next ?_
    refine Cq.seq ?_
    refine Cq.region ?_
    refine Sq.move .plain rfl rfl ?_
    obtain ⟨p22, hp23o⟩ := Own.at hB20 (i := 0) (by omega) (by first | (simp only [List.length_map]; omega) | (simp; omega))
    refine Sq.atO sl55 hp23o .plain rfl rfl rfl ?_
    refine Sq.storeO one3 hB20 hp23o .plain rfl rfl rfl (fun w24 g25 ho26 => ?_)
    have hs27 := World.grownBy.size g25
    replace E := E.owned hB20 g25 (by omega)
    replace hB4 := hB4.owned hB20 g25 (by decide)
    replace hB20 := ho26
    refine Sq.nil ?_
    refine Eq.next ?_
    refine Cq.seq ?_
    refine Cq.region ?_
    refine Sq.assign .plain rfl rfl ?_
    refine Sq.nil ?_
    refine Eq.next ?_
    refine Cq.seq ?_
    refine Cq.region ?_
    refine Sq.assign .plain rfl rfl ?_
    refine Sq.nil ?_
    refine Eq.next ?_
    refine Cq.block ?_
    refine Cq.loop (fun nn w ls => ∃ (i : Int), ∃ (T : Int), ∃ (cv : Value), ∃ (cs : List Int), ls = [(2, Value.pointer (some ⟨b1, 0, none⟩)), (1, Value.int .i64 n), (5, cv), (6, Value.int .i64 T), (7, Value.int .i64 i)] ∧ (0 ≤ i ∧ i ≤ n) ∧ Own w w0.heap.size 3 cv (cs.map (Value.int .i64)) ∧ (cs.length = a.next.length ∧ InB cs (72 ^ (i).toNat) ∧ 0 ≤ T ∧ T ≤ 72 ^ (i).toNat) ∧ T + cnt a (n.toNat - (i).toNat) cs = count a n ∧ Ext w0 w ∧ Blk w b1 26 [Value.int .i64 a.al, nx, ac] ∧ nn = (n - i).toNat) _ _ ⟨0, 0, _, start a, rfl, by omega, Own.startI hB20 (by omega), ⟨start_length a, start_in, by omega, by decide⟩, by rw [count_good hv (by omega)]; simp, E, hB4, rfl⟩ (.cons rfl (.cons rfl (.cons rfl (.cons rfl (.cons rfl (.nil)))))) ?_
    rintro nn wl1 ls ⟨i, T, cv, cs, rfl, hi, hcv, hcl, hT, E, hB4, rfl⟩
    have hs28 := Below.size E
    have hlow := Own.low hcv
    refine Cq.seq ?_
    refine Cq.block ?_
    refine Cq.seq ?_
    refine Cq.region ?_
    refine Sq.fieldAddr fld26_1 .plain rfl rfl ?_
    refine Sq.loadB one23 .plain rfl rfl hB4 rfl ?_
    refine Sq.lenRows (hnx.ext E) .plain rfl und23 rfl ?_
    refine Sq.make sl55 .plain rfl rfl rfl rfl (by omega) (fun b29 w30 e31 hlo32 hB33 => ?_)
    replace hB33 := hB33 wl1.heap.size (Nat.le_refl _)
    have hs34 := Below.size e31
    replace E := E.trans e31
    replace hB4 := hB4.ext e31
    replace hcv := hcv.ext e31
    refine Sq.assign .plain rfl rfl ?_
    refine Sq.nil ?_
    refine Eq.next ?_
    refine Cq.seq ?_
    refine Cq.seq ?_
    refine Cq.region ?_
    refine Sq.move .plain rfl rfl ?_
    refine Sq.lenInts (Own.row hcv) .plain rfl und55 rfl ?_
    refine Sq.move .plain rfl rfl ?_
    refine Sq.nil ?_
    refine Eq.next ?_
    refine Cq.block ?_
    refine Cq.loop (fun nn w ls => ∃ (q : Int), ∃ (S : Int), ls = [(2, Value.pointer (some ⟨b1, 0, none⟩)), (1, Value.int .i64 n), (7, Value.int .i64 i), (5, cv), (6, Value.int .i64 S), (8, Value.slice (some ⟨b29, 0, none⟩) (List.length a.next : Int).toNat (List.length a.next : Int).toNat), (36, cv), (37, Value.int .i64 (List.length cs : Int)), (38, Value.int .i64 q)] ∧ (0 ≤ q ∧ q ≤ a.next.length) ∧ S = T + sumTo a cs q.toNat ∧ wl1.heap.size ≤ w.heap.size ∧ Own w wl1.heap.size 3 (Value.slice (some ⟨b29, 0, none⟩) (List.length a.next : Int).toNat (List.length a.next : Int).toNat) ((stepTo a cs q.toNat).map (Value.int .i64)) ∧ Ext w0 w ∧ Blk w b1 26 [Value.int .i64 a.al, nx, ac] ∧ Own w w0.heap.size 3 cv (cs.map (Value.int .i64)) ∧ nn = ((a.next.length : Int) - q).toNat) _ _ ⟨0, _, rfl, by omega, by simp [sumTo], by omega, Own.rep hB33, E, hB4, hcv, rfl⟩ (.cons rfl (.cons rfl (.cons rfl (.cons rfl (.cons rfl (.cons rfl (.cons rfl (.cons rfl (.cons rfl (.nil)))))))))) ?_
    rintro nn wl2 ls ⟨q, S, rfl, hq, hS, hsz, hny, E, hB4, hcv, rfl⟩
    have hs35 := Below.size E
    have hroom0 := cnt_room hv hcl.2.1 (by omega) (q := q.toNat) (by omega) (Nat.zero_le _) 0
    have hsr := sum_room (a := a) hcl.2.1 (by omega) hcl.2.2 (q := q.toNat) (by omega)
    have hr6 := valid_row6 hv (k := q.toNat)
    refine Cq.seq ?_
    refine Cq.region ?_
    refine Sq.lss .plain rfl rfl rfl ?_
    refine Sq.part (fun c36 => ?_) (fun c36 => ?_)
    · refine Sq.nil ?_
      refine Eq.next ?_
      refine Cq.seq ?_
      refine Cq.thn rfl ?_
      refine Cq.skip ?_
      refine Eq.next ?_
      refine Cq.seq ?_
      refine Cq.block ?_
      refine Cq.seq ?_
      refine Cq.region ?_
      refine Sq.move .plain rfl rfl ?_
      refine Sq.idxInts sl55 one3 (Own.row hcv) .plain rfl rfl rfl .plain rfl rfl (by omega) (by omega) ?_
      refine Sq.assign .plain rfl rfl ?_
      refine Sq.assign .plain rfl rfl ?_
      refine Sq.nil ?_
      refine Eq.next ?_
      refine Cq.seq ?_
      refine Cq.seq ?_
      refine Cq.region ?_
      refine Sq.fieldAddr fld26_2 .plain rfl rfl ?_
      refine Sq.loadB one24 .plain rfl rfl hB4 rfl ?_
      refine Sq.move .plain rfl rfl ?_
      refine Sq.idxBools sl24 one4 (hac.ext E) .plain rfl rfl rfl .plain rfl rfl (by omega) (by omega) ?_
      refine Sq.partB (fun hac => ?_) (fun hac => ?_)
      · refine Sq.nil ?_
        refine Eq.next ?_
        refine Cq.thn rfl ?_
        refine Cq.region ?_
        refine Sq.move .plain rfl rfl ?_
        refine Sq.move .plain rfl rfl ?_
        refine Sq.add .plain rfl rfl rfl (by omega) ?_
        refine Sq.assign .plain rfl rfl ?_
        refine Sq.nil ?_
        refine Eq.next ?_
        refine Cq.seq ?_
        refine Cq.region ?_
        refine Sq.fieldAddr fld26_1 .plain rfl rfl ?_
        refine Sq.loadB one23 .plain rfl rfl hB4 rfl ?_
        refine Sq.move .plain rfl rfl ?_
        obtain ⟨p37, r39, hp38, hr40⟩ := Rows.at hnx (i := q) (by omega) (by omega)
        replace hp38 := hp38.ext E
        refine Sq.val .plain rfl rfl (Still.at' sl23 hp38 rfl rfl) ?_
        refine Sq.val .plain rfl rfl (Still.loadA one55 rfl hp38.1) ?_
        refine Sq.lenInts (hr40.ext E) .plain rfl und55 rfl ?_
        refine Sq.move .plain rfl rfl ?_
        refine Sq.nil ?_
        refine Eq.next ?_
        refine Cq.block ?_
        refine Cq.loop (fun nn w ls => ∃ (k : Int), ls = [(2, Value.pointer (some ⟨b1, 0, none⟩)), (1, Value.int .i64 n), (7, Value.int .i64 i), (5, cv), (6, Value.int .i64 (S + (cs.getD q.toNat 0))), (8, Value.slice (some ⟨b29, 0, none⟩) (List.length a.next : Int).toNat (List.length a.next : Int).toNat), (36, cv), (37, Value.int .i64 (List.length cs : Int)), (38, Value.int .i64 q), (9, Value.int .i64 q), (10, Value.int .i64 (cs.getD q.toNat 0)), (55, r39), (56, Value.int .i64 ((List.length (a.next.getD q.toNat []) : Int))), (47, Value.bool true), (57, Value.int .i64 k)] ∧ (0 ≤ k ∧ k ≤ (a.next.getD q.toNat []).length) ∧ wl1.heap.size ≤ w.heap.size ∧ Own w wl1.heap.size 3 (Value.slice (some ⟨b29, 0, none⟩) (List.length a.next : Int).toNat (List.length a.next : Int).toNat) ((addTo (a.next.getD q.toNat []) (cs.getD q.toNat 0) k.toNat (stepTo a cs q.toNat)).map (Value.int .i64)) ∧ Ext w0 w ∧ Blk w b1 26 [Value.int .i64 a.al, nx, ac] ∧ Own w w0.heap.size 3 cv (cs.map (Value.int .i64)) ∧ nn = (((a.next.getD q.toNat []).length : Int) - k).toNat) _ _ ⟨0, rfl, by omega, by omega, by exact hny, E, hB4, hcv, rfl⟩ (.cons rfl (.cons rfl (.cons rfl (.cons rfl (.cons rfl (.cons rfl (.cons rfl (.cons rfl (.cons rfl (.cons rfl (.cons rfl (.cons rfl (.cons rfl (.cons rfl (.cons rfl (.nil)))))))))))))))) ?_
        rintro nn wl3 ls ⟨k, rfl, hk, hsz2, hnk, E, hB4, hcv, rfl⟩
        have hs41 := Below.size E
        have hroom := cnt_room hv hcl.2.1 (by omega) (q := q.toNat) (by omega) (k := k.toNat) (by omega) ((a.next.getD q.toNat []).getD k.toNat 0).toNat
        have hvt := valid_at hv (k := q.toNat) (j := k.toNat)
        have hal : (addTo (a.next.getD q.toNat []) (cs.getD q.toNat 0) k.toNat (stepTo a cs q.toNat)).length = a.next.length := by rw [addTo_length, stepTo_length]
        refine Cq.seq ?_
        refine Cq.region ?_
        refine Sq.lss .plain rfl rfl rfl ?_
        refine Sq.part (fun c42 => ?_) (fun c42 => ?_)
        · refine Sq.nil ?_
          refine Eq.next ?_
          refine Cq.seq ?_
          refine Cq.thn rfl ?_
          refine Cq.skip ?_
          refine Eq.next ?_
          refine Cq.seq ?_
          refine Cq.block ?_
          refine Cq.seq ?_
          refine Cq.region ?_
          refine Sq.idxInts sl55 one3 (hr40.ext E) .plain rfl rfl rfl .plain rfl rfl (by omega) (by omega) ?_
          refine Sq.assign .plain rfl rfl ?_
          refine Sq.nil ?_
          refine Eq.next ?_
          refine Cq.region ?_
          refine Sq.move .plain rfl rfl ?_
          refine Sq.move .plain rfl rfl ?_
          refine Sq.idxInts sl55 one3 (Own.row hnk) .plain rfl rfl rfl .plain rfl rfl (by have := hvt (by omega) (by omega); omega) (by have := hvt (by omega) (by omega); omega) ?_
          refine Sq.move .plain rfl rfl ?_
          refine Sq.add .plain rfl rfl rfl (by omega) ?_
          obtain ⟨p43, hp44o⟩ := Own.at hnk (i := (a.next.getD q.toNat []).getD k.toNat 0) (by have := hvt (by omega) (by omega); omega) (by first | (simp only [List.length_map]; have := hvt (by omega) (by omega); omega) | (simp; have := hvt (by omega) (by omega); omega))
          refine Sq.atO sl55 hp44o .plain rfl rfl rfl ?_
          refine Sq.storeO one3 hnk hp44o .plain rfl rfl rfl (fun w45 g46 ho47 => ?_)
          have hs48 := World.grownBy.size g46
          replace E := E.owned hnk g46 (by omega)
          replace hB4 := hB4.owned hnk g46 (by decide)
          replace hcv := hcv.apart hlow hnk g46 (by omega)
          replace hnk := ho47
          refine Sq.nil ?_
          refine Eq.end ?_
          refine Eq.next ?_
          refine Cq.region ?_
          refine Sq.add .plain rfl rfl rfl (by omega) ?_
          refine Sq.move .plain rfl rfl ?_
          refine Sq.nil ?_
          have e1 := toNat_succ hk.1
          refine Eq.round _ _ ⟨k + 1, rfl, by omega, by omega, by rw [e1, addTo_succ (by omega)]; exact Own.setI hnk, E, hB4, hcv, rfl⟩ (by omega) (.cons rfl (.cons rfl (.cons rfl (.cons rfl (.cons rfl (.cons rfl (.cons rfl (.cons rfl (.cons rfl (.cons rfl (.cons rfl (.cons rfl (.cons rfl (.cons rfl (.cons rfl (.nil))))))))))))))))
        refine Sq.nil ?_
        refine Eq.next ?_
        refine Cq.seq ?_
        refine Cq.els rfl ?_
        refine Cq.exit ?_
        refine Eq.past ?_
        refine Eq.past ?_
        refine Eq.hit ?_
        refine Eq.end ?_
        refine Eq.next ?_
        refine Cq.region ?_
        refine Sq.add .plain rfl rfl rfl (by omega) ?_
        refine Sq.move .plain rfl rfl ?_
        refine Sq.nil ?_
        have e1 := toNat_succ hq.1
        have e2 := sumTo_succ a cs q.toNat
        rw [hac] at e2
        simp only [if_true] at e2
        refine Eq.round _ _ ⟨q + 1, _, rfl, by omega, by rw [e1, e2, hS]; omega, by omega, by rw [e1, stepTo_succ, ← addTo_done (k := k.toNat) (by omega)]; exact hnk, E, hB4, hcv, rfl⟩ (by omega) (.cons rfl (.cons rfl (.cons rfl (.cons rfl (.cons rfl (.cons rfl (.cons rfl (.cons rfl (.cons rfl (.nil))))))))))
      refine Sq.nil ?_
      refine Eq.next ?_
      refine Cq.els rfl ?_
      refine Cq.skip ?_
      refine Eq.next ?_
      refine Cq.seq ?_
      refine Cq.region ?_
      refine Sq.fieldAddr fld26_1 .plain rfl rfl ?_
      refine Sq.loadB one23 .plain rfl rfl hB4 rfl ?_
      refine Sq.move .plain rfl rfl ?_
      obtain ⟨p49, r51, hp50, hr52⟩ := Rows.at hnx (i := q) (by omega) (by omega)
      replace hp50 := hp50.ext E
      refine Sq.val .plain rfl rfl (Still.at' sl23 hp50 rfl rfl) ?_
      refine Sq.val .plain rfl rfl (Still.loadA one55 rfl hp50.1) ?_
      refine Sq.lenInts (hr52.ext E) .plain rfl und55 rfl ?_
      refine Sq.move .plain rfl rfl ?_
      refine Sq.nil ?_
      refine Eq.next ?_
      refine Cq.block ?_
      refine Cq.loop (fun nn w ls => ∃ (k : Int), ls = [(2, Value.pointer (some ⟨b1, 0, none⟩)), (1, Value.int .i64 n), (7, Value.int .i64 i), (5, cv), (6, Value.int .i64 S), (8, Value.slice (some ⟨b29, 0, none⟩) (List.length a.next : Int).toNat (List.length a.next : Int).toNat), (36, cv), (37, Value.int .i64 (List.length cs : Int)), (38, Value.int .i64 q), (9, Value.int .i64 q), (10, Value.int .i64 (cs.getD q.toNat 0)), (55, r51), (56, Value.int .i64 ((List.length (a.next.getD q.toNat []) : Int))), (47, Value.bool false), (57, Value.int .i64 k)] ∧ (0 ≤ k ∧ k ≤ (a.next.getD q.toNat []).length) ∧ wl1.heap.size ≤ w.heap.size ∧ Own w wl1.heap.size 3 (Value.slice (some ⟨b29, 0, none⟩) (List.length a.next : Int).toNat (List.length a.next : Int).toNat) ((addTo (a.next.getD q.toNat []) (cs.getD q.toNat 0) k.toNat (stepTo a cs q.toNat)).map (Value.int .i64)) ∧ Ext w0 w ∧ Blk w b1 26 [Value.int .i64 a.al, nx, ac] ∧ Own w w0.heap.size 3 cv (cs.map (Value.int .i64)) ∧ nn = (((a.next.getD q.toNat []).length : Int) - k).toNat) _ _ ⟨0, rfl, by omega, by omega, by exact hny, E, hB4, hcv, rfl⟩ (.cons rfl (.cons rfl (.cons rfl (.cons rfl (.cons rfl (.cons rfl (.cons rfl (.cons rfl (.cons rfl (.cons rfl (.cons rfl (.cons rfl (.cons rfl (.cons rfl (.cons rfl (.nil)))))))))))))))) ?_
      rintro nn wl3 ls ⟨k, rfl, hk, hsz2, hnk, E, hB4, hcv, rfl⟩
      have hs53 := Below.size E
      have hroom := cnt_room hv hcl.2.1 (by omega) (q := q.toNat) (by omega) (k := k.toNat) (by omega) ((a.next.getD q.toNat []).getD k.toNat 0).toNat
      have hvt := valid_at hv (k := q.toNat) (j := k.toNat)
      have hal : (addTo (a.next.getD q.toNat []) (cs.getD q.toNat 0) k.toNat (stepTo a cs q.toNat)).length = a.next.length := by rw [addTo_length, stepTo_length]
      refine Cq.seq ?_
      refine Cq.region ?_
      refine Sq.lss .plain rfl rfl rfl ?_
      refine Sq.part (fun c54 => ?_) (fun c54 => ?_)
      · refine Sq.nil ?_
        refine Eq.next ?_
        refine Cq.seq ?_
        refine Cq.thn rfl ?_
        refine Cq.skip ?_
        refine Eq.next ?_
        refine Cq.seq ?_
        refine Cq.block ?_
        refine Cq.seq ?_
        refine Cq.region ?_
        refine Sq.idxInts sl55 one3 (hr52.ext E) .plain rfl rfl rfl .plain rfl rfl (by omega) (by omega) ?_
        refine Sq.assign .plain rfl rfl ?_
        refine Sq.nil ?_
        refine Eq.next ?_
        refine Cq.region ?_
        refine Sq.move .plain rfl rfl ?_
        refine Sq.move .plain rfl rfl ?_
        refine Sq.idxInts sl55 one3 (Own.row hnk) .plain rfl rfl rfl .plain rfl rfl (by have := hvt (by omega) (by omega); omega) (by have := hvt (by omega) (by omega); omega) ?_
        refine Sq.move .plain rfl rfl ?_
        refine Sq.add .plain rfl rfl rfl (by omega) ?_
        obtain ⟨p55, hp56o⟩ := Own.at hnk (i := (a.next.getD q.toNat []).getD k.toNat 0) (by have := hvt (by omega) (by omega); omega) (by first | (simp only [List.length_map]; have := hvt (by omega) (by omega); omega) | (simp; have := hvt (by omega) (by omega); omega))
        refine Sq.atO sl55 hp56o .plain rfl rfl rfl ?_
        refine Sq.storeO one3 hnk hp56o .plain rfl rfl rfl (fun w57 g58 ho59 => ?_)
        have hs60 := World.grownBy.size g58
        replace E := E.owned hnk g58 (by omega)
        replace hB4 := hB4.owned hnk g58 (by decide)
        replace hcv := hcv.apart hlow hnk g58 (by omega)
        replace hnk := ho59
        refine Sq.nil ?_
        refine Eq.end ?_
        refine Eq.next ?_
        refine Cq.region ?_
        refine Sq.add .plain rfl rfl rfl (by omega) ?_
        refine Sq.move .plain rfl rfl ?_
        refine Sq.nil ?_
        have e1 := toNat_succ hk.1
        refine Eq.round _ _ ⟨k + 1, rfl, by omega, by omega, by rw [e1, addTo_succ (by omega)]; exact Own.setI hnk, E, hB4, hcv, rfl⟩ (by omega) (.cons rfl (.cons rfl (.cons rfl (.cons rfl (.cons rfl (.cons rfl (.cons rfl (.cons rfl (.cons rfl (.cons rfl (.cons rfl (.cons rfl (.cons rfl (.cons rfl (.cons rfl (.nil))))))))))))))))
      refine Sq.nil ?_
      refine Eq.next ?_
      refine Cq.seq ?_
      refine Cq.els rfl ?_
      refine Cq.exit ?_
      refine Eq.past ?_
      refine Eq.past ?_
      refine Eq.hit ?_
      refine Eq.end ?_
      refine Eq.next ?_
      refine Cq.region ?_
      refine Sq.add .plain rfl rfl rfl (by omega) ?_
      refine Sq.move .plain rfl rfl ?_
      refine Sq.nil ?_
      have e1 := toNat_succ hq.1
      have e2 := sumTo_succ a cs q.toNat
      rw [hac] at e2
      simp only [Bool.false_eq_true, if_false] at e2
      refine Eq.round _ _ ⟨q + 1, _, rfl, by omega, by rw [e1, e2, hS], by omega, by rw [e1, stepTo_succ, ← addTo_done (k := k.toNat) (by omega)]; exact hnk, E, hB4, hcv, rfl⟩ (by omega) (.cons rfl (.cons rfl (.cons rfl (.cons rfl (.cons rfl (.cons rfl (.cons rfl (.cons rfl (.cons rfl (.nil))))))))))
    refine Sq.nil ?_
    refine Eq.next ?_
    refine Cq.seq ?_
    refine Cq.els rfl ?_
    refine Cq.exit ?_
    refine Eq.past ?_
    refine Eq.past ?_
    refine Eq.hit ?_
    refine Eq.next ?_
    refine Cq.seq ?_
    refine Cq.seq ?_
    refine Cq.region ?_
    refine Sq.move .plain rfl rfl ?_
    refine Sq.move .plain rfl rfl ?_
    refine Sq.eql .plain rfl rfl rfl ?_
    refine Sq.part (fun c61 => ?_) (fun c61 => ?_)
    · refine Sq.nil ?_
      refine Eq.next ?_
      refine Cq.thn rfl ?_
      refine Cq.seq ?_
      refine Cq.region ?_
      refine Sq.move .plain rfl rfl ?_
      refine Sq.assign .plain rfl rfl ?_
      refine Sq.nil ?_
      refine Eq.next ?_
      refine Cq.ret ?_
      refine Eq.pastRet ?_
      refine Eq.outRet ?_
      refine Eq.pastRet ?_
      refine Eq.pastRet ?_
      refine Eq.outRet ?_
      refine Eq.ret1 rfl rfl ?_
      obtain rfl : q = a.next.length := by omega
      obtain rfl : i = n := by omega
      rw [Nat.sub_self, cnt] at hT
      exact ⟨by rw [hS, Int.toNat_natCast, hT], E⟩
    refine Sq.nil ?_
    refine Eq.next ?_
    refine Cq.els rfl ?_
    refine Cq.skip ?_
    refine Eq.next ?_
    refine Cq.region ?_
    refine Sq.move .plain rfl rfl ?_
    refine Sq.assign .plain rfl rfl ?_
    refine Sq.nil ?_
    refine Eq.end ?_
    refine Eq.next ?_
    refine Cq.region ?_
    refine Sq.move .plain rfl rfl ?_
    refine Sq.add .plain rfl rfl rfl (by omega) ?_
    refine Sq.assign .plain rfl rfl ?_
    refine Sq.nil ?_
    obtain rfl : q = a.next.length := by omega
    rw [Int.toNat_natCast] at hny hS
    have hnn := cnt_next hv hcl.2.1 (by omega) hcl.2.2
    have e1 := toNat_succ hi.1
    have e2 : n.toNat - i.toNat = (n.toNat - (i + 1).toNat) + 1 := by omega
    rw [e2, cnt] at hT
    refine Eq.round _ _ ⟨i + 1, _, _, stepTo a cs a.next.length, rfl, by omega, Own.mono hny (by omega), ⟨stepTo_length _ _ _, by rw [e1]; exact hnn.1, by rw [hS]; exact hnn.2.1, by rw [hS, e1]; exact hnn.2.2⟩, by rw [hS, ← hT]; omega, E, hB4, rfl⟩ (by omega) (.cons rfl (.cons rfl (.cons rfl (.cons rfl (.cons rfl (.nil))))))
  refine Sq.notF .plain rfl rfl ?_
  refine Sq.move .plain rfl rfl ?_
  refine Sq.off rfl rfl rfl rfl rfl rfl ?_
  refine Sq.off rfl rfl rfl rfl rfl rfl ?_
  refine Sq.pickT .plain rfl rfl rfl ?_
  refine Sq.move .plain rfl rfl ?_
  refine Sq.off rfl rfl rfl rfl rfl rfl ?_
  refine Sq.off rfl rfl rfl rfl rfl rfl ?_
  refine Sq.pickT .plain rfl rfl rfl ?_
  refine Sq.nil ?_
  refine Eq.next ?_
  refine Cq.thn rfl ?_
  refine Cq.seq ?_
  refine Cq.region ?_
  refine Sq.assign .plain rfl rfl ?_
  refine Sq.nil ?_
  refine Eq.next ?_
  refine Cq.ret ?_
  refine Eq.pastRet ?_
  refine Eq.ret1 rfl rfl ?_
  exact ⟨by rw [count_bad (by rw [hv]; simp)], E⟩
end Go.Proofs.Ytoboklelbbgcnaa
set_option linter.unusedSimpArgs false
set_option linter.unusedVariables false
namespace Go.Proofs.Ytoboklelbbgcnaa
open Go.RowKit
set_option maxRecDepth 100000 in
theorem lWithinCount (w0 : World) (e : TypeId) (a0 : Option Addr) (c0 : Nat) (cs : List UInt8) (hc : Bytes w0 e (.slice a0 cs.length c0) cs) (hcap : cs.length ≤ c0) (e' : TypeId) (a0' : Option Addr) (c0' : Nat) (cs' : List UInt8) (hc' : Bytes w0 e' (.slice a0' cs'.length c0') cs') (hcap' : cs'.length ≤ c0') : Ret Try.prog 11 #[Value.slice a0 cs.length c0, Value.slice a0' cs'.length c0'] w0 (fun v w => v = .bool true ∧ Ext w0 w) := by
  have E := Ext.refl w0
  refine Ret.of (args := [Value.slice a0 cs.length c0, Value.slice a0' cs'.length c0']) Try.func11 rfl rfl rfl ?_
  rintro _ rfl
  show Cq _ _ _ _ [(0, Value.slice a0 cs.length c0), (1, Value.slice a0' cs'.length c0')] _
  refine Cq.seq ?_
  refine Cq.region ?_
  refine Sq.assign .plain rfl rfl ?_
  refine Sq.nil ?_
  refine Eq.next ?_
  refine Cq.seq ?_
  refine Cq.seq ?_
  refine Cq.region ?_
  refine Sq.move .plain rfl rfl ?_
  refine Sq.lenBytes (hc.ext E) .plain rfl und22 rfl ?_
  refine Sq.gtr .plain rfl rfl rfl ?_
  refine Sq.part (fun c1 => ?_) (fun c1 => ?_)
  · refine Sq.move .plain rfl rfl ?_
    refine Sq.off rfl rfl rfl rfl rfl rfl ?_
    refine Sq.off rfl rfl rfl rfl rfl rfl ?_
    refine Sq.off rfl rfl rfl rfl rfl rfl ?_
    refine Sq.pickT .plain rfl rfl rfl ?_
    refine Sq.nil ?_
    refine Eq.next ?_
    refine Cq.thn rfl ?_
    refine Cq.seq ?_
    refine Cq.region ?_
    refine Sq.assign .plain rfl rfl ?_
    refine Sq.nil ?_
    refine Eq.next ?_
    refine Cq.ret ?_
    refine Eq.pastRet ?_
    refine Eq.ret1 rfl rfl ?_
    exact ⟨rfl, E⟩
  refine Sq.move .plain rfl rfl ?_
  refine Sq.move (.met rfl rfl rfl) rfl rfl ?_
  refine Sq.lenBytes (hc'.ext E) (.met rfl rfl rfl) rfl und22 rfl ?_
  refine Sq.gtr (.met rfl rfl rfl) rfl rfl rfl ?_
  refine Sq.part (fun c2 => ?_) (fun c2 => ?_)
  · refine Sq.pickF .plain rfl rfl rfl ?_
    refine Sq.nil ?_
    refine Eq.next ?_
    refine Cq.thn rfl ?_
    refine Cq.seq ?_
    refine Cq.region ?_
    refine Sq.assign .plain rfl rfl ?_
    refine Sq.nil ?_
    refine Eq.next ?_
    refine Cq.ret ?_
    refine Eq.pastRet ?_
    refine Eq.ret1 rfl rfl ?_
    exact ⟨rfl, E⟩
  refine Sq.pickF .plain rfl rfl rfl ?_
  refine Sq.nil ?_
  refine Eq.next ?_
  refine Cq.els rfl ?_
  refine Cq.skip ?_
  refine Eq.next ?_
  refine Cq.seq ?_
  refine Cq.region ?_
  refine Sq.move .plain rfl rfl ?_
  refine Sq.call fn12 .plain rfl rfl (drawWithin_c _ _ _ _ _ (hc.ext E) hcap) ?_
  rintro v3 w4 ⟨⟨u6, v7, aX8, aY9, rfl, ⟨nxX10, acX11, rfl, hnX12, haX13⟩, ⟨nxY14, acY15, rfl, hnY16, haY17⟩, hsmX18, hsmY19⟩, e5⟩
  have hs20 := Below.size E
  have hs21 := Below.size e5
  replace E := E.trans e5
  refine Sq.move .plain rfl rfl ?_
  refine Sq.extract .plain rfl rfl rfl ?_
  refine Sq.extract .plain rfl rfl rfl ?_
  refine Sq.alloc zero26 .plain rfl (fun b22 w23 e24 hB25 hlo26 => ?_)
  have hd27 := Nat.le_trans (Below.size E) hlo26
  have hs28 := Below.size e24
  replace E := E.trans e24
  replace hnX12 := hnX12.ext e24
  replace haX13 := haX13.ext e24
  replace hnY16 := hnY16.ext e24
  replace haY17 := haY17.ext e24
  refine Sq.alloc zero26 .plain rfl (fun b29 w30 e31 hB32 hlo33 => ?_)
  have hd34 := Nat.le_trans (Below.size E) hlo33
  have hd35 := Nat.lt_of_lt_of_le hB25.lt hlo33
  have hs36 := Below.size e31
  replace E := E.trans e31
  replace hnX12 := hnX12.ext e31
  replace haX13 := haX13.ext e31
  replace hnY16 := hnY16.ext e31
  replace haY17 := haY17.ext e31
  replace hB25 := hB25.ext e31
  refine Sq.storeAgg agg26 .plain rfl rfl (one_cons rfl (one_cons (Rows.one hnX12) (one_cons (Row.one haX13) one_nil))) hB25 rfl rfl (fun w37 g38 hB39 => ?_)
  have hs40 := World.grownBy.size g38
  replace E := E.grown g38 (fun k hk => by injection hk with hk; subst hk; omega)
  replace hnX12 := hnX12.stored g38 hB25 (by decide) (by decide)
  replace haX13 := haX13.stored g38 hB25 (by decide)
  replace hnY16 := hnY16.stored g38 hB25 (by decide) (by decide)
  replace haY17 := haY17.stored g38 hB25 (by decide)
  replace hB32 := hB32.grown g38 (by intro h; injection h with h; omega)
  replace hB25 := hB39
  refine Sq.storeAgg agg26 .plain rfl rfl (one_cons rfl (one_cons (Rows.one hnY16) (one_cons (Row.one haY17) one_nil))) hB32 rfl rfl (fun w41 g42 hB43 => ?_)
  have hs44 := World.grownBy.size g42
  replace E := E.grown g42 (fun k hk => by injection hk with hk; subst hk; omega)
  replace hnX12 := hnX12.stored g42 hB32 (by decide) (by decide)
  replace haX13 := haX13.stored g42 hB32 (by decide)
  replace hnY16 := hnY16.stored g42 hB32 (by decide) (by decide)
  replace haY17 := haY17.stored g42 hB32 (by decide)
  replace hB25 := hB25.grown g42 (by intro h; injection h with h; omega)
  replace hB32 := hB43
  refine Sq.nil ?_
  refine Eq.next ?_
  refine Cq.seq ?_
  refine Cq.region ?_
  refine Sq.loadAgg agg26 .plain rfl rfl hB25 rfl ?_
  refine Sq.loadAgg agg26 .plain rfl rfl hB32 rfl ?_
  have hd48 := hB25.lt
  have hd49 := hB32.lt
  refine Sq.call fn13 .plain rfl rfl (within2_c _ aX8 aY9 _ _ _ _ hnX12 haX13 hnY16 haY17) ?_
  rintro _ w46 ⟨rfl, e47⟩
  have hs50 := Below.size E
  have hs51 := Below.size e47
  replace E := E.trans e47
  replace hnX12 := hnX12.ext e47
  replace haX13 := haX13.ext e47
  replace hnY16 := hnY16.ext e47
  replace haY17 := haY17.ext e47
  replace hB25 := hB25.ext e47
  replace hB32 := hB32.ext e47
  refine Sq.assign .plain rfl rfl ?_
  refine Sq.nil ?_
  refine Eq.next ?_
  refine Cq.seq ?_
  refine Cq.region ?_
  refine Sq.move .plain rfl rfl ?_
  have hd64 := hB25.lt
  have hd65 := hB32.lt
  refine Sq.call fn27 .plain rfl rfl (drawAfter_c _ _ _ _ _ (hc'.ext E) hcap') ?_
  rintro _ w53 ⟨⟨u55, s56, a57, rfl, ⟨nx58, ac59, rfl, hn60, ha61⟩, hsm62, hsz63⟩, e54⟩
  have hs66 := Below.size E
  have hs67 := Below.size e54
  replace E := E.trans e54
  replace hnX12 := hnX12.ext e54
  replace haX13 := haX13.ext e54
  replace hnY16 := hnY16.ext e54
  replace haY17 := haY17.ext e54
  replace hB25 := hB25.ext e54
  replace hB32 := hB32.ext e54
  refine Sq.move .plain rfl rfl ?_
  refine Sq.extract .plain rfl rfl rfl ?_
  refine Sq.extract .plain rfl rfl rfl ?_
  refine Sq.alloc zero26 .plain rfl (fun b68 w69 e70 hB71 hlo72 => ?_)
  have hd73 := Nat.le_trans (Below.size E) hlo72
  have hd74 := Nat.lt_of_lt_of_le hB25.lt hlo72
  have hd75 := Nat.lt_of_lt_of_le hB32.lt hlo72
  have hs76 := Below.size e70
  replace E := E.trans e70
  replace hnX12 := hnX12.ext e70
  replace haX13 := haX13.ext e70
  replace hnY16 := hnY16.ext e70
  replace haY17 := haY17.ext e70
  replace hB25 := hB25.ext e70
  replace hB32 := hB32.ext e70
  replace hn60 := hn60.ext e70
  replace ha61 := ha61.ext e70
  refine Sq.storeAgg agg26 .plain rfl rfl (one_cons rfl (one_cons (Rows.one hn60) (one_cons (Row.one ha61) one_nil))) hB71 rfl rfl (fun w77 g78 hB79 => ?_)
  have hs80 := World.grownBy.size g78
  replace E := E.grown g78 (fun k hk => by injection hk with hk; subst hk; omega)
  replace hnX12 := hnX12.stored g78 hB71 (by decide) (by decide)
  replace haX13 := haX13.stored g78 hB71 (by decide)
  replace hnY16 := hnY16.stored g78 hB71 (by decide) (by decide)
  replace haY17 := haY17.stored g78 hB71 (by decide)
  replace hB25 := hB25.grown g78 (by intro h; injection h with h; omega)
  replace hB32 := hB32.grown g78 (by intro h; injection h with h; omega)
  replace hB71 := hB79
  refine Sq.assign .plain rfl rfl ?_
  refine Sq.nil ?_
  refine Eq.next ?_
  refine Cq.seq ?_
  refine Cq.seq ?_
  refine Cq.region ?_
  refine Sq.move .plain rfl rfl ?_
  refine Sq.loadAgg agg26 .plain rfl rfl hB25 rfl ?_
  refine Sq.loadAgg agg26 .plain rfl rfl hB32 rfl ?_
  have hd84 := hB25.lt
  have hd85 := hB32.lt
  have hd86 := hB71.lt
  refine Sq.call fn14 .plain rfl rfl (sWithin2_c _ aX8 aY9 _ _ _ _ hnX12 haX13 hnY16 haY17) ?_
  rintro _ w82 ⟨rfl, e83⟩
  have hs87 := Below.size E
  have hs88 := Below.size e83
  replace E := E.trans e83
  replace hnX12 := hnX12.ext e83
  replace haX13 := haX13.ext e83
  replace hnY16 := hnY16.ext e83
  replace haY17 := haY17.ext e83
  replace hB25 := hB25.ext e83
  replace hB32 := hB32.ext e83
  replace hB71 := hB71.ext e83
  refine Sq.neqB und4 .plain rfl rfl rfl ?_
  refine Sq.beF (by simp) ?_
  refine Sq.move .plain rfl rfl ?_
  refine Sq.move (.met rfl rfl rfl) rfl rfl ?_
  refine Sq.partB (fun hw => ?_) (fun hw => ?_)
  · refine Sq.notT (.met rfl rfl rfl) rfl rfl ?_
    refine Sq.pickF .plain rfl rfl rfl ?_
    refine Sq.nil ?_
    refine Eq.next ?_
    refine Cq.els rfl ?_
    refine Cq.skip ?_
    refine Eq.next ?_
    refine Cq.seq ?_
    refine Cq.drawS 16 (fun w' => Blk w' b22 26 [Value.int .i64 aX8.al, nxX10, acX11] ∧ Blk w' b29 26 [Value.int .i64 aY9.al, nxY14, acY15]) mixed (⟨hB25, hB32⟩) (fun w89 e90 hS => ?_)
    clear hS
    have hs91 := Below.size e90
    replace E := E.trans e90
    replace hnX12 := hnX12.ext e90
    replace haX13 := haX13.ext e90
    replace hnY16 := hnY16.ext e90
    replace haY17 := haY17.ext e90
    replace hB25 := hB25.ext e90
    replace hB32 := hB32.ext e90
    replace hB71 := hB71.ext e90
    refine Gq.st 0 rfl (by kernel_rfl) rfl .plain rfl (fun _ _ _ h => h) ⟨hB25, hB32⟩ (fun w' x => Still.loadAgg agg26 rfl x.1 rfl) ?_
    refine Gq.st 2 rfl (by kernel_rfl) rfl .plain rfl (fun _ _ _ h => h) ⟨hB25, hB32⟩ (fun w' x => Still.loadAgg agg26 rfl x.2 rfl) ?_
    refine Gq.one 1 rfl (by kernel_rfl) ?_
    have hd95 := hB25.lt
    have hd96 := hB32.lt
    have hd97 := hB71.lt
    refine Sq.call fn37 .plain rfl rfl (count_c _ aX8 _ _ hnX12 haX13 6 (by omega)) ?_
    rintro _ w93 ⟨rfl, e94⟩
    have hs98 := Below.size E
    have hs99 := Below.size e94
    replace E := E.trans e94
    replace hnX12 := hnX12.ext e94
    replace haX13 := haX13.ext e94
    replace hnY16 := hnY16.ext e94
    replace haY17 := haY17.ext e94
    replace hB25 := hB25.ext e94
    replace hB32 := hB32.ext e94
    replace hB71 := hB71.ext e94
    refine Sq.nil ?_
    refine Eq.goes (fun _ => ⟨hB25, hB32⟩) ?_
    refine Gq.one 3 rfl (by kernel_rfl) ?_
    have hd103 := hB25.lt
    have hd104 := hB32.lt
    have hd105 := hB71.lt
    refine Sq.call fn37 .plain rfl rfl (count_c _ aY9 _ _ hnY16 haY17 6 (by omega)) ?_
    rintro _ w101 ⟨rfl, e102⟩
    have hs106 := Below.size E
    have hs107 := Below.size e102
    replace E := E.trans e102
    replace hnX12 := hnX12.ext e102
    replace haX13 := haX13.ext e102
    replace hnY16 := hnY16.ext e102
    replace haY17 := haY17.ext e102
    replace hB25 := hB25.ext e102
    replace hB32 := hB32.ext e102
    replace hB71 := hB71.ext e102
    refine Sq.nil ?_
    refine Eq.goes (fun _ => ⟨hB25, hB32⟩) ?_
    refine Gq.st 4 rfl (by kernel_rfl) rfl .plain rfl (fun _ _ _ h => h) ⟨hB25, hB32⟩ (fun w' x => Still.leq rfl rfl) ?_
    refine Gq.isT (count_within hw (by decide)) ?_
    refine Gq.st 5 rfl (by kernel_rfl) rfl .plain rfl (fun _ _ _ h => h) ⟨hB25, hB32⟩ (fun w' x => Still.move rfl) ?_
    refine Gq.st 6 rfl (by kernel_rfl) rfl (.met rfl rfl rfl) rfl (fun _ _ _ h => h) ⟨hB25, hB32⟩ (fun w' x => Still.loadAgg agg26 rfl x.1 rfl) ?_
    refine Gq.st 7 rfl (by kernel_rfl) rfl (.met rfl rfl rfl) rfl (fun _ _ _ h => h) ⟨hB25, hB32⟩ (fun w' x => Still.move rfl) ?_
    refine Gq.one 8 rfl (by kernel_rfl) ?_
    have hd111 := hB25.lt
    have hd112 := hB32.lt
    have hd113 := hB71.lt
    refine Sq.call fn28 (.met rfl rfl rfl) rfl rfl (accepts_c _ aX8 _ _ hnX12 haX13 s56 (by first | omega | exact Nat.le_trans dif_size (by decide) | exact Nat.le_trans (size_cut _) (Nat.le_trans dif_size (by decide)))) ?_
    rintro _ w109 ⟨rfl, e110⟩
    have hs114 := Below.size E
    have hs115 := Below.size e110
    replace E := E.trans e110
    replace hnY16 := hnY16.ext e110
    replace haY17 := haY17.ext e110
    replace hB25 := hB25.ext e110
    replace hB32 := hB32.ext e110
    replace hB71 := hB71.ext e110
    refine Sq.partB (fun hav => ?_) (fun hav => ?_)
    · refine Sq.nil ?_
      refine Eq.goes (fun _ => ⟨hB25, hB32⟩) ?_
      refine Gq.st 9 rfl (by kernel_rfl) rfl (.met rfl rfl rfl) rfl (fun _ _ _ h => h) ⟨hB25, hB32⟩ (fun w' x => Still.notT rfl) ?_
      refine Gq.st 10 rfl (by kernel_rfl) rfl (.met rfl rfl rfl) rfl (fun _ _ _ h => h) ⟨hB25, hB32⟩ (fun w' x => Still.move rfl) ?_
      refine Gq.st 11 rfl (by kernel_rfl) rfl (.met rfl rfl rfl) rfl (fun _ _ _ h => h) ⟨hB25, hB32⟩ (fun w' x => Still.loadAgg agg26 rfl x.2 rfl) ?_
      refine Gq.st 12 rfl (by kernel_rfl) rfl (.met rfl rfl rfl) rfl (fun _ _ _ h => h) ⟨hB25, hB32⟩ (fun w' x => Still.move rfl) ?_
      refine Gq.one 13 rfl (by kernel_rfl) ?_
      have hd119 := hB25.lt
      have hd120 := hB32.lt
      have hd121 := hB71.lt
      refine Sq.call fn28 (.met rfl rfl rfl) rfl rfl (accepts_c _ aY9 _ _ hnY16 haY17 s56 (by first | omega | exact Nat.le_trans dif_size (by decide) | exact Nat.le_trans (size_cut _) (Nat.le_trans dif_size (by decide)))) ?_
      rintro _ w117 ⟨rfl, e118⟩
      have hs122 := Below.size E
      have hs123 := Below.size e118
      replace E := E.trans e118
      replace hB25 := hB25.ext e118
      replace hB32 := hB32.ext e118
      refine Sq.beT (within_accepts hw hav) ?_
      refine Sq.nil ?_
      refine Eq.goes (fun _ => ⟨hB25, hB32⟩) ?_
      refine Gq.st 14 rfl (by kernel_rfl) rfl (.met rfl rfl rfl) rfl (fun _ _ _ h => h) ⟨hB25, hB32⟩ (fun w' x => Still.pickF rfl rfl) ?_
      refine Gq.st 15 rfl (by kernel_rfl) rfl .plain rfl (fun _ _ _ h => h) ⟨hB25, hB32⟩ (fun w' x => Still.pickT rfl rfl) ?_
      refine Gq.one 16 rfl (by kernel_rfl) ?_
      refine Sq.assign .plain rfl rfl ?_
      refine Sq.nil ?_
      refine Eq.goes (fun h => absurd h (by decide)) ?_
      refine Gq.done (by kernel_rfl) ?_
      refine Eq.next ?_
      refine Cq.ret ?_
      refine Eq.ret1 rfl rfl ?_
      exact ⟨rfl, E⟩
    refine Sq.nil ?_
    refine Eq.goes (fun _ => ⟨hB25, hB32⟩) ?_
    refine Gq.st 9 rfl (by kernel_rfl) rfl (.met rfl rfl rfl) rfl (fun _ _ _ h => h) ⟨hB25, hB32⟩ (fun w' x => Still.notF rfl) ?_
    refine Gq.st 10 rfl (by kernel_rfl) rfl (.met rfl rfl rfl) rfl (fun _ _ _ h => h) ⟨hB25, hB32⟩ (fun w' x => Still.move rfl) ?_
    refine Gq.off 11 rfl (by kernel_rfl) rfl rfl rfl rfl rfl rfl (fun _ _ _ h => h) ⟨hB25, hB32⟩ ?_
    refine Gq.off 12 rfl (by kernel_rfl) rfl rfl rfl rfl rfl rfl (fun _ _ _ h => h) ⟨hB25, hB32⟩ ?_
    refine Gq.off 13 rfl (by kernel_rfl) rfl rfl rfl rfl rfl rfl (fun _ _ _ h => h) ⟨hB25, hB32⟩ ?_
    refine Gq.st 14 rfl (by kernel_rfl) rfl (.met rfl rfl rfl) rfl (fun _ _ _ h => h) ⟨hB25, hB32⟩ (fun w' x => Still.pickT rfl rfl) ?_
    refine Gq.st 15 rfl (by kernel_rfl) rfl .plain rfl (fun _ _ _ h => h) ⟨hB25, hB32⟩ (fun w' x => Still.pickT rfl rfl) ?_
    refine Gq.one 16 rfl (by kernel_rfl) ?_
    refine Sq.assign .plain rfl rfl ?_
    refine Sq.nil ?_
    refine Eq.goes (fun h => absurd h (by decide)) ?_
    refine Gq.done (by kernel_rfl) ?_
    refine Eq.next ?_
    refine Cq.ret ?_
    refine Eq.ret1 rfl rfl ?_
    exact ⟨rfl, E⟩
  refine Sq.notF (.met rfl rfl rfl) rfl rfl ?_
  refine Sq.pickF .plain rfl rfl rfl ?_
  refine Sq.nil ?_
  refine Eq.next ?_
  refine Cq.thn rfl ?_
  refine Cq.seq ?_
  refine Cq.region ?_
  refine Sq.move .plain rfl rfl ?_
  refine Sq.beF (hw) ?_
  refine Sq.loadAgg agg26 .plain rfl rfl hB25 rfl ?_
  refine Sq.loadAgg agg26 .plain rfl rfl hB32 rfl ?_
  have hd127 := hB25.lt
  have hd128 := hB32.lt
  have hd129 := hB71.lt
  refine Sq.call fn14 .plain rfl rfl (sWithin2_c _ aX8 aY9 _ _ _ _ hnX12 haX13 hnY16 haY17) ?_
  rintro _ w125 ⟨rfl, e126⟩
  have hs130 := Below.size E
  have hs131 := Below.size e126
  replace E := E.trans e126
  refine Sq.beF (hw) ?_
  refine Sq.eqlB und4 .plain rfl rfl rfl ?_
  refine Sq.assign .plain rfl rfl ?_
  refine Sq.nil ?_
  refine Eq.next ?_
  refine Cq.ret ?_
  refine Eq.pastRet ?_
  refine Eq.ret1 rfl rfl ?_
  exact ⟨rfl, E⟩
end Go.Proofs.Ytoboklelbbgcnaa
set_option linter.unusedSimpArgs false
set_option linter.unusedVariables false
namespace Go.Proofs.Ytoboklelbbgcnaa
open Go.RowKit
def IsRow (k : IntKind) (w : World) (a : Option Addr) (len cap : Nat) (zs : List Int) : Prop :=
  (a = none ∧ len = 0 ∧ cap = 0 ∧ zs = []) ∨
  ∃ x, a = some x ∧ len ≤ cap ∧ cap ≤ maxLen ∧ zs.length = cap ∧ (∀ i, i < zs.length → w.cell? (x.add i) = some (.int k (zs.getD i 0))) ∧ ∀ n ∈ zs, (Lit.int k n).wf = true
theorem wf8 {n : Int} (h : (Lit.int .u8 n).wf = true) : 0 ≤ n ∧ n ≤ 255 := by
  simp [Lit.wf, IntKind.min, IntKind.max, IntKind.signed, IntKind.bits] at h
  omega
theorem bytes_of {w : World} {a : Option Addr} {len cap : Nat} {zs : List Int} (h : IsRow .u8 w a len cap zs) : ∃ e xs, len = List.length xs ∧ Bytes w e (.slice a xs.length cap) xs ∧ xs.length ≤ cap := by
  rcases h with ⟨rfl, rfl, rfl, rfl⟩ | ⟨x, rfl, hl, hm, hz, hcell, hwz⟩
  · exact ⟨0, [], rfl, .inl ⟨rfl, none, 0, rfl, fun _ => rfl⟩, Nat.le_refl _⟩
  · rcases Nat.eq_zero_or_pos len with h0 | h0
    · subst h0
      exact ⟨0, [], rfl, .inl ⟨rfl, some x, cap, rfl, fun h => by cases h⟩, Nat.zero_le _⟩
    · obtain ⟨b, o, s⟩ := x
      have hc := hcell 0 (by omega)
      have hs : s = none := by simpa [Addr.add] using World.cell?_spot hc
      subst hs
      have hb : ∃ cur e fr, w.heap[b]? = some (.cells cur e fr) := by
        rw [addr_add] at hc
        unfold World.cell? at hc
        simp only at hc
        cases hw : w.heap[b]? with
        | none => rw [hw] at hc; simp at hc
        | some ob =>
          rw [hw] at hc
          cases ob <;> simp at hc
          rename_i cur e fr
          exact ⟨cur, e, fr, rfl⟩
      obtain ⟨cur, e, fr, hb⟩ := hb
      have hlen : ((zs.take len).map fun z => UInt8.ofNat z.toNat).length = len := by simp; omega
      refine ⟨e, (zs.take len).map fun z => UInt8.ofNat z.toNat, hlen.symm, .inr ⟨b, o, cap, cur, fr, by simp, hb, fun i y hy => ?_⟩, by omega⟩
      have hi : i < len := by
        have := (List.getElem?_eq_some_iff.1 hy).1
        simp at this; omega
      have hi2 : i < zs.length := by omega
      have h1 := hcell i hi2
      rw [addr_add] at h1
      have h2 : y = .int .u8 (zs.getD i 0) := by
        have hw := wf8 (hwz _ (List.getElem_mem hi2))
        have e2 := u8_of hw
        simp [List.getElem?_take, hi, hi2] at hy
        rw [← hy]
        simp [hi2]
        omega
      rw [h2]
      simpa [World.cell?, hb] using h1
end Go.Proofs.Ytoboklelbbgcnaa
