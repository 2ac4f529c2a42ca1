/-
  Walks, printed by a program out of the translation and a contract for each function; each step is one law.
-/
import Derived.Test.YtdkdpmmfebdeaaaQa
set_option linter.unusedSimpArgs false
set_option linter.unusedVariables false
namespace Go.Proofs.Ytdkdpmmfebdeaaa
open Go.RowKit

set_option maxHeartbeats 1000000 in
set_option maxRecDepth 100000 in
theorem l4Nexts_c (w0 : World) (aa : List A) (av sv : Value) (ss : List Int) (lt kd gl : Int) (hN : NetA w0 27 52 3 4 av aa) (hS : Ints w0 3 sv ss) (r u : Value) (st : List Int) (hr : Ints w0 3 r (szs aa)) (hu : Ints w0 3 u st) (hok : NetOk aa) (hst : StOk (szs aa) st) (hsl : st.length = aa.length) (x : Int) (hx : 0 ≤ x ∧ x < 6) : Ret Try.prog 103 #[Value.agg #[Value.slice none 0 0, av, sv, Value.int .i64 lt, Value.int .i64 kd, Value.int .i64 gl], r, u, Value.int .i64 x] w0 (fun v w => Own w w0.heap.size 3 v [Value.int .i64 (encTo (szs aa) (goL aa st x) aa.length)] ∧ Ext w0 w) := by
  have E := Ext.refl w0
  have hlen := hok.1
  have hzl := szs_length aa
  refine Ret.of (args := [Value.agg #[Value.slice none 0 0, av, sv, Value.int .i64 lt, Value.int .i64 kd, Value.int .i64 gl], r, u, Value.int .i64 x]) Try.func103 rfl rfl rfl ?_
  rintro _ rfl
  show Cq _ _ _ _ [(0, Value.agg #[Value.slice none 0 0, av, sv, Value.int .i64 lt, Value.int .i64 kd, Value.int .i64 gl]), (1, r), (2, u), (3, Value.int .i64 x)] _
  refine Cq.seq ?_
  refine Cq.region ?_
  refine Sq.box .plain rfl rfl (fun b1 w2 e3 hB4 hlo5 => ?_)
  have hd6 := Nat.le_trans (Below.size E) hlo5
  have hs7 := Below.size e3
  replace E := E.trans e3
  refine Sq.assign .plain rfl rfl ?_
  refine Sq.nil ?_
  refine Eq.next ?_
  refine Cq.seq ?_
  refine Cq.region ?_
  refine Sq.lit sl52 rfl rfl .plain rfl rfl (one_cons rfl one_nil) (fun b8 w9 e10 hlo11 ho12 _ => ?_)
  replace ho12 := ho12 w2.heap.size (Nat.le_refl _)
  have hs14 := Below.size e10
  replace E := E.trans e10
  replace hB4 := hB4.ext e10
  refine Sq.assign .plain rfl rfl ?_
  refine Sq.nil ?_
  refine Eq.next ?_
  refine Cq.seq ?_
  refine Cq.seq ?_
  refine Cq.region ?_
  refine Sq.assign .plain rfl rfl ?_
  refine Sq.nil ?_
  refine Eq.next ?_
  refine Cq.block ?_
  refine Cq.loop (fun nn w ls => ∃ (k : Int), ∃ (ov : Value), ls = [(1, r), (2, u), (3, Value.int .i64 x), (4, Value.pointer (some ⟨b1, 0, none⟩)), (9, ov), (10, Value.int .i64 k)] ∧ (0 ≤ k ∧ k ≤ st.length) ∧ Own w w0.heap.size 3 ov (([(encTo (szs aa) (goL aa st x) k.toNat)] : List Int).map (Value.int .i64)) ∧ Ext w0 w ∧ Blk w b1 70 [Value.slice none 0 0, av, sv, Value.int .i64 lt, Value.int .i64 kd, Value.int .i64 gl] ∧ nn = ((st.length : Int) - k).toNat) _ _ ⟨0, _, rfl, by omega, Own.mono ho12 (by omega), E, hB4, rfl⟩ (.cons rfl (.cons rfl (.cons rfl (.cons rfl (.cons rfl (.cons rfl (.nil))))))) ?_
  rintro nn wl1 ls ⟨k, ov, rfl, hk, ho, E, hB4, rfl⟩
  have hs15 := Below.size E
  have hlow9 := Own.low ho
  refine Cq.seq ?_
  refine Cq.seq ?_
  refine Cq.region ?_
  refine Sq.move .plain rfl rfl ?_
  refine Sq.move .plain rfl rfl ?_
  refine Sq.lenInts (hu.ext E) .plain rfl und52 rfl ?_
  refine Sq.lss .plain rfl rfl rfl ?_
  refine Sq.part (fun c16 => ?_) (fun c16 => ?_)
  · refine Sq.nil ?_
    refine Eq.next ?_
    refine Cq.thn rfl ?_
    refine Cq.skip ?_
    refine Eq.next ?_
    refine Cq.seq ?_
    refine Cq.block ?_
    refine Cq.seq ?_
    obtain ⟨phpA, hpA⟩ := Ints.at hu (i := k) (by omega) (by omega)
    replace hpA := hpA.ext E
    have hstk := st_at hst (k := k.toNat) (by omega)
    have hgk : (goL aa st x).getD k.toNat 0 = _ := goL_at (k := k.toNat) (by omega)
    have hng := net_at hok (k := k.toNat) (by omega)
    refine Cq.drawS 8 (fun w' => Blk w' b1 70 [Value.slice none 0 0, av, sv, Value.int .i64 lt, Value.int .i64 kd, Value.int .i64 gl] ∧ At w' 3 u k phpA (.int .i64 (st.getD k.toNat 0)) ∧ Ext w0 w') mixed (⟨hB4, hpA, E⟩) (fun w17 e18 hS => ?_)
    clear hS
    have hs19 := Below.size e18
    replace E := E.trans e18
    replace hB4 := hB4.ext e18
    replace ho := ho.ext e18
    replace hpA := hpA.ext e18
    have E_w17 := E
    have hB4_w17 := hB4
    have ho_w17 := ho
    have hpA_w17 := hpA
    refine Gq.st 0 rfl (by kernel_rfl) rfl .plain rfl (fun _ _ _ h => h) ⟨hB4, hpA, E⟩ (fun w' x => Still.loadAgg agg70 rfl x.1 rfl) ?_
    refine Gq.st 1 rfl (by kernel_rfl) rfl .plain rfl (fun _ _ _ h => h) ⟨hB4, hpA, E⟩ (fun w' x => Still.move rfl) ?_
    refine Gq.st 2 rfl (by kernel_rfl) rfl .plain rfl (fun _ _ _ h => h) ⟨hB4, hpA, E⟩ (fun w' x => Still.move rfl) ?_
    refine Gq.st 3 rfl (by kernel_rfl) rfl .plain rfl (fun _ _ _ h => h) ⟨hB4, hpA, E⟩ (fun w' x => Still.move rfl) ?_
    refine Gq.st 4 rfl (by kernel_rfl) rfl .plain rfl (fun _ _ _ h => h) ⟨hB4, hpA, E⟩ (fun w' x => Still.at' sl52 hpA rfl rfl) ?_
    refine Gq.st 5 rfl (by kernel_rfl) rfl .plain rfl (fun _ _ _ h => h) ⟨hB4, hpA, E⟩ (fun w' x => Still.loadA one3 rfl (x.2.1).1) ?_
    refine Gq.st 6 rfl (by kernel_rfl) rfl .plain rfl (fun _ _ _ h => h) ⟨hB4, hpA, E⟩ (fun w' x => Still.move rfl) ?_
    refine Gq.one 7 rfl (by kernel_rfl) ?_
    have hd24 := hB4.lt
    refine Sq.call fn108 .plain rfl rfl (l4Choices_c _ aa av sv ss lt kd gl (hN.ext E) (hS.ext E) hok k (st.getD k.toNat 0) x (by omega) (by first | omega | exact hstk) (by omega)) ?_
    rintro v20 w21 ⟨ho23, e22⟩
    have hs25 := Below.size E
    have hs26 := Below.size e22
    replace E := E.trans e22
    replace hB4 := hB4.ext e22
    replace ho := ho.ext e22
    replace hpA := hpA.ext e22
    replace ho23 : Own w21 w17.heap.size 3 v20 (([goA (aa.getD k.toNat zeroA) (st.getD k.toNat 0) x] : List Int).map (Value.int .i64)) := ho23
    refine Sq.nil ?_
    refine Eq.goes (fun _ => ⟨hB4, hpA, E⟩) ?_
    refine Gq.one 8 rfl (by kernel_rfl) ?_
    refine Sq.assign .plain rfl rfl ?_
    refine Sq.nil ?_
    refine Eq.goes (fun h => absurd h (by decide)) ?_
    refine Gq.done (by kernel_rfl) ?_
    refine Eq.next ?_
    refine Cq.seq ?_
    refine Cq.region ?_
    have hlowC := Own.low ho23
    refine Sq.lit sl52 rfl rfl .plain rfl rfl one_nil (fun b27 w28 e29 hlo30 ho31 _ => ?_)
    replace ho31 := ho31 w21.heap.size (Nat.le_refl _)
    have hs33 := Below.size e29
    replace E := E.trans e29
    replace hB4 := hB4.ext e29
    replace ho := ho.ext e29
    replace hpA := hpA.ext e29
    replace ho23 := ho23.ext e29
    refine Sq.assign .plain rfl rfl ?_
    refine Sq.nil ?_
    refine Eq.next ?_
    refine Cq.seq ?_
    refine Cq.seq ?_
    refine Cq.region ?_
    refine Sq.assign .plain rfl rfl ?_
    refine Sq.nil ?_
    refine Eq.next ?_
    refine Cq.block ?_
    refine Cq.loop (fun nn w ls => ∃ (j : Int), ∃ (nv : Value), ls = [(1, r), (2, u), (3, Value.int .i64 x), (4, Value.pointer (some ⟨b1, 0, none⟩)), (9, ov), (10, Value.int .i64 k), (11, v20), (12, nv), (13, Value.int .i64 j)] ∧ (0 ≤ j ∧ j ≤ 1) ∧ (w21.heap.size ≤ w.heap.size) ∧ Own w w21.heap.size 3 nv (if j = 0 then [] else [Value.int .i64 (encTo (szs aa) (goL aa st x) k.toNat * (szs aa).getD k.toNat 0 + goA (aa.getD k.toNat zeroA) (st.getD k.toNat 0) x)]) ∧ Ext w0 w ∧ Blk w b1 70 [Value.slice none 0 0, av, sv, Value.int .i64 lt, Value.int .i64 kd, Value.int .i64 gl] ∧ Own w w0.heap.size 3 ov (([(encTo (szs aa) (goL aa st x) k.toNat)] : List Int).map (Value.int .i64)) ∧ Own w w17.heap.size 3 v20 (([goA (aa.getD k.toNat zeroA) (st.getD k.toNat 0) x] : List Int).map (Value.int .i64)) ∧ nn = (1 - j).toNat) _ _ ⟨0, _, rfl, by omega, by omega, ho31, E, hB4, ho, ho23, rfl⟩ (.cons rfl (.cons rfl (.cons rfl (.cons rfl (.cons rfl (.cons rfl (.cons rfl (.cons rfl (.cons rfl (.nil)))))))))) ?_
    rintro nn wl2 ls ⟨j, nv, rfl, hj, hsz, hnv, E, hB4, ho, ho23, rfl⟩
    have hs34 := Below.size E
    have hl1 : (List.length ([(encTo (szs aa) (goL aa st x) k.toNat)] : List Int) : Int) = 1 := rfl
    refine Cq.seq ?_
    refine Cq.seq ?_
    refine Cq.region ?_
    refine Sq.move .plain rfl rfl ?_
    refine Sq.move .plain rfl rfl ?_
    refine Sq.lenInts (Own.row ho) .plain rfl und52 rfl ?_
    refine Sq.lss .plain rfl rfl rfl ?_
    refine Sq.part (fun c35 => ?_) (fun c35 => ?_)
    · refine Sq.nil ?_
      refine Eq.next ?_
      refine Cq.thn rfl ?_
      refine Cq.skip ?_
      refine Eq.next ?_
      refine Cq.seq ?_
      refine Cq.block ?_
      refine Cq.seq ?_
      refine Cq.region ?_
      refine Sq.assign .plain rfl rfl ?_
      refine Sq.nil ?_
      refine Eq.next ?_
      refine Cq.block ?_
      refine Cq.loop (fun nn w ls => ∃ (m : Int), ∃ (nv2 : Value), ls = [(1, r), (2, u), (3, Value.int .i64 x), (4, Value.pointer (some ⟨b1, 0, none⟩)), (9, ov), (10, Value.int .i64 k), (11, v20), (12, nv2), (13, Value.int .i64 j), (14, Value.int .i64 m)] ∧ (0 ≤ m ∧ m ≤ 1) ∧ (w21.heap.size ≤ w.heap.size) ∧ Own w w21.heap.size 3 nv2 (if m = 0 then [] else [Value.int .i64 (encTo (szs aa) (goL aa st x) k.toNat * (szs aa).getD k.toNat 0 + goA (aa.getD k.toNat zeroA) (st.getD k.toNat 0) x)]) ∧ Ext w0 w ∧ Blk w b1 70 [Value.slice none 0 0, av, sv, Value.int .i64 lt, Value.int .i64 kd, Value.int .i64 gl] ∧ Own w w0.heap.size 3 ov (([(encTo (szs aa) (goL aa st x) k.toNat)] : List Int).map (Value.int .i64)) ∧ Own w w17.heap.size 3 v20 (([goA (aa.getD k.toNat zeroA) (st.getD k.toNat 0) x] : List Int).map (Value.int .i64)) ∧ nn = (1 - m).toNat) _ _ ⟨0, _, rfl, by omega, by omega, by rw [if_pos (by omega)] at hnv; exact hnv, E, hB4, ho, ho23, rfl⟩ (.cons rfl (.cons rfl (.cons rfl (.cons rfl (.cons rfl (.cons rfl (.cons rfl (.cons rfl (.cons rfl (.cons rfl (.nil))))))))))) ?_
      rintro nn wl3 ls ⟨m, nv2, rfl, hm, hsz, hnv, E, hB4, ho, ho23, rfl⟩
      have hs36 := Below.size E
      have heb := enc_bd (szs_ok hok) (goL_ok hok hst hx) (k := k.toNat) (by omega)
      have hsb := st_at (goL_ok hok hst hx) (k := k.toNat) (by omega)
      rw [hgk] at hsb
      have hl2 : (List.length ([goA (aa.getD k.toNat zeroA) (st.getD k.toNat 0) x] : List Int) : Int) = 1 := rfl
      refine Cq.seq ?_
      refine Cq.seq ?_
      refine Cq.region ?_
      refine Sq.move .plain rfl rfl ?_
      refine Sq.move .plain rfl rfl ?_
      refine Sq.lenInts (Own.row ho23) .plain rfl und52 rfl ?_
      refine Sq.lss .plain rfl rfl rfl ?_
      refine Sq.part (fun c37 => ?_) (fun c37 => ?_)
      · refine Sq.nil ?_
        refine Eq.next ?_
        refine Cq.thn rfl ?_
        refine Cq.skip ?_
        refine Eq.next ?_
        refine Cq.seq ?_
        refine Cq.block ?_
        have hj0 : j = 0 := by omega
        have hm0 : m = 0 := by omega
        obtain ⟨phpO, hpO⟩ := Ints.at (xs := [(encTo (szs aa) (goL aa st x) k.toNat)]) (Own.row ho) (i := j) (by omega) (by simp; omega)
        obtain ⟨phpC, hpC⟩ := Ints.at (xs := [goA (aa.getD k.toNat zeroA) (st.getD k.toNat 0) x]) (Own.row ho23) (i := m) (by omega) (by simp; omega)
        obtain ⟨phpS, hpS⟩ := Ints.at hr (i := k) (by omega) (by omega)
        have hlowS := Ints.low hr (by omega)
        replace hpS := hpS.ext E
        rw [show ([(encTo (szs aa) (goL aa st x) k.toNat)] : List Int).getD j.toNat 0 = (encTo (szs aa) (goL aa st x) k.toNat) by rw [hj0]; rfl] at hpO
        rw [show ([goA (aa.getD k.toNat zeroA) (st.getD k.toNat 0) x] : List Int).getD m.toNat 0 = goA (aa.getD k.toNat zeroA) (st.getD k.toNat 0) x by rw [hm0]; rfl] at hpC
        refine Cq.drawS 17 (fun w' => At w' 3 ov j phpO (.int .i64 (encTo (szs aa) (goL aa st x) k.toNat)) ∧ At w' 3 r k phpS (.int .i64 ((szs aa).getD k.toNat 0)) ∧ At w' 3 v20 m phpC (.int .i64 (goA (aa.getD k.toNat zeroA) (st.getD k.toNat 0) x)) ∧ Ext w0 w') mixed (⟨hpO, hpS, hpC, E⟩) (fun w38 e39 hS => ?_)
        clear hS
        have hs40 := Below.size e39
        replace E := E.trans e39
        replace hB4 := hB4.ext e39
        replace ho := ho.ext e39
        replace ho23 := ho23.ext e39
        replace hnv := hnv.ext e39
        replace hpO := hpO.ext e39
        replace hpS := hpS.ext e39
        replace hpC := hpC.ext e39
        have E_w38 := E
        have hB4_w38 := hB4
        have ho_w38 := ho
        have ho23_w38 := ho23
        have hnv_w38 := hnv
        have hpO_w38 := hpO
        have hpS_w38 := hpS
        have hpC_w38 := hpC
        refine Gq.st 0 rfl (by kernel_rfl) rfl .plain rfl (fun _ _ _ h => h) ⟨hpO, hpS, hpC, E⟩ (fun w' x => Still.move rfl) ?_
        refine Gq.st 1 rfl (by kernel_rfl) rfl .plain rfl (fun _ _ _ h => h) ⟨hpO, hpS, hpC, E⟩ (fun w' x => Still.move rfl) ?_
        refine Gq.st 2 rfl (by kernel_rfl) rfl .plain rfl (fun _ _ _ h => h) ⟨hpO, hpS, hpC, E⟩ (fun w' x => Still.move rfl) ?_
        refine Gq.st 3 rfl (by kernel_rfl) rfl .plain rfl (fun _ _ _ h => h) ⟨hpO, hpS, hpC, E⟩ (fun w' x => Still.at' sl52 hpO rfl rfl) ?_
        refine Gq.st 4 rfl (by kernel_rfl) rfl .plain rfl (fun _ _ _ h => h) ⟨hpO, hpS, hpC, E⟩ (fun w' x => Still.loadA one3 rfl (x.1).1) ?_
        refine Gq.st 5 rfl (by kernel_rfl) rfl .plain rfl (fun _ _ _ h => h) ⟨hpO, hpS, hpC, E⟩ (fun w' x => Still.move rfl) ?_
        refine Gq.st 6 rfl (by kernel_rfl) rfl .plain rfl (fun _ _ _ h => h) ⟨hpO, hpS, hpC, E⟩ (fun w' x => Still.move rfl) ?_
        refine Gq.st 7 rfl (by kernel_rfl) rfl .plain rfl (fun _ _ _ h => h) ⟨hpO, hpS, hpC, E⟩ (fun w' x => Still.at' sl52 hpS rfl rfl) ?_
        refine Gq.st 8 rfl (by kernel_rfl) rfl .plain rfl (fun _ _ _ h => h) ⟨hpO, hpS, hpC, E⟩ (fun w' x => Still.loadA one3 rfl (x.2.1).1) ?_
        refine Gq.st 9 rfl (by kernel_rfl) rfl .plain rfl (fun _ _ _ h => h) ⟨hpO, hpS, hpC, E⟩ (fun w' x => Still.mul rfl rfl (by omega)) ?_
        refine Gq.st 10 rfl (by kernel_rfl) rfl .plain rfl (fun _ _ _ h => h) ⟨hpO, hpS, hpC, E⟩ (fun w' x => Still.move rfl) ?_
        refine Gq.st 11 rfl (by kernel_rfl) rfl .plain rfl (fun _ _ _ h => h) ⟨hpO, hpS, hpC, E⟩ (fun w' x => Still.move rfl) ?_
        refine Gq.st 12 rfl (by kernel_rfl) rfl .plain rfl (fun _ _ _ h => h) ⟨hpO, hpS, hpC, E⟩ (fun w' x => Still.at' sl52 hpC rfl rfl) ?_
        refine Gq.st 13 rfl (by kernel_rfl) rfl .plain rfl (fun _ _ _ h => h) ⟨hpO, hpS, hpC, E⟩ (fun w' x => Still.loadA one3 rfl (x.2.2.1).1) ?_
        refine Gq.st 14 rfl (by kernel_rfl) rfl .plain rfl (fun _ _ _ h => h) ⟨hpO, hpS, hpC, E⟩ (fun w' x => Still.add rfl rfl (by omega)) ?_
        refine Gq.one 15 rfl (by kernel_rfl) ?_
        refine Sq.lit sl52 rfl rfl .plain rfl rfl (one_cons rfl one_nil) (fun b41 w42 e43 hlo44 ho45 _ => ?_)
        replace ho45 := ho45 w38.heap.size (Nat.le_refl _)
        have hs47 := Below.size e43
        replace E := E.trans e43
        replace hB4 := hB4.ext e43
        replace ho := ho.ext e43
        replace ho23 := ho23.ext e43
        replace hnv := hnv.ext e43
        replace hpO := hpO.ext e43
        replace hpS := hpS.ext e43
        replace hpC := hpC.ext e43
        refine Sq.nil ?_
        refine Eq.goes (fun _ => ⟨hpO, hpS, hpC, E⟩) ?_
        refine Gq.one 16 rfl (by kernel_rfl) ?_
        refine Sq.app sl52 hnv (by omega) (Own.row ho45) (one_cons rfl one_nil) (by first | omega | (split <;> simp)) .plain rfl rfl rfl rfl (fun v48 w49 ho51 g50 => ?_)
        have hs52 := g50.size
        replace E := E.owned hnv g50 (by omega)
        replace hB4 := hB4.owned hnv g50 (by decide)
        replace ho := ho.apart hlow9 hnv g50 (by omega)
        replace ho23 := ho23.apart hlowC hnv g50 (by omega)
        replace hpO := hpO.apart hlow9 hnv g50 (by omega)
        replace hpS := hpS.apart hlowS hnv g50 (by omega)
        replace hpC := hpC.apart hlowC hnv g50 (by omega)
        refine Sq.nil ?_
        refine Eq.goes (fun _ => ⟨hpO, hpS, hpC, E⟩) ?_
        refine Gq.one 17 rfl (by kernel_rfl) ?_
        refine Sq.assign .plain rfl rfl ?_
        refine Sq.nil ?_
        refine Eq.goes (fun h => absurd h (by decide)) ?_
        refine Gq.done (by kernel_rfl) ?_
        refine Eq.end ?_
        refine Eq.next ?_
        refine Cq.region ?_
        refine Sq.move .plain rfl rfl ?_
        refine Sq.add .plain rfl rfl rfl (by omega) ?_
        refine Sq.assign .plain rfl rfl ?_
        refine Sq.nil ?_
        refine Eq.round _ _ ⟨m + 1, _, rfl, by omega, by omega, by rw [if_neg (by omega)]; have h := ho51; rw [if_pos hm0] at h; exact h, E, hB4, ho, ho23, rfl⟩ (by omega) (.cons rfl (.cons rfl (.cons rfl (.cons rfl (.cons rfl (.cons rfl (.cons rfl (.cons rfl (.cons rfl (.cons rfl (.nil)))))))))))
      · refine Sq.nil ?_
        refine Eq.next ?_
        refine Cq.els rfl ?_
        refine Cq.exit ?_
        refine Eq.past ?_
        refine Eq.past ?_
        refine Eq.hit ?_
        refine Eq.end ?_
        refine Eq.next ?_
        refine Cq.region ?_
        refine Sq.move .plain rfl rfl ?_
        refine Sq.add .plain rfl rfl rfl (by omega) ?_
        refine Sq.assign .plain rfl rfl ?_
        refine Sq.nil ?_
        have hm1 : m = 1 := by omega
        refine Eq.round _ _ ⟨j + 1, _, rfl, by omega, by omega, by rw [if_neg (by omega)]; rw [if_neg (by omega)] at hnv; exact hnv, E, hB4, ho, ho23, rfl⟩ (by omega) (.cons rfl (.cons rfl (.cons rfl (.cons rfl (.cons rfl (.cons rfl (.cons rfl (.cons rfl (.cons rfl (.nil))))))))))
    · refine Sq.nil ?_
      refine Eq.next ?_
      refine Cq.els rfl ?_
      refine Cq.exit ?_
      refine Eq.past ?_
      refine Eq.past ?_
      refine Eq.hit ?_
      refine Eq.next ?_
      refine Cq.region ?_
      refine Sq.move .plain rfl rfl ?_
      refine Sq.assign .plain rfl rfl ?_
      refine Sq.nil ?_
      refine Eq.end ?_
      refine Eq.next ?_
      refine Cq.region ?_
      refine Sq.move .plain rfl rfl ?_
      refine Sq.add .plain rfl rfl rfl (by omega) ?_
      refine Sq.assign .plain rfl rfl ?_
      refine Sq.nil ?_
      have e1 := toNat_succ hk.1
      have hj1 : j = 1 := by omega
      refine Eq.round _ _ ⟨k + 1, _, rfl, by omega, by rw [e1, encTo, hgk]; rw [hj1] at hnv; exact Own.mono hnv (by omega), E, hB4, rfl⟩ (by omega) (.cons rfl (.cons rfl (.cons rfl (.cons rfl (.cons rfl (.cons rfl (.nil)))))))
  · refine Sq.nil ?_
    refine Eq.next ?_
    refine Cq.els rfl ?_
    refine Cq.exit ?_
    refine Eq.past ?_
    refine Eq.past ?_
    refine Eq.hit ?_
    refine Eq.next ?_
    refine Cq.seq ?_
    refine Cq.region ?_
    refine Sq.move .plain rfl rfl ?_
    refine Sq.assign .plain rfl rfl ?_
    refine Sq.nil ?_
    refine Eq.next ?_
    refine Cq.ret ?_
    refine Eq.ret1 rfl rfl ?_
    have e2 : k.toNat = aa.length := by omega
    rw [e2] at ho
    exact ⟨ho, E⟩

end Go.Proofs.Ytdkdpmmfebdeaaa
