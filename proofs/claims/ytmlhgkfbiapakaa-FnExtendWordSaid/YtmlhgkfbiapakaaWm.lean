/-
  Walks, printed by a program out of the translation and a contract for each function; each step is one law.
-/
import Derived.Test.YtmlhgkfbiapakaaWb
import Derived.Test.YtmlhgkfbiapakaaCnt
set_option linter.unusedSimpArgs false
set_option linter.unusedVariables false
namespace Go.Proofs.Ytmlhgkfbiapakaa
open Go.RowKit

set_option maxRecDepth 100000 in
theorem count_c (w0 : World) (a : A) (nx ac : Value) (hnx : Rows w0 47 3 nx a.next) (hac : Bools w0 4 ac a.acc) (n : Int) (hnb : -1000 ≤ n ∧ n ≤ 1000) : Ret Try.prog 20 #[Value.agg #[Value.int .i64 a.al, nx, ac], Value.int .i64 n] w0 (fun v w => v = .int .i64 (count a n) ∧ Ext w0 w) := by
  have E := Ext.refl w0
  refine Ret.of (args := [Value.agg #[Value.int .i64 a.al, nx, ac], Value.int .i64 n]) Try.func20 rfl rfl rfl ?_
  rintro _ rfl
  show Cq _ _ _ _ [(0, Value.agg #[Value.int .i64 a.al, nx, ac]), (1, Value.int .i64 n)] _
  refine Cq.seq ?_
  refine Cq.region ?_
  refine Sq.box .plain rfl rfl (fun b1 w2 e3 hB4 hlo5 => ?_)
  have hd6 := Nat.le_trans (Below.size E) hlo5
  have hs7 := Below.size e3
  replace E := E.trans e3
  refine Sq.assign .plain rfl rfl ?_
  refine Sq.nil ?_
  refine Eq.next ?_
  refine Cq.seq ?_
  refine Cq.seq ?_
  refine Cq.region ?_
  refine Sq.loadAgg agg26 .plain rfl rfl hB4 rfl ?_
  have hd11 := hB4.lt
  refine Sq.call fn19 .plain rfl rfl (valid_c _ a _ _ (hnx.ext E) (hac.ext E)) ?_
  rintro _ w9 ⟨rfl, e10⟩
  have hs12 := Below.size E
  have hs13 := Below.size e10
  replace E := E.trans e10
  replace hB4 := hB4.ext e10
  refine Sq.partB (fun hv => ?_) (fun hv => ?_)
  · refine Sq.notT .plain rfl rfl ?_
    refine Sq.move .plain rfl rfl ?_
    refine Sq.move (.met rfl rfl rfl) rfl rfl ?_
    refine Sq.lss (.met rfl rfl rfl) rfl rfl rfl ?_
    refine Sq.part (fun c14 => ?_) (fun c14 => ?_)
    · refine Sq.pickF .plain rfl rfl rfl ?_
      refine Sq.move .plain rfl rfl ?_
      refine Sq.off rfl rfl rfl rfl rfl rfl ?_
      refine Sq.off rfl rfl rfl rfl rfl rfl ?_
      refine Sq.pickT .plain rfl rfl rfl ?_
      refine Sq.nil ?_
      refine Eq.next ?_
      refine Cq.thn rfl ?_
      refine Cq.seq ?_
      refine Cq.region ?_
      refine Sq.assign .plain rfl rfl ?_
      refine Sq.nil ?_
      refine Eq.next ?_
      refine Cq.ret ?_
      refine Eq.pastRet ?_
      refine Eq.ret1 rfl rfl ?_
      exact ⟨by rw [count_bad (by omega)], E⟩
    · refine Sq.pickF .plain rfl rfl rfl ?_
      refine Sq.move .plain rfl rfl ?_
      refine Sq.move (.met rfl rfl rfl) rfl rfl ?_
      refine Sq.gtr (.met rfl rfl rfl) rfl rfl rfl ?_
      refine Sq.part (fun c15 => ?_) (fun c15 => ?_)
      · refine Sq.pickF .plain rfl rfl rfl ?_
        refine Sq.nil ?_
        refine Eq.next ?_
        refine Cq.thn rfl ?_
        refine Cq.seq ?_
        refine Cq.region ?_
        refine Sq.assign .plain rfl rfl ?_
        refine Sq.nil ?_
        refine Eq.next ?_
        refine Cq.ret ?_
        refine Eq.pastRet ?_
        refine Eq.ret1 rfl rfl ?_
        exact ⟨by rw [count_bad (by omega)], E⟩
      · refine Sq.pickF .plain rfl rfl rfl ?_
        refine Sq.nil ?_
        refine Eq.next ?_
        refine Cq.els rfl ?_
        refine Cq.skip ?_
        refine Eq.next ?_
        refine Cq.seq ?_
        refine Cq.region ?_
        have hvs := validA_spec.1 hv
        have hv1 := hvs.2.1
        have hv2 := hvs.2.2.1
        refine Sq.fieldAddr fld26_1 .plain rfl rfl ?_
        refine Sq.loadB one23 .plain rfl rfl hB4 rfl ?_
        refine Sq.lenRows (hnx.ext E) .plain rfl und23 rfl ?_
        refine Sq.make sl47 .plain rfl rfl rfl rfl (by omega) (fun b16 w17 e18 hlo19 hB20 => ?_)
        replace hB20 := hB20 w9.heap.size (Nat.le_refl _)
        have hs21 := Below.size e18
        replace E := E.trans e18
        replace hB4 := hB4.ext e18
        refine Sq.assign .plain rfl rfl ?_
        refine Sq.nil ?_
        refine Eq.next ?_
        refine Cq.seq ?_
        refine Cq.region ?_
        refine Sq.move .plain rfl rfl ?_
        obtain ⟨p22, hp23o⟩ := Own.at hB20 (i := 0) (by omega) (by first | (simp only [List.length_map]; omega) | (simp; omega))
        refine Sq.atO sl47 hp23o .plain rfl rfl rfl ?_
        refine Sq.storeO one3 hB20 hp23o .plain rfl rfl rfl (fun w24 g25 ho26 => ?_)
        have hs27 := World.grownBy.size g25
        replace E := E.owned hB20 g25 (by omega)
        replace hB4 := hB4.owned hB20 g25 (by decide)
        replace hB20 := ho26
        refine Sq.nil ?_
        refine Eq.next ?_
        refine Cq.seq ?_
        refine Cq.region ?_
        refine Sq.assign .plain rfl rfl ?_
        refine Sq.nil ?_
        refine Eq.next ?_
        refine Cq.seq ?_
        refine Cq.region ?_
        refine Sq.assign .plain rfl rfl ?_
        refine Sq.nil ?_
        refine Eq.next ?_
        refine Cq.block ?_
        refine Cq.loop (fun nn w ls => ∃ (i : Int), ∃ (T : Int), ∃ (cv : Value), ∃ (cs : List Int), ls = [(2, Value.pointer (some ⟨b1, 0, none⟩)), (1, Value.int .i64 n), (5, cv), (6, Value.int .i64 T), (7, Value.int .i64 i)] ∧ (0 ≤ i ∧ i ≤ n) ∧ Own w w0.heap.size 3 cv (cs.map (Value.int .i64)) ∧ (cs.length = a.next.length ∧ InB cs (72 ^ (i).toNat) ∧ 0 ≤ T ∧ T ≤ 72 ^ (i).toNat) ∧ T + cnt a (n.toNat - (i).toNat) cs = count a n ∧ Ext w0 w ∧ Blk w b1 26 [Value.int .i64 a.al, nx, ac] ∧ nn = (n - i).toNat) _ _ ⟨0, 0, _, start a, rfl, by omega, Own.startI hB20 (by omega), ⟨start_length a, start_in, by omega, by decide⟩, by rw [count_good hv (by omega)]; simp, E, hB4, rfl⟩ (.cons rfl (.cons rfl (.cons rfl (.cons rfl (.cons rfl (.nil)))))) ?_
        rintro nn wl1 ls ⟨i, T, cv, cs, rfl, hi, hcv, hcl, hT, E, hB4, rfl⟩
        have hs28 := Below.size E
        have hlow := Own.low hcv
        refine Cq.seq ?_
        refine Cq.block ?_
        refine Cq.seq ?_
        refine Cq.region ?_
        refine Sq.fieldAddr fld26_1 .plain rfl rfl ?_
        refine Sq.loadB one23 .plain rfl rfl hB4 rfl ?_
        refine Sq.lenRows (hnx.ext E) .plain rfl und23 rfl ?_
        refine Sq.make sl47 .plain rfl rfl rfl rfl (by omega) (fun b29 w30 e31 hlo32 hB33 => ?_)
        replace hB33 := hB33 wl1.heap.size (Nat.le_refl _)
        have hs34 := Below.size e31
        replace E := E.trans e31
        replace hB4 := hB4.ext e31
        replace hcv := hcv.ext e31
        refine Sq.assign .plain rfl rfl ?_
        refine Sq.nil ?_
        refine Eq.next ?_
        refine Cq.seq ?_
        refine Cq.seq ?_
        refine Cq.region ?_
        refine Sq.move .plain rfl rfl ?_
        refine Sq.lenInts (Own.row hcv) .plain rfl und47 rfl ?_
        refine Sq.move .plain rfl rfl ?_
        refine Sq.nil ?_
        refine Eq.next ?_
        refine Cq.block ?_
        refine Cq.loop (fun nn w ls => ∃ (q : Int), ∃ (S : Int), ls = [(2, Value.pointer (some ⟨b1, 0, none⟩)), (1, Value.int .i64 n), (7, Value.int .i64 i), (5, cv), (6, Value.int .i64 S), (8, Value.slice (some ⟨b29, 0, none⟩) (List.length a.next : Int).toNat (List.length a.next : Int).toNat), (36, cv), (37, Value.int .i64 (List.length cs : Int)), (38, Value.int .i64 q)] ∧ (0 ≤ q ∧ q ≤ a.next.length) ∧ S = T + sumTo a cs q.toNat ∧ wl1.heap.size ≤ w.heap.size ∧ Own w wl1.heap.size 3 (Value.slice (some ⟨b29, 0, none⟩) (List.length a.next : Int).toNat (List.length a.next : Int).toNat) ((stepTo a cs q.toNat).map (Value.int .i64)) ∧ Ext w0 w ∧ Blk w b1 26 [Value.int .i64 a.al, nx, ac] ∧ Own w w0.heap.size 3 cv (cs.map (Value.int .i64)) ∧ nn = ((a.next.length : Int) - q).toNat) _ _ ⟨0, _, rfl, by omega, by simp [sumTo], by omega, Own.rep hB33, E, hB4, hcv, rfl⟩ (.cons rfl (.cons rfl (.cons rfl (.cons rfl (.cons rfl (.cons rfl (.cons rfl (.cons rfl (.cons rfl (.nil)))))))))) ?_
        rintro nn wl2 ls ⟨q, S, rfl, hq, hS, hsz, hny, E, hB4, hcv, rfl⟩
        have hs35 := Below.size E
        have hroom0 := cnt_room hv hcl.2.1 (by omega) (q := q.toNat) (by omega) (Nat.zero_le _) 0
        have hsr := sum_room (a := a) hcl.2.1 (by omega) hcl.2.2 (q := q.toNat) (by omega)
        have hr6 := valid_row6 hv (k := q.toNat)
        refine Cq.seq ?_
        refine Cq.region ?_
        refine Sq.lss .plain rfl rfl rfl ?_
        refine Sq.part (fun c36 => ?_) (fun c36 => ?_)
        · refine Sq.nil ?_
          refine Eq.next ?_
          refine Cq.seq ?_
          refine Cq.thn rfl ?_
          refine Cq.skip ?_
          refine Eq.next ?_
          refine Cq.seq ?_
          refine Cq.block ?_
          refine Cq.seq ?_
          refine Cq.region ?_
          refine Sq.move .plain rfl rfl ?_
          refine Sq.idxInts sl47 one3 (Own.row hcv) .plain rfl rfl rfl .plain rfl rfl (by omega) (by omega) ?_
          refine Sq.assign .plain rfl rfl ?_
          refine Sq.assign .plain rfl rfl ?_
          refine Sq.nil ?_
          refine Eq.next ?_
          refine Cq.seq ?_
          refine Cq.seq ?_
          refine Cq.region ?_
          refine Sq.fieldAddr fld26_2 .plain rfl rfl ?_
          refine Sq.loadB one24 .plain rfl rfl hB4 rfl ?_
          refine Sq.move .plain rfl rfl ?_
          refine Sq.idxBools sl24 one4 (hac.ext E) .plain rfl rfl rfl .plain rfl rfl (by omega) (by omega) ?_
          refine Sq.partB (fun hac => ?_) (fun hac => ?_)
          · refine Sq.nil ?_
            refine Eq.next ?_
            refine Cq.thn rfl ?_
            refine Cq.region ?_
            refine Sq.move .plain rfl rfl ?_
            refine Sq.move .plain rfl rfl ?_
            refine Sq.add .plain rfl rfl rfl (by omega) ?_
            refine Sq.assign .plain rfl rfl ?_
            refine Sq.nil ?_
            refine Eq.next ?_
            refine Cq.seq ?_
            refine Cq.region ?_
            refine Sq.fieldAddr fld26_1 .plain rfl rfl ?_
            refine Sq.loadB one23 .plain rfl rfl hB4 rfl ?_
            refine Sq.move .plain rfl rfl ?_
            obtain ⟨p37, r39, hp38, hr40⟩ := Rows.at hnx (i := q) (by omega) (by omega)
            replace hp38 := hp38.ext E
            refine Sq.val .plain rfl rfl (Still.at' sl23 hp38 rfl rfl) ?_
            refine Sq.val .plain rfl rfl (Still.loadA one47 rfl hp38.1) ?_
            refine Sq.lenInts (hr40.ext E) .plain rfl und47 rfl ?_
            refine Sq.move .plain rfl rfl ?_
            refine Sq.nil ?_
            refine Eq.next ?_
            refine Cq.block ?_
            refine Cq.loop (fun nn w ls => ∃ (k : Int), ls = [(2, Value.pointer (some ⟨b1, 0, none⟩)), (1, Value.int .i64 n), (7, Value.int .i64 i), (5, cv), (6, Value.int .i64 (S + (cs.getD q.toNat 0))), (8, Value.slice (some ⟨b29, 0, none⟩) (List.length a.next : Int).toNat (List.length a.next : Int).toNat), (36, cv), (37, Value.int .i64 (List.length cs : Int)), (38, Value.int .i64 q), (9, Value.int .i64 q), (10, Value.int .i64 (cs.getD q.toNat 0)), (55, r39), (56, Value.int .i64 ((List.length (a.next.getD q.toNat []) : Int))), (47, Value.bool true), (57, Value.int .i64 k)] ∧ (0 ≤ k ∧ k ≤ (a.next.getD q.toNat []).length) ∧ wl1.heap.size ≤ w.heap.size ∧ Own w wl1.heap.size 3 (Value.slice (some ⟨b29, 0, none⟩) (List.length a.next : Int).toNat (List.length a.next : Int).toNat) ((addTo (a.next.getD q.toNat []) (cs.getD q.toNat 0) k.toNat (stepTo a cs q.toNat)).map (Value.int .i64)) ∧ Ext w0 w ∧ Blk w b1 26 [Value.int .i64 a.al, nx, ac] ∧ Own w w0.heap.size 3 cv (cs.map (Value.int .i64)) ∧ nn = (((a.next.getD q.toNat []).length : Int) - k).toNat) _ _ ⟨0, rfl, by omega, by omega, by exact hny, E, hB4, hcv, rfl⟩ (.cons rfl (.cons rfl (.cons rfl (.cons rfl (.cons rfl (.cons rfl (.cons rfl (.cons rfl (.cons rfl (.cons rfl (.cons rfl (.cons rfl (.cons rfl (.cons rfl (.cons rfl (.nil)))))))))))))))) ?_
            rintro nn wl3 ls ⟨k, rfl, hk, hsz2, hnk, E, hB4, hcv, rfl⟩
            have hs41 := Below.size E
            have hroom := cnt_room hv hcl.2.1 (by omega) (q := q.toNat) (by omega) (k := k.toNat) (by omega) ((a.next.getD q.toNat []).getD k.toNat 0).toNat
            have hvt := valid_at hv (k := q.toNat) (j := k.toNat)
            have hal : (addTo (a.next.getD q.toNat []) (cs.getD q.toNat 0) k.toNat (stepTo a cs q.toNat)).length = a.next.length := by rw [addTo_length, stepTo_length]
            refine Cq.seq ?_
            refine Cq.region ?_
            refine Sq.lss .plain rfl rfl rfl ?_
            refine Sq.part (fun c42 => ?_) (fun c42 => ?_)
            · refine Sq.nil ?_
              refine Eq.next ?_
              refine Cq.seq ?_
              refine Cq.thn rfl ?_
              refine Cq.skip ?_
              refine Eq.next ?_
              refine Cq.seq ?_
              refine Cq.block ?_
              refine Cq.seq ?_
              refine Cq.region ?_
              refine Sq.idxInts sl47 one3 (hr40.ext E) .plain rfl rfl rfl .plain rfl rfl (by omega) (by omega) ?_
              refine Sq.assign .plain rfl rfl ?_
              refine Sq.nil ?_
              refine Eq.next ?_
              refine Cq.region ?_
              refine Sq.move .plain rfl rfl ?_
              refine Sq.move .plain rfl rfl ?_
              refine Sq.idxInts sl47 one3 (Own.row hnk) .plain rfl rfl rfl .plain rfl rfl (by have := hvt (by omega) (by omega); omega) (by have := hvt (by omega) (by omega); omega) ?_
              refine Sq.move .plain rfl rfl ?_
              refine Sq.add .plain rfl rfl rfl (by omega) ?_
              obtain ⟨p43, hp44o⟩ := Own.at hnk (i := (a.next.getD q.toNat []).getD k.toNat 0) (by have := hvt (by omega) (by omega); omega) (by first | (simp only [List.length_map]; have := hvt (by omega) (by omega); omega) | (simp; have := hvt (by omega) (by omega); omega))
              refine Sq.atO sl47 hp44o .plain rfl rfl rfl ?_
              refine Sq.storeO one3 hnk hp44o .plain rfl rfl rfl (fun w45 g46 ho47 => ?_)
              have hs48 := World.grownBy.size g46
              replace E := E.owned hnk g46 (by omega)
              replace hB4 := hB4.owned hnk g46 (by decide)
              replace hcv := hcv.apart hlow hnk g46 (by omega)
              replace hnk := ho47
              refine Sq.nil ?_
              refine Eq.end ?_
              refine Eq.next ?_
              refine Cq.region ?_
              refine Sq.add .plain rfl rfl rfl (by omega) ?_
              refine Sq.move .plain rfl rfl ?_
              refine Sq.nil ?_
              have e1 := toNat_succ hk.1
              refine Eq.round _ _ ⟨k + 1, rfl, by omega, by omega, by rw [e1, addTo_succ (by omega)]; exact Own.setI hnk, E, hB4, hcv, rfl⟩ (by omega) (.cons rfl (.cons rfl (.cons rfl (.cons rfl (.cons rfl (.cons rfl (.cons rfl (.cons rfl (.cons rfl (.cons rfl (.cons rfl (.cons rfl (.cons rfl (.cons rfl (.cons rfl (.nil))))))))))))))))
            · refine Sq.nil ?_
              refine Eq.next ?_
              refine Cq.seq ?_
              refine Cq.els rfl ?_
              refine Cq.exit ?_
              refine Eq.past ?_
              refine Eq.past ?_
              refine Eq.hit ?_
              refine Eq.end ?_
              refine Eq.next ?_
              refine Cq.region ?_
              refine Sq.add .plain rfl rfl rfl (by omega) ?_
              refine Sq.move .plain rfl rfl ?_
              refine Sq.nil ?_
              have e1 := toNat_succ hq.1
              have e2 := sumTo_succ a cs q.toNat
              rw [hac] at e2
              simp only [if_true] at e2
              refine Eq.round _ _ ⟨q + 1, _, rfl, by omega, by rw [e1, e2, hS]; omega, by omega, by rw [e1, stepTo_succ, ← addTo_done (k := k.toNat) (by omega)]; exact hnk, E, hB4, hcv, rfl⟩ (by omega) (.cons rfl (.cons rfl (.cons rfl (.cons rfl (.cons rfl (.cons rfl (.cons rfl (.cons rfl (.cons rfl (.nil))))))))))
          · refine Sq.nil ?_
            refine Eq.next ?_
            refine Cq.els rfl ?_
            refine Cq.skip ?_
            refine Eq.next ?_
            refine Cq.seq ?_
            refine Cq.region ?_
            refine Sq.fieldAddr fld26_1 .plain rfl rfl ?_
            refine Sq.loadB one23 .plain rfl rfl hB4 rfl ?_
            refine Sq.move .plain rfl rfl ?_
            obtain ⟨p49, r51, hp50, hr52⟩ := Rows.at hnx (i := q) (by omega) (by omega)
            replace hp50 := hp50.ext E
            refine Sq.val .plain rfl rfl (Still.at' sl23 hp50 rfl rfl) ?_
            refine Sq.val .plain rfl rfl (Still.loadA one47 rfl hp50.1) ?_
            refine Sq.lenInts (hr52.ext E) .plain rfl und47 rfl ?_
            refine Sq.move .plain rfl rfl ?_
            refine Sq.nil ?_
            refine Eq.next ?_
            refine Cq.block ?_
            refine Cq.loop (fun nn w ls => ∃ (k : Int), ls = [(2, Value.pointer (some ⟨b1, 0, none⟩)), (1, Value.int .i64 n), (7, Value.int .i64 i), (5, cv), (6, Value.int .i64 S), (8, Value.slice (some ⟨b29, 0, none⟩) (List.length a.next : Int).toNat (List.length a.next : Int).toNat), (36, cv), (37, Value.int .i64 (List.length cs : Int)), (38, Value.int .i64 q), (9, Value.int .i64 q), (10, Value.int .i64 (cs.getD q.toNat 0)), (55, r51), (56, Value.int .i64 ((List.length (a.next.getD q.toNat []) : Int))), (47, Value.bool false), (57, Value.int .i64 k)] ∧ (0 ≤ k ∧ k ≤ (a.next.getD q.toNat []).length) ∧ wl1.heap.size ≤ w.heap.size ∧ Own w wl1.heap.size 3 (Value.slice (some ⟨b29, 0, none⟩) (List.length a.next : Int).toNat (List.length a.next : Int).toNat) ((addTo (a.next.getD q.toNat []) (cs.getD q.toNat 0) k.toNat (stepTo a cs q.toNat)).map (Value.int .i64)) ∧ Ext w0 w ∧ Blk w b1 26 [Value.int .i64 a.al, nx, ac] ∧ Own w w0.heap.size 3 cv (cs.map (Value.int .i64)) ∧ nn = (((a.next.getD q.toNat []).length : Int) - k).toNat) _ _ ⟨0, rfl, by omega, by omega, by exact hny, E, hB4, hcv, rfl⟩ (.cons rfl (.cons rfl (.cons rfl (.cons rfl (.cons rfl (.cons rfl (.cons rfl (.cons rfl (.cons rfl (.cons rfl (.cons rfl (.cons rfl (.cons rfl (.cons rfl (.cons rfl (.nil)))))))))))))))) ?_
            rintro nn wl3 ls ⟨k, rfl, hk, hsz2, hnk, E, hB4, hcv, rfl⟩
            have hs53 := Below.size E
            have hroom := cnt_room hv hcl.2.1 (by omega) (q := q.toNat) (by omega) (k := k.toNat) (by omega) ((a.next.getD q.toNat []).getD k.toNat 0).toNat
            have hvt := valid_at hv (k := q.toNat) (j := k.toNat)
            have hal : (addTo (a.next.getD q.toNat []) (cs.getD q.toNat 0) k.toNat (stepTo a cs q.toNat)).length = a.next.length := by rw [addTo_length, stepTo_length]
            refine Cq.seq ?_
            refine Cq.region ?_
            refine Sq.lss .plain rfl rfl rfl ?_
            refine Sq.part (fun c54 => ?_) (fun c54 => ?_)
            · refine Sq.nil ?_
              refine Eq.next ?_
              refine Cq.seq ?_
              refine Cq.thn rfl ?_
              refine Cq.skip ?_
              refine Eq.next ?_
              refine Cq.seq ?_
              refine Cq.block ?_
              refine Cq.seq ?_
              refine Cq.region ?_
              refine Sq.idxInts sl47 one3 (hr52.ext E) .plain rfl rfl rfl .plain rfl rfl (by omega) (by omega) ?_
              refine Sq.assign .plain rfl rfl ?_
              refine Sq.nil ?_
              refine Eq.next ?_
              refine Cq.region ?_
              refine Sq.move .plain rfl rfl ?_
              refine Sq.move .plain rfl rfl ?_
              refine Sq.idxInts sl47 one3 (Own.row hnk) .plain rfl rfl rfl .plain rfl rfl (by have := hvt (by omega) (by omega); omega) (by have := hvt (by omega) (by omega); omega) ?_
              refine Sq.move .plain rfl rfl ?_
              refine Sq.add .plain rfl rfl rfl (by omega) ?_
              obtain ⟨p55, hp56o⟩ := Own.at hnk (i := (a.next.getD q.toNat []).getD k.toNat 0) (by have := hvt (by omega) (by omega); omega) (by first | (simp only [List.length_map]; have := hvt (by omega) (by omega); omega) | (simp; have := hvt (by omega) (by omega); omega))
              refine Sq.atO sl47 hp56o .plain rfl rfl rfl ?_
              refine Sq.storeO one3 hnk hp56o .plain rfl rfl rfl (fun w57 g58 ho59 => ?_)
              have hs60 := World.grownBy.size g58
              replace E := E.owned hnk g58 (by omega)
              replace hB4 := hB4.owned hnk g58 (by decide)
              replace hcv := hcv.apart hlow hnk g58 (by omega)
              replace hnk := ho59
              refine Sq.nil ?_
              refine Eq.end ?_
              refine Eq.next ?_
              refine Cq.region ?_
              refine Sq.add .plain rfl rfl rfl (by omega) ?_
              refine Sq.move .plain rfl rfl ?_
              refine Sq.nil ?_
              have e1 := toNat_succ hk.1
              refine Eq.round _ _ ⟨k + 1, rfl, by omega, by omega, by rw [e1, addTo_succ (by omega)]; exact Own.setI hnk, E, hB4, hcv, rfl⟩ (by omega) (.cons rfl (.cons rfl (.cons rfl (.cons rfl (.cons rfl (.cons rfl (.cons rfl (.cons rfl (.cons rfl (.cons rfl (.cons rfl (.cons rfl (.cons rfl (.cons rfl (.cons rfl (.nil))))))))))))))))
            · refine Sq.nil ?_
              refine Eq.next ?_
              refine Cq.seq ?_
              refine Cq.els rfl ?_
              refine Cq.exit ?_
              refine Eq.past ?_
              refine Eq.past ?_
              refine Eq.hit ?_
              refine Eq.end ?_
              refine Eq.next ?_
              refine Cq.region ?_
              refine Sq.add .plain rfl rfl rfl (by omega) ?_
              refine Sq.move .plain rfl rfl ?_
              refine Sq.nil ?_
              have e1 := toNat_succ hq.1
              have e2 := sumTo_succ a cs q.toNat
              rw [hac] at e2
              simp only [Bool.false_eq_true, if_false] at e2
              refine Eq.round _ _ ⟨q + 1, _, rfl, by omega, by rw [e1, e2, hS], by omega, by rw [e1, stepTo_succ, ← addTo_done (k := k.toNat) (by omega)]; exact hnk, E, hB4, hcv, rfl⟩ (by omega) (.cons rfl (.cons rfl (.cons rfl (.cons rfl (.cons rfl (.cons rfl (.cons rfl (.cons rfl (.cons rfl (.nil))))))))))
        · refine Sq.nil ?_
          refine Eq.next ?_
          refine Cq.seq ?_
          refine Cq.els rfl ?_
          refine Cq.exit ?_
          refine Eq.past ?_
          refine Eq.past ?_
          refine Eq.hit ?_
          refine Eq.next ?_
          refine Cq.seq ?_
          refine Cq.seq ?_
          refine Cq.region ?_
          refine Sq.move .plain rfl rfl ?_
          refine Sq.move .plain rfl rfl ?_
          refine Sq.eql .plain rfl rfl rfl ?_
          refine Sq.part (fun c61 => ?_) (fun c61 => ?_)
          · refine Sq.nil ?_
            refine Eq.next ?_
            refine Cq.thn rfl ?_
            refine Cq.seq ?_
            refine Cq.region ?_
            refine Sq.move .plain rfl rfl ?_
            refine Sq.assign .plain rfl rfl ?_
            refine Sq.nil ?_
            refine Eq.next ?_
            refine Cq.ret ?_
            refine Eq.pastRet ?_
            refine Eq.outRet ?_
            refine Eq.pastRet ?_
            refine Eq.pastRet ?_
            refine Eq.outRet ?_
            refine Eq.ret1 rfl rfl ?_
            obtain rfl : q = a.next.length := by omega
            obtain rfl : i = n := by omega
            rw [Nat.sub_self, cnt] at hT
            exact ⟨by rw [hS, Int.toNat_natCast, hT], E⟩
          · refine Sq.nil ?_
            refine Eq.next ?_
            refine Cq.els rfl ?_
            refine Cq.skip ?_
            refine Eq.next ?_
            refine Cq.region ?_
            refine Sq.move .plain rfl rfl ?_
            refine Sq.assign .plain rfl rfl ?_
            refine Sq.nil ?_
            refine Eq.end ?_
            refine Eq.next ?_
            refine Cq.region ?_
            refine Sq.move .plain rfl rfl ?_
            refine Sq.add .plain rfl rfl rfl (by omega) ?_
            refine Sq.assign .plain rfl rfl ?_
            refine Sq.nil ?_
            obtain rfl : q = a.next.length := by omega
            rw [Int.toNat_natCast] at hny hS
            have hnn := cnt_next hv hcl.2.1 (by omega) hcl.2.2
            have e1 := toNat_succ hi.1
            have e2 : n.toNat - i.toNat = (n.toNat - (i + 1).toNat) + 1 := by omega
            rw [e2, cnt] at hT
            refine Eq.round _ _ ⟨i + 1, _, _, stepTo a cs a.next.length, rfl, by omega, Own.mono hny (by omega), ⟨stepTo_length _ _ _, by rw [e1]; exact hnn.1, by rw [hS]; exact hnn.2.1, by rw [hS, e1]; exact hnn.2.2⟩, by rw [hS, ← hT]; omega, E, hB4, rfl⟩ (by omega) (.cons rfl (.cons rfl (.cons rfl (.cons rfl (.cons rfl (.nil))))))
  · refine Sq.notF .plain rfl rfl ?_
    refine Sq.move .plain rfl rfl ?_
    refine Sq.off rfl rfl rfl rfl rfl rfl ?_
    refine Sq.off rfl rfl rfl rfl rfl rfl ?_
    refine Sq.pickT .plain rfl rfl rfl ?_
    refine Sq.move .plain rfl rfl ?_
    refine Sq.off rfl rfl rfl rfl rfl rfl ?_
    refine Sq.off rfl rfl rfl rfl rfl rfl ?_
    refine Sq.pickT .plain rfl rfl rfl ?_
    refine Sq.nil ?_
    refine Eq.next ?_
    refine Cq.thn rfl ?_
    refine Cq.seq ?_
    refine Cq.region ?_
    refine Sq.assign .plain rfl rfl ?_
    refine Sq.nil ?_
    refine Eq.next ?_
    refine Cq.ret ?_
    refine Eq.pastRet ?_
    refine Eq.ret1 rfl rfl ?_
    exact ⟨by rw [count_bad (by rw [hv]; simp)], E⟩

end Go.Proofs.Ytmlhgkfbiapakaa
