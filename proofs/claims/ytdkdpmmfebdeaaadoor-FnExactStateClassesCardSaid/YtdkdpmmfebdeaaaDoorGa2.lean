/-
  The texts of this proof, joined (wip/merge.py): the calculus of slots, plain mathematics, walks.
-/
import Derived.Test.YtdkdpmmfebdeaaaDoorGa1
set_option linter.unusedSimpArgs false
set_option linter.unusedVariables false
namespace Go.Proofs.YtdkdpmmfebdeaaaDoor
open Go.RowKit
set_option maxRecDepth 100000 in
theorem classesOf_c (w0 : World) (a : A) (nx ac : Value) (hnx : Rows w0 27 3 nx a.next) (hac : Bools w0 4 ac a.acc) (hv : validA a = true) : Ret Tryd.prog 23 #[Value.agg #[Value.int .i64 a.al, nx, ac]] w0 (fun v w => Own w w0.heap.size 3 v ((classes a).map (Value.int .i64)) ∧ Ext w0 w) := by
  have E := Ext.refl w0
  have hvs := validA_spec.1 hv
  have hv1 := hvs.2.1
  have hv2 := hvs.2.2.1
  refine Ret.of (args := [Value.agg #[Value.int .i64 a.al, nx, ac]]) Tryd.func23 rfl rfl rfl ?_
  rintro _ rfl
  show Cq _ _ _ _ [(0, Value.agg #[Value.int .i64 a.al, nx, ac])] _
  refine Cq.seq ?_
  refine Cq.region ?_
  refine Sq.box .plain rfl rfl (fun b1 w2 e3 hB4 hlo5 => ?_)
  have hd6 := Nat.le_trans (Below.size E) hlo5
  have hs7 := Below.size e3
  replace E := E.trans e3
  refine Sq.assign .plain rfl rfl ?_
  refine Sq.nil ?_
  refine Eq.next ?_
  refine Cq.seq ?_
  refine Cq.region ?_
  refine Sq.fieldAddr fld29_1 .plain rfl rfl ?_
  refine Sq.loadB one22 .plain rfl rfl hB4 rfl ?_
  refine Sq.lenRows (hnx.ext E) .plain rfl und22 rfl ?_
  refine Sq.make sl27 .plain rfl rfl rfl rfl (by omega) (fun b8 w9 e10 hlo11 hB12 => ?_)
  replace hB12 := hB12 w2.heap.size (Nat.le_refl _)
  have hs13 := Below.size e10
  replace E := E.trans e10
  replace hB4 := hB4.ext e10
  refine Sq.assign .plain rfl rfl ?_
  refine Sq.nil ?_
  refine Eq.next ?_
  refine Cq.seq ?_
  refine Cq.seq ?_
  refine Cq.region ?_
  replace hB12 := Own.rep hB12
  refine Sq.move .plain rfl rfl ?_
  refine Sq.lenInts (Own.row hB12) .plain rfl und27 rfl ?_
  rw [List.length_replicate]
  refine Sq.move .plain rfl rfl ?_
  refine Sq.nil ?_
  refine Eq.next ?_
  refine Cq.block ?_
  refine Cq.loop (fun nn w ls => ∃ (k : Int), ls = [(1, Value.pointer (some ⟨b1, 0, none⟩)), (2, Value.slice none 0 0), (3, Value.slice (some ⟨b8, 0, none⟩) (List.length a.next : Int).toNat (List.length a.next : Int).toNat), (20, Value.int .i64 ((((List.length a.next : Int).toNat : Nat) : Int))), (21, Value.int .i64 k)] ∧ (0 ≤ k ∧ k ≤ a.next.length) ∧ Own w w0.heap.size 3 (Value.slice (some ⟨b8, 0, none⟩) (List.length a.next : Int).toNat (List.length a.next : Int).toNat) ((initTo a k.toNat).map (Value.int .i64)) ∧ Ext w0 w ∧ Blk w b1 29 [Value.int .i64 a.al, nx, ac] ∧ nn = ((a.next.length : Int) - k).toNat) _ _ ⟨0, rfl, by omega, by rw [show (0 : Int).toNat = 0 from rfl, initTo_zero]; exact Own.mono hB12 (by omega), E, hB4, rfl⟩ (.cons rfl (.cons rfl (.cons rfl (.cons rfl (.cons rfl (.nil)))))) ?_
  rintro nn wl1 ls ⟨k, rfl, hk, hc, E, hB4, rfl⟩
  have hs14 := Below.size E
  have hil := initTo_length (a := a) k.toNat
  refine Cq.seq ?_
  refine Cq.region ?_
  refine Sq.lss .plain rfl rfl rfl ?_
  refine Sq.part (fun c15 => ?_) (fun c15 => ?_)
  · refine Sq.nil ?_
    refine Eq.next ?_
    refine Cq.seq ?_
    refine Cq.thn rfl ?_
    refine Cq.skip ?_
    refine Eq.next ?_
    refine Cq.seq ?_
    refine Cq.block ?_
    refine Cq.seq ?_
    refine Cq.region ?_
    refine Sq.move .plain rfl rfl ?_
    refine Sq.assign .plain rfl rfl ?_
    refine Sq.nil ?_
    refine Eq.next ?_
    refine Cq.seq ?_
    refine Cq.region ?_
    refine Sq.fieldAddr fld29_2 .plain rfl rfl ?_
    refine Sq.loadB one23 .plain rfl rfl hB4 rfl ?_
    refine Sq.move .plain rfl rfl ?_
    refine Sq.idxBools sl23 one4 (hac.ext E) .plain rfl rfl rfl .plain rfl rfl (by omega) (by omega) ?_
    refine Sq.partB (fun hac => ?_) (fun hac => ?_)
    · refine Sq.nil ?_
      refine Eq.next ?_
      refine Cq.thn rfl ?_
      refine Cq.region ?_
      refine Sq.move .plain rfl rfl ?_
      refine Sq.move .plain rfl rfl ?_
      obtain ⟨p16, hp17o⟩ := Own.at hc (i := k) (by omega) (by first | (simp only [List.length_map]; omega) | (simp; omega))
      refine Sq.atO sl27 hp17o .plain rfl rfl rfl ?_
      refine Sq.storeO one3 hc hp17o .plain rfl rfl rfl (fun w18 g19 ho20 => ?_)
      have hs21 := World.grownBy.size g19
      replace E := E.owned hc g19 (by omega)
      replace hB4 := hB4.owned hc g19 (by decide)
      replace hc := ho20
      refine Sq.nil ?_
      refine Eq.end ?_
      refine Eq.next ?_
      refine Cq.region ?_
      refine Sq.add .plain rfl rfl rfl (by omega) ?_
      refine Sq.move .plain rfl rfl ?_
      refine Sq.nil ?_
      have e1 := toNat_succ hk.1
      refine Eq.round _ _ ⟨k + 1, rfl, by omega, by rw [e1, ← initTo_T (by omega) hac]; exact Own.setI hc, E, hB4, rfl⟩ (by omega) (.cons rfl (.cons rfl (.cons rfl (.cons rfl (.cons rfl (.nil))))))
    refine Sq.nil ?_
    refine Eq.next ?_
    refine Cq.els rfl ?_
    refine Cq.skip ?_
    refine Eq.end ?_
    refine Eq.next ?_
    refine Cq.region ?_
    refine Sq.add .plain rfl rfl rfl (by omega) ?_
    refine Sq.move .plain rfl rfl ?_
    refine Sq.nil ?_
    have e1 := toNat_succ hk.1
    refine Eq.round _ _ ⟨k + 1, rfl, by omega, by rw [e1, initTo_F hac]; exact hc, E, hB4, rfl⟩ (by omega) (.cons rfl (.cons rfl (.cons rfl (.cons rfl (.cons rfl (.nil))))))
  refine Sq.nil ?_
  refine Eq.next ?_
  refine Cq.seq ?_
  refine Cq.els rfl ?_
  refine Cq.exit ?_
  refine Eq.past ?_
  refine Eq.past ?_
  refine Eq.hit ?_
  refine Eq.next ?_
  refine Cq.seq ?_
  refine Cq.region ?_
  refine Sq.assign .plain rfl rfl ?_
  refine Sq.nil ?_
  refine Eq.next ?_
  refine Cq.block ?_
  refine Cq.loop (fun nn w ls => ∃ (r : Nat), ∃ (cv : Value), ∃ (m : Int), ls = [(1, Value.pointer (some ⟨b1, 0, none⟩)), (2, Value.slice none 0 0), (3, cv), (5, Value.int .i64 m)] ∧ m = (mN a r : Int) ∧ Own w w0.heap.size 3 cv ((clsN a r).map (Value.int .i64)) ∧ Ext w0 w ∧ Blk w b1 29 [Value.int .i64 a.al, nx, ac] ∧ nn = (a.next.length + 1 - mN a r)) _ _ ⟨0, _, 0, rfl, rfl, by rw [← initTo_all hv (k := k.toNat) (by omega)]; exact hc, E, hB4, rfl⟩ (.cons rfl (.cons rfl (.cons rfl (.cons rfl (.nil))))) ?_
  rintro nn wl2 ls ⟨r, cv, m, rfl, hm, hcv, E, hB4, rfl⟩
  have hs22 := Below.size E
  have hlow := Own.low hcv
  have hcl := clsN_length hv r
  refine Cq.block ?_
  refine Cq.seq ?_
  refine Cq.region ?_
  refine Sq.makeMap encS .plain rfl (fun mb w23 e24 hM hlo25 => ?_)
  have hs26 := Below.size e24
  replace E := E.trans e24
  replace hB4 := hB4.ext e24
  replace hcv := hcv.ext e24
  have hmb : w0.heap.size ≤ mb := by omega
  refine Sq.assign .plain rfl rfl ?_
  refine Sq.nil ?_
  refine Eq.next ?_
  refine Cq.seq ?_
  refine Cq.region ?_
  refine Sq.move .plain rfl rfl ?_
  refine Sq.lenInts (Own.row hcv) .plain rfl und27 rfl ?_
  rw [clsN_length hv]
  refine Sq.make sl27 .plain rfl rfl rfl rfl (by omega) (fun b27 w28 e29 hlo30 hB31 => ?_)
  replace hB31 := hB31 w23.heap.size (Nat.le_refl _)
  have hs32 := Below.size e29
  replace E := E.trans e29
  replace hB4 := hB4.ext e29
  replace hcv := hcv.ext e29
  replace hM := hM.ext e29
  refine Sq.assign .plain rfl rfl ?_
  refine Sq.nil ?_
  refine Eq.next ?_
  refine Cq.seq ?_
  refine Cq.seq ?_
  refine Cq.region ?_
  refine Sq.fieldAddr fld29_1 .plain rfl rfl ?_
  refine Sq.loadB one22 .plain rfl rfl hB4 rfl ?_
  refine Sq.lenRows (hnx.ext E) .plain rfl und22 rfl ?_
  refine Sq.move .plain rfl rfl ?_
  refine Sq.nil ?_
  refine Eq.next ?_
  refine Cq.block ?_
  refine Cq.loop (fun nn w ls => ∃ (q : Int), ls = [(1, Value.pointer (some ⟨b1, 0, none⟩)), (2, Value.slice none 0 0), (3, cv), (5, Value.int .i64 m), (6, Value.map (some mb)), (7, Value.slice (some ⟨b27, 0, none⟩) (List.length a.next : Int).toNat (List.length a.next : Int).toNat), (38, nx), (39, Value.int .i64 (List.length a.next : Int)), (40, Value.int .i64 q)] ∧ (0 ≤ q ∧ q ≤ a.next.length) ∧ wl2.heap.size ≤ w.heap.size ∧ Own w wl2.heap.size 3 (Value.slice (some ⟨b27, 0, none⟩) (List.length a.next : Int).toNat (List.length a.next : Int).toNat) ((nextTo a (clsN a r) q.toNat).map (Value.int .i64)) ∧ MapN encS w mb (keysTo a (clsN a r) q.toNat) ∧ Ext w0 w ∧ Blk w b1 29 [Value.int .i64 a.al, nx, ac] ∧ Own w w0.heap.size 3 cv ((clsN a r).map (Value.int .i64)) ∧ nn = ((a.next.length : Int) - q).toNat) _ _ ⟨0, rfl, by omega, by omega, by rw [show (0 : Int).toNat = 0 from rfl, nextTo_zero]; exact Own.mono (Own.rep hB31) (by omega), hM, E, hB4, hcv, rfl⟩ (.cons rfl (.cons rfl (.cons rfl (.cons rfl (.cons rfl (.cons rfl (.cons rfl (.cons rfl (.cons rfl (.nil)))))))))) ?_
  rintro nn wl3 ls ⟨q, rfl, hq, hsz, hny, hM, E, hB4, hcv, rfl⟩
  have hs33 := Below.size E
  have hnl := nextTo_length (a := a) (clsN a r) q.toNat
  refine Cq.seq ?_
  refine Cq.region ?_
  refine Sq.lss .plain rfl rfl rfl ?_
  refine Sq.part (fun c34 => ?_) (fun c34 => ?_)
  · refine Sq.nil ?_
    refine Eq.next ?_
    refine Cq.seq ?_
    refine Cq.thn rfl ?_
    refine Cq.skip ?_
    refine Eq.next ?_
    refine Cq.seq ?_
    refine Cq.block ?_
    refine Cq.seq ?_
    refine Cq.region ?_
    refine Sq.move .plain rfl rfl ?_
    refine Sq.idxRows sl22 one27 (hnx.ext E) .plain rfl rfl rfl .plain rfl rfl (by omega) (by omega) (fun r35 hr36 => ?_)
    refine Sq.assign .plain rfl rfl ?_
    refine Sq.assign .plain rfl rfl ?_
    refine Sq.nil ?_
    refine Eq.next ?_
    refine Cq.seq ?_
    refine Cq.region ?_
    refine Sq.move .plain rfl rfl ?_
    refine Sq.move .plain rfl rfl ?_
    refine Sq.idxInts sl27 one3 (Own.row hcv) .plain rfl rfl rfl .plain rfl rfl (by omega) (by omega) ?_
    have hcb := clsN_bd hv r q.toNat
    refine Sq.call fn38 .plain rfl rfl (itoa_c ((clsN a r).getD q.toNat 0) (by omega) _) ?_
    rintro _ _ ⟨rfl, rfl⟩
    refine Sq.assign .plain rfl rfl ?_
    refine Sq.nil ?_
    refine Eq.next ?_
    refine Cq.seq ?_
    refine Cq.seq ?_
    refine Cq.region ?_
    refine Sq.move .plain rfl rfl ?_
    refine Sq.lenInts hr36 .plain rfl und27 rfl ?_
    refine Sq.move .plain rfl rfl ?_
    refine Sq.nil ?_
    refine Eq.next ?_
    refine Cq.block ?_
    refine Cq.loop (fun nn w ls => ∃ (j : Int), ∃ (s : ByteArray), ls = [(1, Value.pointer (some ⟨b1, 0, none⟩)), (2, Value.slice none 0 0), (3, cv), (5, Value.int .i64 m), (6, Value.map (some mb)), (7, Value.slice (some ⟨b27, 0, none⟩) (List.length a.next : Int).toNat (List.length a.next : Int).toNat), (8, Value.int .i64 q), (10, Value.string s), (38, nx), (39, Value.int .i64 (List.length a.next : Int)), (40, Value.int .i64 q), (50, r35), (51, Value.int .i64 ((List.length (a.next.getD q.toNat []) : Int))), (52, Value.int .i64 j)] ∧ (0 ≤ j ∧ j ≤ (a.next.getD q.toNat []).length) ∧ s = keyTo a (clsN a r) q.toNat j.toNat ∧ wl2.heap.size ≤ w.heap.size ∧ Ext w0 w ∧ Blk w b1 29 [Value.int .i64 a.al, nx, ac] ∧ Own w w0.heap.size 3 cv ((clsN a r).map (Value.int .i64)) ∧ Own w wl2.heap.size 3 (Value.slice (some ⟨b27, 0, none⟩) (List.length a.next : Int).toNat (List.length a.next : Int).toNat) ((nextTo a (clsN a r) q.toNat).map (Value.int .i64)) ∧ Ints w 3 r35 (a.next.getD q.toNat []) ∧ MapN encS w mb (keysTo a (clsN a r) q.toNat) ∧ nn = (((a.next.getD q.toNat []).length : Int) - j).toNat) _ _ ⟨0, _, rfl, by omega, rfl, by omega, E, hB4, hcv, hny, hr36, hM, rfl⟩ (.cons rfl (.cons rfl (.cons rfl (.cons rfl (.cons rfl (.cons rfl (.cons rfl (.cons rfl (.cons rfl (.cons rfl (.cons rfl (.cons rfl (.cons rfl (.cons rfl (.nil))))))))))))))) ?_
    rintro nn wl4 ls ⟨j, s, rfl, hj, hs, hsz4, E, hB4, hcv, hny, hr36, hM, rfl⟩
    have hs37 := Below.size E
    have hvt := valid_at hv (k := q.toNat) (j := j.toNat)
    have hrl := valid_row hv (k := q.toNat) (by omega)
    have hl6 := letters_len6 a.al
    refine Cq.seq ?_
    refine Cq.region ?_
    refine Sq.lss .plain rfl rfl rfl ?_
    refine Sq.part (fun c38 => ?_) (fun c38 => ?_)
    · refine Sq.nil ?_
      refine Eq.next ?_
      refine Cq.seq ?_
      refine Cq.thn rfl ?_
      refine Cq.skip ?_
      refine Eq.next ?_
      refine Cq.seq ?_
      refine Cq.block ?_
      refine Cq.seq ?_
      refine Cq.region ?_
      refine Sq.idxInts sl27 one3 hr36 .plain rfl rfl rfl .plain rfl rfl (by omega) (by omega) ?_
      refine Sq.assign .plain rfl rfl ?_
      refine Sq.nil ?_
      refine Eq.next ?_
      refine Cq.region ?_
      refine Sq.move .plain rfl rfl ?_
      refine Sq.move .plain rfl rfl ?_
      refine Sq.move .plain rfl rfl ?_
      refine Sq.idxInts sl27 one3 (Own.row hcv) .plain rfl rfl rfl .plain rfl rfl (by have := hvt (by omega) (by omega); omega) (by have := hvt (by omega) (by omega); omega) ?_
      have hcb2 := clsN_bd hv r ((a.next.getD q.toNat []).getD j.toNat 0).toNat
      have hz1 := itoa_size ((clsN a r).getD ((a.next.getD q.toNat []).getD j.toNat 0).toNat 0)
      have hz2 := keyTo_size hv (cs := (clsN a r)) (q := q.toNat) (by omega) j.toNat
      rw [← hs] at hz2
      refine Sq.call fn38 .plain rfl rfl (itoa_c ((clsN a r).getD ((a.next.getD q.toNat []).getD j.toNat 0).toNat 0) (by omega) _) ?_
      rintro _ _ ⟨rfl, rfl⟩
      refine Sq.cat .plain rfl rfl rfl (by exact (show 1 + (itoa ((clsN a r).getD ((a.next.getD q.toNat []).getD j.toNat 0).toNat 0)).size ≤ 9223372036854775807 by omega)) ?_
      refine Sq.cat .plain rfl rfl rfl (by rw [size_cat]; exact (show s.size + (1 + (itoa ((clsN a r).getD ((a.next.getD q.toNat []).getD j.toNat 0).toNat 0)).size) ≤ 9223372036854775807 by omega)) ?_
      refine Sq.assign .plain rfl rfl ?_
      refine Sq.nil ?_
      refine Eq.end ?_
      refine Eq.next ?_
      refine Cq.region ?_
      refine Sq.add .plain rfl rfl rfl (by omega) ?_
      refine Sq.move .plain rfl rfl ?_
      refine Sq.nil ?_
      have e2 := toNat_succ hj.1
      refine Eq.round _ _ ⟨j + 1, _, rfl, by omega, by rw [e2, keyTo_succ (by omega), hs], by omega, E, hB4, hcv, hny, hr36, hM, rfl⟩ (by omega) (.cons rfl (.cons rfl (.cons rfl (.cons rfl (.cons rfl (.cons rfl (.cons rfl (.cons rfl (.cons rfl (.cons rfl (.cons rfl (.cons rfl (.cons rfl (.cons rfl (.nil)))))))))))))))
    refine Sq.nil ?_
    refine Eq.next ?_
    refine Cq.seq ?_
    refine Cq.els rfl ?_
    refine Cq.exit ?_
    refine Eq.past ?_
    refine Eq.past ?_
    refine Eq.hit ?_
    refine Eq.next ?_
    refine Cq.seq ?_
    refine Cq.region ?_
    obtain rfl : s = (keyTx (keyQ a (clsN a r) q.toNat)) := by rw [hs, keyTo_done (by omega)]
    refine Sq.move .plain rfl rfl ?_
    refine Sq.move .plain rfl rfl ?_
    refine Sq.lookup key51 hM .plain rfl rfl (k := (keyTx (keyQ a (clsN a r) q.toNat))) rfl ?_
    refine Sq.move .plain rfl rfl ?_
    refine Sq.extract .plain rfl rfl rfl ?_
    refine Sq.extract .plain rfl rfl rfl ?_
    refine Sq.assign .plain rfl rfl ?_
    refine Sq.assign .plain rfl rfl ?_
    refine Sq.nil ?_
    refine Eq.next ?_
    refine Cq.seq ?_
    refine Cq.seq ?_
    refine Cq.region ?_
    refine Sq.move .plain rfl rfl ?_
    refine Sq.part (fun hin => ?_) (fun hin => ?_)
    · refine Sq.notT .plain rfl rfl ?_
      refine Sq.nil ?_
      refine Eq.next ?_
      refine Cq.els rfl ?_
      refine Cq.skip ?_
      refine Eq.next ?_
      refine Cq.region ?_
      refine Sq.move .plain rfl rfl ?_
      refine Sq.move .plain rfl rfl ?_
      refine Sq.move .plain rfl rfl ?_
      obtain ⟨p39, hp40o⟩ := Own.at hny (i := q) (by omega) (by first | (simp only [List.length_map]; omega) | (simp; omega))
      refine Sq.atO sl27 hp40o .plain rfl rfl rfl ?_
      refine Sq.storeO one3 hny hp40o .plain rfl rfl rfl (fun w41 g42 ho43 => ?_)
      have hs44 := World.grownBy.size g42
      replace E := E.owned hny g42 (by omega)
      replace hB4 := hB4.owned hny g42 (by decide)
      replace hcv := hcv.apart hlow hny g42 (by omega)
      replace hM := hM.owned hny g42
      replace hny := ho43
      refine Sq.nil ?_
      refine Eq.end ?_
      refine Eq.next ?_
      refine Cq.region ?_
      refine Sq.add .plain rfl rfl rfl (by omega) ?_
      refine Sq.move .plain rfl rfl ?_
      refine Sq.nil ?_
      have e1 := toNat_succ hq.1
      obtain ⟨e2, e3⟩ := next_in hv (r := r) (by omega) hin
      rw [if_pos hin] at hny
      refine Eq.round _ _ ⟨q + 1, rfl, by omega, by omega, by rw [e1, ← nextTo_set (by omega) e2]; exact Own.setI hny, by rw [e1, e3]; exact hM, E, hB4, hcv, rfl⟩ (by omega) (.cons rfl (.cons rfl (.cons rfl (.cons rfl (.cons rfl (.cons rfl (.cons rfl (.cons rfl (.cons rfl (.nil))))))))))
    refine Sq.notF .plain rfl rfl ?_
    refine Sq.nil ?_
    refine Eq.next ?_
    refine Cq.thn rfl ?_
    refine Cq.seq ?_
    refine Cq.region ?_
    refine Sq.move .plain rfl rfl ?_
    refine Sq.lenMap undm51 hM .plain rfl rfl ?_
    refine Sq.assign .plain rfl rfl ?_
    refine Sq.nil ?_
    refine Eq.next ?_
    refine Cq.region ?_
    refine Sq.move .plain rfl rfl ?_
    refine Sq.move .plain rfl rfl ?_
    refine Sq.move .plain rfl rfl ?_
    refine Sq.mapUpdate key51 hM .plain rfl (k := (keyTx (keyQ a (clsN a r) q.toNat))) rfl rfl rfl hin (fun w45 g46 hm47 => ?_)
    have hs48 := World.grownBy.size g46
    replace E := E.mapped g46 (by omega)
    replace hB4 := hB4.mapped hM g46
    replace hcv := hcv.mapped hM g46
    replace hny := hny.mapped hM g46
    replace hM := hm47
    refine Sq.nil ?_
    refine Eq.next ?_
    refine Cq.region ?_
    refine Sq.move .plain rfl rfl ?_
    refine Sq.move .plain rfl rfl ?_
    refine Sq.move .plain rfl rfl ?_
    obtain ⟨p49, hp50o⟩ := Own.at hny (i := q) (by omega) (by first | (simp only [List.length_map]; omega) | (simp; omega))
    refine Sq.atO sl27 hp50o .plain rfl rfl rfl ?_
    refine Sq.storeO one3 hny hp50o .plain rfl rfl rfl (fun w51 g52 ho53 => ?_)
    have hs54 := World.grownBy.size g52
    replace E := E.owned hny g52 (by omega)
    replace hB4 := hB4.owned hny g52 (by decide)
    replace hcv := hcv.apart hlow hny g52 (by omega)
    replace hM := hM.owned hny g52
    replace hny := ho53
    refine Sq.nil ?_
    refine Eq.end ?_
    refine Eq.next ?_
    refine Cq.region ?_
    refine Sq.add .plain rfl rfl rfl (by omega) ?_
    refine Sq.move .plain rfl rfl ?_
    refine Sq.nil ?_
    have e1 := toNat_succ hq.1
    obtain ⟨e2, e3⟩ := next_out hv (r := r) (by omega) hin
    refine Eq.round _ _ ⟨q + 1, rfl, by omega, by omega, by rw [e1, ← nextTo_set (by omega) e2]; exact Own.setI hny, by rw [e1, e3]; exact hM, E, hB4, hcv, rfl⟩ (by omega) (.cons rfl (.cons rfl (.cons rfl (.cons rfl (.cons rfl (.cons rfl (.cons rfl (.cons rfl (.cons rfl (.nil))))))))))
  refine Sq.nil ?_
  refine Eq.next ?_
  refine Cq.seq ?_
  refine Cq.els rfl ?_
  refine Cq.exit ?_
  refine Eq.past ?_
  refine Eq.past ?_
  refine Eq.hit ?_
  refine Eq.next ?_
  refine Cq.seq ?_
  refine Cq.region ?_
  refine Sq.move .plain rfl rfl ?_
  refine Sq.assign .plain rfl rfl ?_
  refine Sq.nil ?_
  refine Eq.next ?_
  refine Cq.seq ?_
  refine Cq.seq ?_
  refine Cq.region ?_
  refine Sq.move .plain rfl rfl ?_
  refine Sq.lenMap undm51 hM .plain rfl rfl ?_
  refine Sq.move .plain rfl rfl ?_
  refine Sq.eql .plain rfl rfl rfl ?_
  refine Sq.part (fun he => ?_) (fun he => ?_)
  · refine Sq.nil ?_
    refine Eq.next ?_
    refine Cq.thn rfl ?_
    refine Cq.seq ?_
    refine Cq.region ?_
    refine Sq.move .plain rfl rfl ?_
    refine Sq.assign .plain rfl rfl ?_
    refine Sq.nil ?_
    refine Eq.next ?_
    refine Cq.ret ?_
    refine Eq.pastRet ?_
    refine Eq.outRet ?_
    refine Eq.pastRet ?_
    refine Eq.outRet ?_
    refine Eq.ret1 rfl rfl ?_
    have hkl := keysTo_all (a := a) (r := r) (q := q.toNat) (by omega)
    exact ⟨by rw [← classes_found hv (r := r) (by omega), show clsN a (r + 1) = refine' a (clsN a r) from rfl, ← nextTo_all (q := q.toNat) (by omega)]; exact Own.mono hny (by omega), E⟩
  refine Sq.nil ?_
  refine Eq.next ?_
  refine Cq.els rfl ?_
  refine Cq.skip ?_
  refine Eq.next ?_
  refine Cq.region ?_
  refine Sq.move .plain rfl rfl ?_
  refine Sq.lenMap undm51 hM .plain rfl rfl ?_
  refine Sq.assign .plain rfl rfl ?_
  refine Sq.nil ?_
  refine Eq.end ?_
  have hkl := keysTo_all (a := a) (r := r) (q := q.toNat) (by omega)
  have hmm := mN_mono hv r
  have hml := mN_le (a := a) (r + 1)
  refine Eq.round _ _ ⟨r + 1, _, _, rfl, by rw [hkl], by rw [show clsN a (r + 1) = refine' a (clsN a r) from rfl, ← nextTo_all (q := q.toNat) (by omega)]; exact Own.mono hny (by omega), E, hB4, rfl⟩ (by omega) (.cons rfl (.cons rfl (.cons rfl (.cons rfl (.nil)))))
end Go.Proofs.YtdkdpmmfebdeaaaDoor
set_option linter.unusedSimpArgs false
set_option linter.unusedVariables false
namespace Go.Proofs.YtdkdpmmfebdeaaaDoor
open Go.RowKit
set_option maxRecDepth 100000 in
theorem sc_c (w0 : World) (a : A) (nx ac : Value) (hnx : Rows w0 27 3 nx a.next) (hac : Bools w0 4 ac a.acc) : Ret Tryd.prog 8 #[Value.agg #[Value.int .i64 a.al, nx, ac]] w0 (fun v w => Own w w0.heap.size 3 v ((clsA a).map (Value.int .i64)) ∧ Ext w0 w) := by
  have E := Ext.refl w0
  refine Ret.of (args := [Value.agg #[Value.int .i64 a.al, nx, ac]]) Tryd.func8 rfl rfl rfl ?_
  rintro _ rfl
  show Cq _ _ _ _ [(0, Value.agg #[Value.int .i64 a.al, nx, ac])] _
  refine Cq.seq ?_
  refine Cq.region ?_
  refine Sq.box .plain rfl rfl (fun b1 w2 e3 hB4 hlo5 => ?_)
  have hd6 := Nat.le_trans (Below.size E) hlo5
  have hs7 := Below.size e3
  replace E := E.trans e3
  refine Sq.assign .plain rfl rfl ?_
  refine Sq.nil ?_
  refine Eq.next ?_
  refine Cq.seq ?_
  refine Cq.seq ?_
  refine Cq.region ?_
  refine Sq.loadAgg agg29 .plain rfl rfl hB4 rfl ?_
  have hd11 := hB4.lt
  refine Sq.call fn22 .plain rfl rfl (valid_c _ a _ _ (hnx.ext E) (hac.ext E)) ?_
  rintro _ w9 ⟨rfl, e10⟩
  have hs12 := Below.size E
  have hs13 := Below.size e10
  replace E := E.trans e10
  replace hB4 := hB4.ext e10
  refine Sq.partB (fun hv => ?_) (fun hv => ?_)
  · refine Sq.notT .plain rfl rfl ?_
    refine Sq.nil ?_
    refine Eq.next ?_
    refine Cq.els rfl ?_
    refine Cq.skip ?_
    refine Eq.next ?_
    refine Cq.seq ?_
    refine Cq.region ?_
    refine Sq.loadAgg agg29 .plain rfl rfl hB4 rfl ?_
    have hd18 := hB4.lt
    refine Sq.call fn23 .plain rfl rfl (classesOf_c _ a _ _ (hnx.ext E) (hac.ext E) hv) ?_
    rintro v14 w15 ⟨hl17, e16⟩
    have hs19 := Below.size E
    have hs20 := Below.size e16
    replace E := E.trans e16
    refine Sq.assign .plain rfl rfl ?_
    refine Sq.nil ?_
    refine Eq.next ?_
    refine Cq.ret ?_
    refine Eq.ret1 rfl rfl ?_
    exact ⟨by rw [clsA_yes hv]; exact Own.mono hl17 (by omega), E⟩
  refine Sq.notF .plain rfl rfl ?_
  refine Sq.nil ?_
  refine Eq.next ?_
  refine Cq.thn rfl ?_
  refine Cq.seq ?_
  refine Cq.region ?_
  refine Sq.assign .plain rfl rfl ?_
  refine Sq.nil ?_
  refine Eq.next ?_
  refine Cq.ret ?_
  refine Eq.pastRet ?_
  refine Eq.ret1 rfl rfl ?_
  exact ⟨by rw [clsA_no hv]; exact Own.nil _ _ _, E⟩
end Go.Proofs.YtdkdpmmfebdeaaaDoor
set_option linter.unusedSimpArgs false
set_option linter.unusedVariables false
namespace Go.Proofs.YtdkdpmmfebdeaaaDoor
open Go.RowKit
set_option maxRecDepth 100000 in
theorem l5Same_c (w0 : World) (a : A) (nx ac : Value) (hnx : Rows w0 27 3 nx a.next) (hac : Bools w0 4 ac a.acc) (hv : validA a = true) (cv : Value) (cs : List Int) (hcv : Ints w0 3 cv cs) (hcl : cs.length = a.next.length) (i j : Int) (hi : 0 ≤ i ∧ i < a.next.length) (hj : 0 ≤ j ∧ j < a.next.length) : Ret Tryd.prog 43 #[Value.agg #[Value.int .i64 a.al, nx, ac], cv, Value.int .i64 i, Value.int .i64 j] w0 (fun v w => v = .bool (decide (keyQ a cs i.toNat = keyQ a cs j.toNat)) ∧ Ext w0 w) := by
  have E := Ext.refl w0
  have hvs := validA_spec.1 hv
  have hv1 := hvs.2.1
  have hv2 := hvs.2.2.1
  have hki := keyQ_iff hv (cs := cs) (i := i.toNat) (j := j.toNat) (by omega) (by omega)
  refine Ret.of (args := [Value.agg #[Value.int .i64 a.al, nx, ac], cv, Value.int .i64 i, Value.int .i64 j]) Tryd.func43 rfl rfl rfl ?_
  rintro _ rfl
  show Cq _ _ _ _ [(0, Value.agg #[Value.int .i64 a.al, nx, ac]), (1, cv), (2, Value.int .i64 i), (3, Value.int .i64 j)] _
  refine Cq.seq ?_
  refine Cq.region ?_
  refine Sq.box .plain rfl rfl (fun b1 w2 e3 hB4 hlo5 => ?_)
  have hd6 := Nat.le_trans (Below.size E) hlo5
  have hs7 := Below.size e3
  replace E := E.trans e3
  refine Sq.assign .plain rfl rfl ?_
  refine Sq.nil ?_
  refine Eq.next ?_
  refine Cq.seq ?_
  refine Cq.seq ?_
  obtain ⟨pI, hpI⟩ := Ints.at hcv (i := i) (by omega) (by omega)
  obtain ⟨pJ, hpJ⟩ := Ints.at hcv (i := j) (by omega) (by omega)
  replace hpI := hpI.ext E
  replace hpJ := hpJ.ext E
  refine Cq.drawS 9 (fun w' => At w' 3 cv i pI (.int .i64 (cs.getD i.toNat 0)) ∧ At w' 3 cv j pJ (.int .i64 (cs.getD j.toNat 0))) mixed (⟨hpI, hpJ⟩) (fun w8 e9 hS => ?_)
  clear hS
  have hs10 := Below.size e9
  replace E := E.trans e9
  replace hB4 := hB4.ext e9
  replace hpI := hpI.ext e9
  replace hpJ := hpJ.ext e9
  refine Gq.st 0 rfl (by kernel_rfl) rfl .plain rfl (fun _ _ _ h => h) ⟨hpI, hpJ⟩ (fun w' x => Still.move rfl) ?_
  refine Gq.st 1 rfl (by kernel_rfl) rfl .plain rfl (fun _ _ _ h => h) ⟨hpI, hpJ⟩ (fun w' x => Still.move rfl) ?_
  refine Gq.st 2 rfl (by kernel_rfl) rfl .plain rfl (fun _ _ _ h => h) ⟨hpI, hpJ⟩ (fun w' x => Still.at' sl27 hpI rfl rfl) ?_
  refine Gq.st 3 rfl (by kernel_rfl) rfl .plain rfl (fun _ _ _ h => h) ⟨hpI, hpJ⟩ (fun w' x => Still.loadA one3 rfl (x.1).1) ?_
  refine Gq.st 4 rfl (by kernel_rfl) rfl .plain rfl (fun _ _ _ h => h) ⟨hpI, hpJ⟩ (fun w' x => Still.move rfl) ?_
  refine Gq.st 5 rfl (by kernel_rfl) rfl .plain rfl (fun _ _ _ h => h) ⟨hpI, hpJ⟩ (fun w' x => Still.move rfl) ?_
  refine Gq.st 6 rfl (by kernel_rfl) rfl .plain rfl (fun _ _ _ h => h) ⟨hpI, hpJ⟩ (fun w' x => Still.at' sl27 hpJ rfl rfl) ?_
  refine Gq.st 7 rfl (by kernel_rfl) rfl .plain rfl (fun _ _ _ h => h) ⟨hpI, hpJ⟩ (fun w' x => Still.loadA one3 rfl (x.2).1) ?_
  refine Gq.st 8 rfl (by kernel_rfl) rfl .plain rfl (fun _ _ _ h => h) ⟨hpI, hpJ⟩ (fun w' x => Still.neq rfl rfl) ?_
  refine Gq.part (fun h1 => ?_) (fun h1 => ?_)
  · refine Gq.done (by kernel_rfl) ?_
    refine Eq.next ?_
    refine Cq.thn rfl ?_
    refine Cq.seq ?_
    refine Cq.region ?_
    refine Sq.assign .plain rfl rfl ?_
    refine Sq.nil ?_
    refine Eq.next ?_
    refine Cq.ret ?_
    refine Eq.pastRet ?_
    refine Eq.ret1 rfl rfl ?_
    exact ⟨by rw [decide_eq_false (fun hc => h1 (hki.1 hc).1)], E⟩
  refine Gq.done (by kernel_rfl) ?_
  refine Eq.next ?_
  refine Cq.els rfl ?_
  refine Cq.skip ?_
  refine Eq.next ?_
  refine Cq.seq ?_
  refine Cq.seq ?_
  refine Cq.region ?_
  refine Sq.assign .plain rfl rfl ?_
  refine Sq.nil ?_
  refine Eq.next ?_
  refine Cq.block ?_
  refine Cq.loop (fun nn w ls => ∃ (k : Int), ls = [(1, cv), (2, Value.int .i64 i), (3, Value.int .i64 j), (4, Value.pointer (some ⟨b1, 0, none⟩)), (9, Value.int .i64 k)] ∧ (0 ≤ k ∧ k ≤ (a.next.getD i.toNat []).length) ∧ (∀ m, m < k.toNat → cs.getD ((a.next.getD i.toNat []).getD m 0).toNat 0 = cs.getD ((a.next.getD j.toNat []).getD m 0).toNat 0) ∧ Ext w0 w ∧ Blk w b1 29 [Value.int .i64 a.al, nx, ac] ∧ nn = (((a.next.getD i.toNat []).length : Int) - k).toNat) _ _ ⟨0, rfl, by omega, fun m hm => by omega, E, hB4, rfl⟩ (.cons rfl (.cons rfl (.cons rfl (.cons rfl (.cons rfl (.nil)))))) ?_
  rintro nn wl1 ls ⟨k, rfl, hk, hal, E, hB4, rfl⟩
  have hs11 := Below.size E
  have hrl0 := valid_row hv (k := i.toNat) (by omega)
  have hl6 := letters_len6 a.al
  refine Cq.seq ?_
  refine Cq.seq ?_
  refine Cq.region ?_
  refine Sq.move .plain rfl rfl ?_
  refine Sq.fieldAddr fld29_1 .plain rfl rfl ?_
  refine Sq.loadB one22 .plain rfl rfl hB4 rfl ?_
  refine Sq.move .plain rfl rfl ?_
  refine Sq.idxRows sl22 one27 (hnx.ext E) .plain rfl rfl rfl .plain rfl rfl (by omega) (by omega) (fun r12 hr13 => ?_)
  refine Sq.lenInts hr13 .plain rfl und27 rfl ?_
  refine Sq.lss .plain rfl rfl rfl ?_
  refine Sq.part (fun c14 => ?_) (fun c14 => ?_)
  · refine Sq.nil ?_
    refine Eq.next ?_
    refine Cq.thn rfl ?_
    refine Cq.skip ?_
    refine Eq.next ?_
    refine Cq.seq ?_
    refine Cq.block ?_
    refine Cq.seq ?_
    have ht1 := valid_at hv (k := i.toNat) (j := k.toNat) (by omega) (by omega)
    have hrl1 := valid_row hv (k := i.toNat) (by omega)
    have hrl2 := valid_row hv (k := j.toNat) (by omega)
    have ht2 := valid_at hv (k := j.toNat) (j := k.toNat) (by omega) (by omega)
    obtain ⟨pRX, rRX, hpRX, hrRX⟩ := Rows.at hnx (i := i) (by omega) (by omega)
    obtain ⟨pTX, hpTX⟩ := Ints.at hrRX (i := k) (by omega) (by omega)
    obtain ⟨pCX, hpCX⟩ := Ints.at hcv (i := ((a.next.getD i.toNat []).getD k.toNat 0)) (by omega) (by omega)
    replace hpRX := hpRX.ext E
    replace hpTX := hpTX.ext E
    replace hpCX := hpCX.ext E
    obtain ⟨pRY, rRY, hpRY, hrRY⟩ := Rows.at hnx (i := j) (by omega) (by omega)
    obtain ⟨pTY, hpTY⟩ := Ints.at hrRY (i := k) (by omega) (by omega)
    obtain ⟨pCY, hpCY⟩ := Ints.at hcv (i := ((a.next.getD j.toNat []).getD k.toNat 0)) (by omega) (by omega)
    replace hpRY := hpRY.ext E
    replace hpTY := hpTY.ext E
    replace hpCY := hpCY.ext E
    refine Cq.drawS 23 (fun w' => Blk w' b1 29 [Value.int .i64 a.al, nx, ac] ∧ At w' 27 nx i pRX rRX ∧ At w' 3 rRX k pTX (.int .i64 ((a.next.getD i.toNat []).getD k.toNat 0)) ∧ At w' 3 cv ((a.next.getD i.toNat []).getD k.toNat 0) pCX (.int .i64 (cs.getD ((a.next.getD i.toNat []).getD k.toNat 0).toNat 0)) ∧ At w' 27 nx j pRY rRY ∧ At w' 3 rRY k pTY (.int .i64 ((a.next.getD j.toNat []).getD k.toNat 0)) ∧ At w' 3 cv ((a.next.getD j.toNat []).getD k.toNat 0) pCY (.int .i64 (cs.getD ((a.next.getD j.toNat []).getD k.toNat 0).toNat 0))) mixed (⟨hB4, hpRX, hpTX, hpCX, hpRY, hpTY, hpCY⟩) (fun w15 e16 hS => ?_)
    clear hS
    have hs17 := Below.size e16
    replace E := E.trans e16
    replace hB4 := hB4.ext e16
    replace hpRX := hpRX.ext e16
    replace hpTX := hpTX.ext e16
    replace hpCX := hpCX.ext e16
    replace hpRY := hpRY.ext e16
    replace hpTY := hpTY.ext e16
    replace hpCY := hpCY.ext e16
    refine Gq.st 0 rfl (by kernel_rfl) rfl .plain rfl (fun _ _ _ h => h) ⟨hB4, hpRX, hpTX, hpCX, hpRY, hpTY, hpCY⟩ (fun w' x => Still.move rfl) ?_
    refine Gq.st 1 rfl (by kernel_rfl) rfl .plain rfl (fun _ _ _ h => h) ⟨hB4, hpRX, hpTX, hpCX, hpRY, hpTY, hpCY⟩ (fun w' x => Still.fieldAddr fld29_1 rfl) ?_
    refine Gq.st 2 rfl (by kernel_rfl) rfl .plain rfl (fun _ _ _ h => h) ⟨hB4, hpRX, hpTX, hpCX, hpRY, hpTY, hpCY⟩ (fun w' x => Still.loadB one22 rfl x.1 rfl) ?_
    refine Gq.st 3 rfl (by kernel_rfl) rfl .plain rfl (fun _ _ _ h => h) ⟨hB4, hpRX, hpTX, hpCX, hpRY, hpTY, hpCY⟩ (fun w' x => Still.move rfl) ?_
    refine Gq.st 4 rfl (by kernel_rfl) rfl .plain rfl (fun _ _ _ h => h) ⟨hB4, hpRX, hpTX, hpCX, hpRY, hpTY, hpCY⟩ (fun w' x => Still.at' sl22 hpRX rfl rfl) ?_
    refine Gq.st 5 rfl (by kernel_rfl) rfl .plain rfl (fun _ _ _ h => h) ⟨hB4, hpRX, hpTX, hpCX, hpRY, hpTY, hpCY⟩ (fun w' x => Still.loadA one27 rfl (x.2.1).1) ?_
    refine Gq.st 6 rfl (by kernel_rfl) rfl .plain rfl (fun _ _ _ h => h) ⟨hB4, hpRX, hpTX, hpCX, hpRY, hpTY, hpCY⟩ (fun w' x => Still.move rfl) ?_
    refine Gq.st 7 rfl (by kernel_rfl) rfl .plain rfl (fun _ _ _ h => h) ⟨hB4, hpRX, hpTX, hpCX, hpRY, hpTY, hpCY⟩ (fun w' x => Still.at' sl27 hpTX rfl rfl) ?_
    refine Gq.st 8 rfl (by kernel_rfl) rfl .plain rfl (fun _ _ _ h => h) ⟨hB4, hpRX, hpTX, hpCX, hpRY, hpTY, hpCY⟩ (fun w' x => Still.loadA one3 rfl (x.2.2.1).1) ?_
    refine Gq.st 9 rfl (by kernel_rfl) rfl .plain rfl (fun _ _ _ h => h) ⟨hB4, hpRX, hpTX, hpCX, hpRY, hpTY, hpCY⟩ (fun w' x => Still.at' sl27 hpCX rfl rfl) ?_
    refine Gq.st 10 rfl (by kernel_rfl) rfl .plain rfl (fun _ _ _ h => h) ⟨hB4, hpRX, hpTX, hpCX, hpRY, hpTY, hpCY⟩ (fun w' x => Still.loadA one3 rfl (x.2.2.2.1).1) ?_
    refine Gq.st 11 rfl (by kernel_rfl) rfl .plain rfl (fun _ _ _ h => h) ⟨hB4, hpRX, hpTX, hpCX, hpRY, hpTY, hpCY⟩ (fun w' x => Still.move rfl) ?_
    refine Gq.st 12 rfl (by kernel_rfl) rfl .plain rfl (fun _ _ _ h => h) ⟨hB4, hpRX, hpTX, hpCX, hpRY, hpTY, hpCY⟩ (fun w' x => Still.fieldAddr fld29_1 rfl) ?_
    refine Gq.st 13 rfl (by kernel_rfl) rfl .plain rfl (fun _ _ _ h => h) ⟨hB4, hpRX, hpTX, hpCX, hpRY, hpTY, hpCY⟩ (fun w' x => Still.loadB one22 rfl x.1 rfl) ?_
    refine Gq.st 14 rfl (by kernel_rfl) rfl .plain rfl (fun _ _ _ h => h) ⟨hB4, hpRX, hpTX, hpCX, hpRY, hpTY, hpCY⟩ (fun w' x => Still.move rfl) ?_
    refine Gq.st 15 rfl (by kernel_rfl) rfl .plain rfl (fun _ _ _ h => h) ⟨hB4, hpRX, hpTX, hpCX, hpRY, hpTY, hpCY⟩ (fun w' x => Still.at' sl22 hpRY rfl rfl) ?_
    refine Gq.st 16 rfl (by kernel_rfl) rfl .plain rfl (fun _ _ _ h => h) ⟨hB4, hpRX, hpTX, hpCX, hpRY, hpTY, hpCY⟩ (fun w' x => Still.loadA one27 rfl (x.2.2.2.2.1).1) ?_
    refine Gq.st 17 rfl (by kernel_rfl) rfl .plain rfl (fun _ _ _ h => h) ⟨hB4, hpRX, hpTX, hpCX, hpRY, hpTY, hpCY⟩ (fun w' x => Still.move rfl) ?_
    refine Gq.st 18 rfl (by kernel_rfl) rfl .plain rfl (fun _ _ _ h => h) ⟨hB4, hpRX, hpTX, hpCX, hpRY, hpTY, hpCY⟩ (fun w' x => Still.at' sl27 hpTY rfl rfl) ?_
    refine Gq.st 19 rfl (by kernel_rfl) rfl .plain rfl (fun _ _ _ h => h) ⟨hB4, hpRX, hpTX, hpCX, hpRY, hpTY, hpCY⟩ (fun w' x => Still.loadA one3 rfl (x.2.2.2.2.2.1).1) ?_
    refine Gq.st 20 rfl (by kernel_rfl) rfl .plain rfl (fun _ _ _ h => h) ⟨hB4, hpRX, hpTX, hpCX, hpRY, hpTY, hpCY⟩ (fun w' x => Still.at' sl27 hpCY rfl rfl) ?_
    refine Gq.st 21 rfl (by kernel_rfl) rfl .plain rfl (fun _ _ _ h => h) ⟨hB4, hpRX, hpTX, hpCX, hpRY, hpTY, hpCY⟩ (fun w' x => Still.loadA one3 rfl (x.2.2.2.2.2.2).1) ?_
    refine Gq.st 22 rfl (by kernel_rfl) rfl .plain rfl (fun _ _ _ h => h) ⟨hB4, hpRX, hpTX, hpCX, hpRY, hpTY, hpCY⟩ (fun w' x => Still.neq rfl rfl) ?_
    refine Gq.part (fun h2 => ?_) (fun h2 => ?_)
    · refine Gq.done (by kernel_rfl) ?_
      refine Eq.next ?_
      refine Cq.thn rfl ?_
      refine Cq.seq ?_
      refine Cq.region ?_
      refine Sq.assign .plain rfl rfl ?_
      refine Sq.nil ?_
      refine Eq.next ?_
      refine Cq.ret ?_
      refine Eq.outRet ?_
      refine Eq.pastRet ?_
      refine Eq.pastRet ?_
      refine Eq.outRet ?_
      refine Eq.pastRet ?_
      refine Eq.ret1 rfl rfl ?_
      exact ⟨by rw [decide_eq_false (fun hc => h2 ((hki.1 hc).2 k.toNat (by omega)))], E⟩
    refine Gq.done (by kernel_rfl) ?_
    refine Eq.next ?_
    refine Cq.els rfl ?_
    refine Cq.skip ?_
    refine Eq.end ?_
    refine Eq.next ?_
    refine Cq.region ?_
    refine Sq.move .plain rfl rfl ?_
    refine Sq.add .plain rfl rfl rfl (by omega) ?_
    refine Sq.assign .plain rfl rfl ?_
    refine Sq.nil ?_
    have e1 := toNat_succ hk.1
    refine Eq.round _ _ ⟨k + 1, rfl, by omega, fun m hm => by rcases Nat.lt_or_ge m k.toNat with h | h; exact hal m h; rw [show m = k.toNat by omega]; exact Classical.not_not.1 h2, E, hB4, rfl⟩ (by omega) (.cons rfl (.cons rfl (.cons rfl (.cons rfl (.cons rfl (.nil))))))
  refine Sq.nil ?_
  refine Eq.next ?_
  refine Cq.els rfl ?_
  refine Cq.exit ?_
  refine Eq.past ?_
  refine Eq.past ?_
  refine Eq.hit ?_
  refine Eq.next ?_
  refine Cq.seq ?_
  refine Cq.region ?_
  refine Sq.assign .plain rfl rfl ?_
  refine Sq.nil ?_
  refine Eq.next ?_
  refine Cq.ret ?_
  refine Eq.ret1 rfl rfl ?_
  exact ⟨by rw [decide_eq_true (hki.2 ⟨Classical.not_not.1 h1, fun m hm => hal m (by omega)⟩)], E⟩
set_option maxRecDepth 100000 in
theorem l5Refine_c (w0 : World) (a : A) (nx ac : Value) (hnx : Rows w0 27 3 nx a.next) (hac : Bools w0 4 ac a.acc) (hv : validA a = true) (cv : Value) (cs : List Int) (hcv : Ints w0 3 cv cs) (hcl : cs.length = a.next.length) : Ret Tryd.prog 34 #[Value.agg #[Value.int .i64 a.al, nx, ac], cv] w0 (fun v w => (∃ nv, v = .tuple #[nv, .int .i64 ((dd (keys a cs)).length : Int)] ∧ Own w w0.heap.size 3 nv ((refine' a cs).map (Value.int .i64))) ∧ Ext w0 w) := by
  have E := Ext.refl w0
  have hvs := validA_spec.1 hv
  have hv1 := hvs.2.1
  have hv2 := hvs.2.2.1
  have hrl := ref_length (a := a) cs
  refine Ret.of (args := [Value.agg #[Value.int .i64 a.al, nx, ac], cv]) Tryd.func34 rfl rfl rfl ?_
  rintro _ rfl
  show Cq _ _ _ _ [(0, Value.agg #[Value.int .i64 a.al, nx, ac]), (1, cv)] _
  refine Cq.seq ?_
  refine Cq.region ?_
  refine Sq.box .plain rfl rfl (fun b1 w2 e3 hB4 hlo5 => ?_)
  have hd6 := Nat.le_trans (Below.size E) hlo5
  have hs7 := Below.size e3
  replace E := E.trans e3
  refine Sq.assign .plain rfl rfl ?_
  refine Sq.assign .plain rfl rfl ?_
  refine Sq.nil ?_
  refine Eq.next ?_
  refine Cq.seq ?_
  refine Cq.region ?_
  refine Sq.lit sl27 rfl rfl .plain rfl rfl one_nil (fun b8 w9 e10 hlo11 ho12 _ => ?_)
  replace ho12 := ho12 w2.heap.size (Nat.le_refl _)
  have hs14 := Below.size e10
  replace E := E.trans e10
  replace hB4 := hB4.ext e10
  refine Sq.assign .plain rfl rfl ?_
  refine Sq.nil ?_
  refine Eq.next ?_
  refine Cq.seq ?_
  refine Cq.region ?_
  refine Sq.assign .plain rfl rfl ?_
  refine Sq.nil ?_
  refine Eq.next ?_
  refine Cq.seq ?_
  refine Cq.seq ?_
  refine Cq.region ?_
  refine Sq.assign .plain rfl rfl ?_
  refine Sq.nil ?_
  refine Eq.next ?_
  refine Cq.block ?_
  refine Cq.loop (fun nn w ls => ∃ (i : Int), ∃ (c : Int), ∃ (nv : Value), ls = [(1, cv), (2, Value.pointer (some ⟨b1, 0, none⟩)), (6, nv), (7, Value.int .i64 c), (8, Value.int .i64 i)] ∧ (0 ≤ i ∧ i ≤ a.next.length) ∧ c = (cntK a cs i.toNat : Int) ∧ Own w w0.heap.size 3 nv (((refine' a cs).take i.toNat).map (Value.int .i64)) ∧ Ext w0 w ∧ Blk w b1 29 [Value.int .i64 a.al, nx, ac] ∧ nn = ((a.next.length : Int) - i).toNat) _ _ ⟨0, 0, _, rfl, by omega, rfl, by exact Own.mono ho12 (by omega), E, hB4, rfl⟩ (.cons rfl (.cons rfl (.cons rfl (.cons rfl (.cons rfl (.nil)))))) ?_
  rintro nn wl1 ls ⟨i, c, nv, rfl, hi, hc, hn0, E, hB4, rfl⟩
  have hs15 := Below.size E
  have hcb := cntK_le (a := a) cs i.toNat
  have htl : ((refine' a cs).take i.toNat).length = i.toNat := by rw [List.length_take]; omega
  refine Cq.seq ?_
  refine Cq.seq ?_
  refine Cq.region ?_
  refine Sq.move .plain rfl rfl ?_
  refine Sq.move .plain rfl rfl ?_
  refine Sq.lenInts (hcv.ext E) .plain rfl und27 rfl ?_
  refine Sq.lss .plain rfl rfl rfl ?_
  refine Sq.part (fun c16 => ?_) (fun c16 => ?_)
  · refine Sq.nil ?_
    refine Eq.next ?_
    refine Cq.thn rfl ?_
    refine Cq.skip ?_
    refine Eq.next ?_
    refine Cq.seq ?_
    refine Cq.block ?_
    refine Cq.seq ?_
    refine Cq.region ?_
    refine Sq.assign .plain rfl rfl ?_
    refine Sq.nil ?_
    refine Eq.next ?_
    refine Cq.seq ?_
    refine Cq.seq ?_
    refine Cq.region ?_
    refine Sq.assign .plain rfl rfl ?_
    refine Sq.nil ?_
    refine Eq.next ?_
    refine Cq.block ?_
    refine Cq.loop (fun nn w ls => ∃ (j : Int), ∃ (id : Int), ls = [(1, cv), (2, Value.pointer (some ⟨b1, 0, none⟩)), (6, nv), (7, Value.int .i64 c), (8, Value.int .i64 i), (9, Value.int .i64 id), (10, Value.int .i64 j)] ∧ (0 ≤ j ∧ j ≤ i) ∧ ((id = -1 ∧ ∀ m, m < j.toNat → keyQ a cs i.toNat ≠ keyQ a cs m) ∨ (id = (refine' a cs).getD i.toNat 0 ∧ ∃ m, m < i.toNat ∧ keyQ a cs i.toNat = keyQ a cs m)) ∧ Ext w0 w ∧ Blk w b1 29 [Value.int .i64 a.al, nx, ac] ∧ Own w w0.heap.size 3 nv (((refine' a cs).take i.toNat).map (Value.int .i64)) ∧ nn = (i - j).toNat) _ _ ⟨0, -1, rfl, by omega, .inl ⟨rfl, fun m hm => by omega⟩, E, hB4, hn0, rfl⟩ (.cons rfl (.cons rfl (.cons rfl (.cons rfl (.cons rfl (.cons rfl (.cons rfl (.nil)))))))) ?_
    rintro nn wl2 ls ⟨j, id, rfl, hj, hid, E, hB4, hn0, rfl⟩
    have hs17 := Below.size E
    have hri : 0 ≤ (refine' a cs).getD i.toNat 0 := by rw [ref_at (by omega)]; exact Int.natCast_nonneg _
    refine Cq.seq ?_
    refine Cq.seq ?_
    refine Cq.region ?_
    refine Sq.move .plain rfl rfl ?_
    refine Sq.move .plain rfl rfl ?_
    refine Sq.lss .plain rfl rfl rfl ?_
    refine Sq.part (fun hjl => ?_) (fun hjl => ?_)
    · refine Sq.move .plain rfl rfl ?_
      refine Sq.move (.met rfl rfl rfl) rfl rfl ?_
      refine Sq.lss (.met rfl rfl rfl) rfl rfl rfl ?_
      refine Sq.part (fun hn => ?_) (fun hn => ?_)
      · refine Sq.pickT .plain rfl rfl rfl ?_
        refine Sq.nil ?_
        refine Eq.next ?_
        refine Cq.thn rfl ?_
        refine Cq.skip ?_
        refine Eq.next ?_
        refine Cq.seq ?_
        refine Cq.block ?_
        refine Cq.seq ?_
        refine Cq.region ?_
        refine Sq.loadAgg agg29 .plain rfl rfl hB4 rfl ?_
        refine Sq.move .plain rfl rfl ?_
        refine Sq.move .plain rfl rfl ?_
        refine Sq.move .plain rfl rfl ?_
        have hd21 := hB4.lt
        refine Sq.call fn43 .plain rfl rfl (l5Same_c _ a _ _ (hnx.ext E) (hac.ext E) hv cv cs (hcv.ext E) (by omega) i j (by omega) (by omega)) ?_
        rintro _ w19 ⟨rfl, e20⟩
        have hs22 := Below.size E
        have hs23 := Below.size e20
        replace E := E.trans e20
        replace hB4 := hB4.ext e20
        replace hn0 := hn0.ext e20
        refine Sq.partB (fun hsm => ?_) (fun hsm => ?_)
        · refine Sq.nil ?_
          refine Eq.next ?_
          refine Cq.thn rfl ?_
          refine Cq.region ?_
          refine Sq.move .plain rfl rfl ?_
          refine Sq.move .plain rfl rfl ?_
          refine Sq.idxInts sl27 one3 (Own.row hn0) .plain rfl rfl rfl .plain rfl rfl (by omega) (by omega) ?_
          refine Sq.assign .plain rfl rfl ?_
          refine Sq.nil ?_
          refine Eq.end ?_
          refine Eq.next ?_
          refine Cq.region ?_
          refine Sq.move .plain rfl rfl ?_
          refine Sq.add .plain rfl rfl rfl (by omega) ?_
          refine Sq.assign .plain rfl rfl ?_
          refine Sq.nil ?_
          have e2 := toNat_succ hj.1
          refine Eq.round _ _ ⟨j + 1, _, rfl, by omega, .inr ⟨by rw [getD_take (by omega)]; exact (ref_old (a := a) (cs := cs) (i := i.toNat) (m := j.toNat) (by omega) (by omega) (of_decide_eq_true hsm)).1, j.toNat, by omega, of_decide_eq_true hsm⟩, E, hB4, hn0, rfl⟩ (by omega) (.cons rfl (.cons rfl (.cons rfl (.cons rfl (.cons rfl (.cons rfl (.cons rfl (.nil))))))))
        refine Sq.nil ?_
        refine Eq.next ?_
        refine Cq.els rfl ?_
        refine Cq.skip ?_
        refine Eq.end ?_
        refine Eq.next ?_
        refine Cq.region ?_
        refine Sq.move .plain rfl rfl ?_
        refine Sq.add .plain rfl rfl rfl (by omega) ?_
        refine Sq.assign .plain rfl rfl ?_
        refine Sq.nil ?_
        have e2 := toNat_succ hj.1
        refine Eq.round _ _ ⟨j + 1, _, rfl, by omega, .inl ⟨(hid.resolve_right (fun hc2 => by omega)).1, fun m hm => by rcases Nat.lt_or_ge m j.toNat with h | h; exact (hid.resolve_right (fun hc2 => by omega)).2 m h; rw [show m = j.toNat by omega]; exact of_decide_eq_false hsm⟩, E, hB4, hn0, rfl⟩ (by omega) (.cons rfl (.cons rfl (.cons rfl (.cons rfl (.cons rfl (.cons rfl (.cons rfl (.nil))))))))
      refine Sq.pickT .plain rfl rfl rfl ?_
      refine Sq.nil ?_
      refine Eq.next ?_
      refine Cq.els rfl ?_
      refine Cq.exit ?_
      refine Eq.past ?_
      refine Eq.past ?_
      refine Eq.hit ?_
      refine Eq.next ?_
      refine Cq.seq ?_
      refine Cq.seq ?_
      refine Cq.region ?_
      refine Sq.move .plain rfl rfl ?_
      refine Sq.lss .plain rfl rfl rfl ?_
      refine Sq.part (fun hneg => ?_) (fun hneg => ?_)
      · refine Sq.nil ?_
        refine Eq.next ?_
        refine Cq.thn rfl ?_
        refine Cq.seq ?_
        refine Cq.region ?_
        refine Sq.move .plain rfl rfl ?_
        refine Sq.assign .plain rfl rfl ?_
        refine Sq.nil ?_
        refine Eq.next ?_
        refine Cq.region ?_
        refine Sq.move .plain rfl rfl ?_
        refine Sq.add .plain rfl rfl rfl (by omega) ?_
        refine Sq.assign .plain rfl rfl ?_
        refine Sq.nil ?_
        refine Eq.next ?_
        refine Cq.region ?_
        refine Sq.move .plain rfl rfl ?_
        refine Sq.move .plain rfl rfl ?_
        refine Sq.app1 sl27 hn0 (by omega) (by first | omega | (simp; omega)) .plain rfl rfl rfl rfl rfl rfl rfl (fun v24 w25 ho27 g26 _ => ?_)
        have hs28 := g26.size
        replace E := E.owned hn0 g26 (by omega)
        replace hB4 := hB4.owned hn0 g26 (by decide)
        refine Sq.assign .plain rfl rfl ?_
        refine Sq.nil ?_
        refine Eq.end ?_
        refine Eq.next ?_
        refine Cq.region ?_
        refine Sq.move .plain rfl rfl ?_
        refine Sq.add .plain rfl rfl rfl (by omega) ?_
        refine Sq.assign .plain rfl rfl ?_
        refine Sq.nil ?_
        have e1 := toNat_succ hi.1
        have hrn := ref_new (a := a) (cs := cs) (i := i.toNat) (by omega) (fun m hm => (hid.resolve_right (by omega)).2 m (by omega))
        refine Eq.round _ _ ⟨i + 1, _, _, rfl, by omega, by rw [e1, hrn.2]; omega, by rw [e1, take_snoc (d := 0) (by omega), hrn.1, ← hc]; exact Own.snocI ho27, E, hB4, rfl⟩ (by omega) (.cons rfl (.cons rfl (.cons rfl (.cons rfl (.cons rfl (.nil))))))
      refine Sq.nil ?_
      refine Eq.next ?_
      refine Cq.els rfl ?_
      refine Cq.skip ?_
      refine Eq.next ?_
      refine Cq.region ?_
      refine Sq.move .plain rfl rfl ?_
      refine Sq.move .plain rfl rfl ?_
      refine Sq.app1 sl27 hn0 (by omega) (by first | omega | (simp; omega)) .plain rfl rfl rfl rfl rfl rfl rfl (fun v29 w30 ho32 g31 _ => ?_)
      have hs33 := g31.size
      replace E := E.owned hn0 g31 (by omega)
      replace hB4 := hB4.owned hn0 g31 (by decide)
      refine Sq.assign .plain rfl rfl ?_
      refine Sq.nil ?_
      refine Eq.end ?_
      refine Eq.next ?_
      refine Cq.region ?_
      refine Sq.move .plain rfl rfl ?_
      refine Sq.add .plain rfl rfl rfl (by omega) ?_
      refine Sq.assign .plain rfl rfl ?_
      refine Sq.nil ?_
      have e1 := toNat_succ hi.1
      obtain ⟨hid1, m, hm1, hm2⟩ := (hid.resolve_left (by omega))
      have hro := ref_old (a := a) (cs := cs) (i := i.toNat) (by omega) hm1 hm2
      refine Eq.round _ _ ⟨i + 1, _, _, rfl, by omega, by rw [e1, hro.2]; exact hc, by rw [e1, take_snoc (d := 0) (by omega), ← hid1]; exact Own.snocI ho32, E, hB4, rfl⟩ (by omega) (.cons rfl (.cons rfl (.cons rfl (.cons rfl (.cons rfl (.nil))))))
    refine Sq.move .plain rfl rfl ?_
    refine Sq.off rfl rfl rfl rfl rfl rfl ?_
    refine Sq.off rfl rfl rfl rfl rfl rfl ?_
    refine Sq.pickF .plain rfl rfl rfl ?_
    refine Sq.nil ?_
    refine Eq.next ?_
    refine Cq.els rfl ?_
    refine Cq.exit ?_
    refine Eq.past ?_
    refine Eq.past ?_
    refine Eq.hit ?_
    refine Eq.next ?_
    refine Cq.seq ?_
    refine Cq.seq ?_
    refine Cq.region ?_
    refine Sq.move .plain rfl rfl ?_
    refine Sq.lss .plain rfl rfl rfl ?_
    refine Sq.part (fun hneg => ?_) (fun hneg => ?_)
    · refine Sq.nil ?_
      refine Eq.next ?_
      refine Cq.thn rfl ?_
      refine Cq.seq ?_
      refine Cq.region ?_
      refine Sq.move .plain rfl rfl ?_
      refine Sq.assign .plain rfl rfl ?_
      refine Sq.nil ?_
      refine Eq.next ?_
      refine Cq.region ?_
      refine Sq.move .plain rfl rfl ?_
      refine Sq.add .plain rfl rfl rfl (by omega) ?_
      refine Sq.assign .plain rfl rfl ?_
      refine Sq.nil ?_
      refine Eq.next ?_
      refine Cq.region ?_
      refine Sq.move .plain rfl rfl ?_
      refine Sq.move .plain rfl rfl ?_
      refine Sq.app1 sl27 hn0 (by omega) (by first | omega | (simp; omega)) .plain rfl rfl rfl rfl rfl rfl rfl (fun v34 w35 ho37 g36 _ => ?_)
      have hs38 := g36.size
      replace E := E.owned hn0 g36 (by omega)
      replace hB4 := hB4.owned hn0 g36 (by decide)
      refine Sq.assign .plain rfl rfl ?_
      refine Sq.nil ?_
      refine Eq.end ?_
      refine Eq.next ?_
      refine Cq.region ?_
      refine Sq.move .plain rfl rfl ?_
      refine Sq.add .plain rfl rfl rfl (by omega) ?_
      refine Sq.assign .plain rfl rfl ?_
      refine Sq.nil ?_
      have e1 := toNat_succ hi.1
      have hrn := ref_new (a := a) (cs := cs) (i := i.toNat) (by omega) (fun m hm => (hid.resolve_right (by omega)).2 m (by omega))
      refine Eq.round _ _ ⟨i + 1, _, _, rfl, by omega, by rw [e1, hrn.2]; omega, by rw [e1, take_snoc (d := 0) (by omega), hrn.1, ← hc]; exact Own.snocI ho37, E, hB4, rfl⟩ (by omega) (.cons rfl (.cons rfl (.cons rfl (.cons rfl (.cons rfl (.nil))))))
    refine Sq.nil ?_
    refine Eq.next ?_
    refine Cq.els rfl ?_
    refine Cq.skip ?_
    refine Eq.next ?_
    refine Cq.region ?_
    refine Sq.move .plain rfl rfl ?_
    refine Sq.move .plain rfl rfl ?_
    refine Sq.app1 sl27 hn0 (by omega) (by first | omega | (simp; omega)) .plain rfl rfl rfl rfl rfl rfl rfl (fun v39 w40 ho42 g41 _ => ?_)
    have hs43 := g41.size
    replace E := E.owned hn0 g41 (by omega)
    replace hB4 := hB4.owned hn0 g41 (by decide)
    refine Sq.assign .plain rfl rfl ?_
    refine Sq.nil ?_
    refine Eq.end ?_
    refine Eq.next ?_
    refine Cq.region ?_
    refine Sq.move .plain rfl rfl ?_
    refine Sq.add .plain rfl rfl rfl (by omega) ?_
    refine Sq.assign .plain rfl rfl ?_
    refine Sq.nil ?_
    have e1 := toNat_succ hi.1
    obtain ⟨hid1, m, hm1, hm2⟩ := (hid.resolve_left (by omega))
    have hro := ref_old (a := a) (cs := cs) (i := i.toNat) (by omega) hm1 hm2
    refine Eq.round _ _ ⟨i + 1, _, _, rfl, by omega, by rw [e1, hro.2]; exact hc, by rw [e1, take_snoc (d := 0) (by omega), ← hid1]; exact Own.snocI ho42, E, hB4, rfl⟩ (by omega) (.cons rfl (.cons rfl (.cons rfl (.cons rfl (.cons rfl (.nil))))))
  refine Sq.nil ?_
  refine Eq.next ?_
  refine Cq.els rfl ?_
  refine Cq.exit ?_
  refine Eq.past ?_
  refine Eq.past ?_
  refine Eq.hit ?_
  refine Eq.next ?_
  refine Cq.seq ?_
  refine Cq.region ?_
  refine Sq.move .plain rfl rfl ?_
  refine Sq.move .plain rfl rfl ?_
  refine Sq.assign .plain rfl rfl ?_
  refine Sq.assign .plain rfl rfl ?_
  refine Sq.nil ?_
  refine Eq.next ?_
  refine Cq.ret ?_
  refine Eq.ret2 rfl rfl rfl ?_
  exact ⟨⟨_, by rw [hc, cntK_all _ (by omega)], by rw [← List.take_of_length_le (l := (refine' a cs)) (i := i.toNat) (by omega)]; exact hn0⟩, E⟩
end Go.Proofs.YtdkdpmmfebdeaaaDoor
set_option linter.unusedSimpArgs false
set_option linter.unusedVariables false
namespace Go.Proofs.YtdkdpmmfebdeaaaDoor
open Go.RowKit
set_option maxRecDepth 100000 in
theorem l5Classes_c (w0 : World) (a : A) (nx ac : Value) (hnx : Rows w0 27 3 nx a.next) (hac : Bools w0 4 ac a.acc) (hv : validA a = true) : Ret Tryd.prog 19 #[Value.agg #[Value.int .i64 a.al, nx, ac]] w0 (fun v w => (∃ nv, v = .tuple #[nv, .int .i64 (nCls a : Int)] ∧ Own w w0.heap.size 3 nv ((classes a).map (Value.int .i64))) ∧ Ext w0 w) := by
  have E := Ext.refl w0
  have hvs := validA_spec.1 hv
  have hv1 := hvs.2.1
  have hv2 := hvs.2.2.1
  refine Ret.of (args := [Value.agg #[Value.int .i64 a.al, nx, ac]]) Tryd.func19 rfl rfl rfl ?_
  rintro _ rfl
  show Cq _ _ _ _ [(0, Value.agg #[Value.int .i64 a.al, nx, ac])] _
  refine Cq.seq ?_
  refine Cq.region ?_
  refine Sq.box .plain rfl rfl (fun b1 w2 e3 hB4 hlo5 => ?_)
  have hd6 := Nat.le_trans (Below.size E) hlo5
  have hs7 := Below.size e3
  replace E := E.trans e3
  refine Sq.assign .plain rfl rfl ?_
  refine Sq.assign .plain rfl rfl ?_
  refine Sq.nil ?_
  refine Eq.next ?_
  refine Cq.seq ?_
  refine Cq.region ?_
  refine Sq.lit sl27 rfl rfl .plain rfl rfl one_nil (fun b8 w9 e10 hlo11 ho12 _ => ?_)
  replace ho12 := ho12 w2.heap.size (Nat.le_refl _)
  have hs14 := Below.size e10
  replace E := E.trans e10
  replace hB4 := hB4.ext e10
  refine Sq.assign .plain rfl rfl ?_
  refine Sq.nil ?_
  refine Eq.next ?_
  refine Cq.seq ?_
  refine Cq.seq ?_
  refine Cq.region ?_
  refine Sq.assign .plain rfl rfl ?_
  refine Sq.nil ?_
  refine Eq.next ?_
  refine Cq.block ?_
  refine Cq.loop (fun nn w ls => ∃ (k : Int), ∃ (cv : Value), ls = [(1, Value.pointer (some ⟨b1, 0, none⟩)), (2, Value.slice none 0 0), (3, Value.int .i64 0), (4, cv), (5, Value.int .i64 k)] ∧ (0 ≤ k ∧ k ≤ a.next.length) ∧ Own w w0.heap.size 3 cv (((cls0 a).take k.toNat).map (Value.int .i64)) ∧ Ext w0 w ∧ Blk w b1 29 [Value.int .i64 a.al, nx, ac] ∧ nn = ((a.next.length : Int) - k).toNat) _ _ ⟨0, _, rfl, by omega, by exact Own.mono ho12 (by omega), E, hB4, rfl⟩ (.cons rfl (.cons rfl (.cons rfl (.cons rfl (.cons rfl (.nil)))))) ?_
  rintro nn wl1 ls ⟨k, cv, rfl, hk, hc0, E, hB4, rfl⟩
  have hs15 := Below.size E
  have hzl := cls0_length (a := a)
  have htl : ((cls0 a).take k.toNat).length = k.toNat := by rw [List.length_take]; omega
  refine Cq.seq ?_
  refine Cq.seq ?_
  refine Cq.region ?_
  refine Sq.move .plain rfl rfl ?_
  refine Sq.fieldAddr fld29_2 .plain rfl rfl ?_
  refine Sq.loadB one23 .plain rfl rfl hB4 rfl ?_
  refine Sq.lenBools (hac.ext E) .plain rfl und23 rfl ?_
  refine Sq.lss .plain rfl rfl rfl ?_
  refine Sq.part (fun c16 => ?_) (fun c16 => ?_)
  · refine Sq.nil ?_
    refine Eq.next ?_
    refine Cq.thn rfl ?_
    refine Cq.skip ?_
    refine Eq.next ?_
    refine Cq.seq ?_
    refine Cq.block ?_
    refine Cq.seq ?_
    refine Cq.region ?_
    refine Sq.assign .plain rfl rfl ?_
    refine Sq.nil ?_
    refine Eq.next ?_
    refine Cq.seq ?_
    refine Cq.seq ?_
    refine Cq.region ?_
    refine Sq.fieldAddr fld29_2 .plain rfl rfl ?_
    refine Sq.loadB one23 .plain rfl rfl hB4 rfl ?_
    refine Sq.move .plain rfl rfl ?_
    refine Sq.idxBools sl23 one4 (hac.ext E) .plain rfl rfl rfl .plain rfl rfl (by omega) (by omega) ?_
    refine Sq.partB (fun hac => ?_) (fun hac => ?_)
    · refine Sq.nil ?_
      refine Eq.next ?_
      refine Cq.thn rfl ?_
      refine Cq.region ?_
      refine Sq.assign .plain rfl rfl ?_
      refine Sq.nil ?_
      refine Eq.next ?_
      refine Cq.region ?_
      refine Sq.move .plain rfl rfl ?_
      refine Sq.move .plain rfl rfl ?_
      refine Sq.app1 sl27 hc0 (by omega) (by first | omega | (simp; omega)) .plain rfl rfl rfl rfl rfl rfl rfl (fun v17 w18 ho20 g19 _ => ?_)
      have hs21 := g19.size
      replace E := E.owned hc0 g19 (by omega)
      replace hB4 := hB4.owned hc0 g19 (by decide)
      refine Sq.assign .plain rfl rfl ?_
      refine Sq.nil ?_
      refine Eq.end ?_
      refine Eq.next ?_
      refine Cq.region ?_
      refine Sq.move .plain rfl rfl ?_
      refine Sq.add .plain rfl rfl rfl (by omega) ?_
      refine Sq.assign .plain rfl rfl ?_
      refine Sq.nil ?_
      have e1 := toNat_succ hk.1
      refine Eq.round _ _ ⟨k + 1, _, rfl, by omega, by rw [e1, take_snoc (d := 0) (by omega), cls0_at (by omega), if_pos hac]; exact Own.snocI ho20, E, hB4, rfl⟩ (by omega) (.cons rfl (.cons rfl (.cons rfl (.cons rfl (.cons rfl (.nil))))))
    refine Sq.nil ?_
    refine Eq.next ?_
    refine Cq.els rfl ?_
    refine Cq.skip ?_
    refine Eq.next ?_
    refine Cq.region ?_
    refine Sq.move .plain rfl rfl ?_
    refine Sq.move .plain rfl rfl ?_
    refine Sq.app1 sl27 hc0 (by omega) (by first | omega | (simp; omega)) .plain rfl rfl rfl rfl rfl rfl rfl (fun v22 w23 ho25 g24 _ => ?_)
    have hs26 := g24.size
    replace E := E.owned hc0 g24 (by omega)
    replace hB4 := hB4.owned hc0 g24 (by decide)
    refine Sq.assign .plain rfl rfl ?_
    refine Sq.nil ?_
    refine Eq.end ?_
    refine Eq.next ?_
    refine Cq.region ?_
    refine Sq.move .plain rfl rfl ?_
    refine Sq.add .plain rfl rfl rfl (by omega) ?_
    refine Sq.assign .plain rfl rfl ?_
    refine Sq.nil ?_
    have e1 := toNat_succ hk.1
    refine Eq.round _ _ ⟨k + 1, _, rfl, by omega, by rw [e1, take_snoc (d := 0) (by omega), cls0_at (by omega), if_neg (by rw [hac]; decide)]; exact Own.snocI ho25, E, hB4, rfl⟩ (by omega) (.cons rfl (.cons rfl (.cons rfl (.cons rfl (.cons rfl (.nil))))))
  refine Sq.nil ?_
  refine Eq.next ?_
  refine Cq.els rfl ?_
  refine Cq.exit ?_
  refine Eq.past ?_
  refine Eq.past ?_
  refine Eq.hit ?_
  refine Eq.next ?_
  refine Cq.seq ?_
  refine Cq.region ?_
  rw [List.take_of_length_le (by rw [cls0_length]; omega), show cls0 a = clsN a 0 from rfl] at hc0
  have hcl0 := clsN_length hv 0
  refine Sq.assign .plain rfl rfl ?_
  refine Sq.nil ?_
  refine Eq.next ?_
  refine Cq.seq ?_
  refine Cq.region ?_
  refine Sq.loadAgg agg29 .plain rfl rfl hB4 rfl ?_
  refine Sq.move .plain rfl rfl ?_
  have hd32 := hB4.lt
  refine Sq.call fn34 .plain rfl rfl (l5Refine_c _ a _ _ (hnx.ext E) (hac.ext E) hv cv (clsN a 0) (Own.row hc0) (by omega)) ?_
  rintro _ w28 ⟨⟨nv30, rfl, hl31⟩, e29⟩
  have hs33 := Below.size E
  have hs34 := Below.size e29
  replace E := E.trans e29
  replace hB4 := hB4.ext e29
  refine Sq.move .plain rfl rfl ?_
  refine Sq.extract .plain rfl rfl rfl ?_
  refine Sq.extract .plain rfl rfl rfl ?_
  refine Sq.assign .plain rfl rfl ?_
  refine Sq.assign .plain rfl rfl ?_
  refine Sq.nil ?_
  refine Eq.next ?_
  refine Cq.seq ?_
  refine Cq.block ?_
  refine Cq.loop (fun nn w ls => ∃ (r : Nat), ∃ (cv2 : Value), ∃ (p : Int), ∃ (m : Int), ls = [(1, Value.pointer (some ⟨b1, 0, none⟩)), (2, Value.slice none 0 0), (3, Value.int .i64 0), (4, cv2), (7, Value.int .i64 p), (8, Value.int .i64 m)] ∧ p = (mN a r : Int) ∧ m = (mN a (r + 1) : Int) ∧ Own w w0.heap.size 3 cv2 ((clsN a (r + 1)).map (Value.int .i64)) ∧ Ext w0 w ∧ Blk w b1 29 [Value.int .i64 a.al, nx, ac] ∧ nn = (a.next.length + 1 - mN a r)) _ _ ⟨0, _, 0, _, rfl, rfl, rfl, Own.mono hl31 (by omega), E, hB4, rfl⟩ (.cons rfl (.cons rfl (.cons rfl (.cons rfl (.cons rfl (.cons rfl (.nil))))))) ?_
  rintro nn wl2 ls ⟨r, cv2, p, m, rfl, hp, hm, hcv, E, hB4, rfl⟩
  have hs35 := Below.size E
  have hmm := mN_mono hv r
  have hml := mN_le (a := a) (r + 1)
  have hcl := clsN_length hv (r + 1)
  refine Cq.seq ?_
  refine Cq.seq ?_
  refine Cq.region ?_
  refine Sq.move .plain rfl rfl ?_
  refine Sq.move .plain rfl rfl ?_
  refine Sq.gtr .plain rfl rfl rfl ?_
  refine Sq.part (fun c36 => ?_) (fun c36 => ?_)
  · refine Sq.nil ?_
    refine Eq.next ?_
    refine Cq.thn rfl ?_
    refine Cq.skip ?_
    refine Eq.next ?_
    refine Cq.block ?_
    refine Cq.seq ?_
    refine Cq.region ?_
    refine Sq.move .plain rfl rfl ?_
    refine Sq.assign .plain rfl rfl ?_
    refine Sq.nil ?_
    refine Eq.next ?_
    refine Cq.region ?_
    refine Sq.loadAgg agg29 .plain rfl rfl hB4 rfl ?_
    refine Sq.move .plain rfl rfl ?_
    have hd42 := hB4.lt
    refine Sq.call fn34 .plain rfl rfl (l5Refine_c _ a _ _ (hnx.ext E) (hac.ext E) hv cv2 ((clsN a (r + 1))) (Own.row hcv) (by omega)) ?_
    rintro _ w38 ⟨⟨nv40, rfl, hl41⟩, e39⟩
    have hs43 := Below.size E
    have hs44 := Below.size e39
    replace E := E.trans e39
    replace hB4 := hB4.ext e39
    refine Sq.move .plain rfl rfl ?_
    refine Sq.extract .plain rfl rfl rfl ?_
    refine Sq.extract .plain rfl rfl rfl ?_
    refine Sq.assign .plain rfl rfl ?_
    refine Sq.assign .plain rfl rfl ?_
    refine Sq.nil ?_
    refine Eq.end ?_
    refine Eq.round _ _ ⟨r + 1, _, _, _, rfl, hm, rfl, Own.mono hl41 (by omega), E, hB4, rfl⟩ (by omega) (.cons rfl (.cons rfl (.cons rfl (.cons rfl (.cons rfl (.cons rfl (.nil)))))))
  refine Sq.nil ?_
  refine Eq.next ?_
  refine Cq.els rfl ?_
  refine Cq.exit ?_
  refine Eq.past ?_
  refine Eq.past ?_
  refine Eq.hit ?_
  refine Eq.next ?_
  refine Cq.seq ?_
  refine Cq.region ?_
  refine Sq.move .plain rfl rfl ?_
  refine Sq.move .plain rfl rfl ?_
  refine Sq.assign .plain rfl rfl ?_
  refine Sq.assign .plain rfl rfl ?_
  refine Sq.nil ?_
  refine Eq.next ?_
  refine Cq.ret ?_
  refine Eq.ret2 rfl rfl rfl ?_
  have hf := classes_found hv (r := r) (by omega)
  have hcN : (nCls a : Int) = p := by rw [nCls, ← hf, mN_cls]; omega
  exact ⟨⟨_, by rw [hcN], by rw [← hf]; exact hcv⟩, E⟩
set_option maxRecDepth 100000 in
theorem sClasses_c (w0 : World) (a : A) (nx ac : Value) (hnx : Rows w0 27 3 nx a.next) (hac : Bools w0 4 ac a.acc) : Ret Tryd.prog 6 #[Value.agg #[Value.int .i64 a.al, nx, ac]] w0 (fun v w => Own w w0.heap.size 3 v ((clsA a).map (Value.int .i64)) ∧ Ext w0 w) := by
  have E := Ext.refl w0
  refine Ret.of (args := [Value.agg #[Value.int .i64 a.al, nx, ac]]) Tryd.func6 rfl rfl rfl ?_
  rintro _ rfl
  show Cq _ _ _ _ [(0, Value.agg #[Value.int .i64 a.al, nx, ac])] _
  refine Cq.seq ?_
  refine Cq.region ?_
  refine Sq.box .plain rfl rfl (fun b1 w2 e3 hB4 hlo5 => ?_)
  have hd6 := Nat.le_trans (Below.size E) hlo5
  have hs7 := Below.size e3
  replace E := E.trans e3
  refine Sq.assign .plain rfl rfl ?_
  refine Sq.nil ?_
  refine Eq.next ?_
  refine Cq.seq ?_
  refine Cq.seq ?_
  refine Cq.region ?_
  refine Sq.loadAgg agg29 .plain rfl rfl hB4 rfl ?_
  have hd11 := hB4.lt
  refine Sq.call fn18 .plain rfl rfl (sValid_c _ a _ _ (hnx.ext E) (hac.ext E)) ?_
  rintro _ w9 ⟨rfl, e10⟩
  have hs12 := Below.size E
  have hs13 := Below.size e10
  replace E := E.trans e10
  replace hB4 := hB4.ext e10
  refine Sq.partB (fun hv => ?_) (fun hv => ?_)
  · refine Sq.notT .plain rfl rfl ?_
    refine Sq.nil ?_
    refine Eq.next ?_
    refine Cq.els rfl ?_
    refine Cq.skip ?_
    refine Eq.next ?_
    refine Cq.seq ?_
    refine Cq.region ?_
    refine Sq.loadAgg agg29 .plain rfl rfl hB4 rfl ?_
    have hd19 := hB4.lt
    refine Sq.call fn19 .plain rfl rfl (l5Classes_c _ a _ _ (hnx.ext E) (hac.ext E) hv) ?_
    rintro _ w15 ⟨⟨nv17, rfl, hl18⟩, e16⟩
    have hs20 := Below.size E
    have hs21 := Below.size e16
    replace E := E.trans e16
    refine Sq.move .plain rfl rfl ?_
    refine Sq.extract .plain rfl rfl rfl ?_
    refine Sq.extract .plain rfl rfl rfl ?_
    refine Sq.assign .plain rfl rfl ?_
    refine Sq.assign .plain rfl rfl ?_
    refine Sq.nil ?_
    refine Eq.next ?_
    refine Cq.seq ?_
    refine Cq.region ?_
    refine Sq.move .plain rfl rfl ?_
    refine Sq.assign .plain rfl rfl ?_
    refine Sq.nil ?_
    refine Eq.next ?_
    refine Cq.ret ?_
    refine Eq.ret1 rfl rfl ?_
    exact ⟨by rw [clsA_yes hv]; exact Own.mono hl18 (by omega), E⟩
  refine Sq.notF .plain rfl rfl ?_
  refine Sq.nil ?_
  refine Eq.next ?_
  refine Cq.thn rfl ?_
  refine Cq.seq ?_
  refine Cq.region ?_
  refine Sq.assign .plain rfl rfl ?_
  refine Sq.nil ?_
  refine Eq.next ?_
  refine Cq.ret ?_
  refine Eq.pastRet ?_
  refine Eq.ret1 rfl rfl ?_
  exact ⟨by rw [clsA_no hv]; exact Own.nil _ _ _, E⟩
end Go.Proofs.YtdkdpmmfebdeaaaDoor
set_option linter.unusedSimpArgs false
set_option linter.unusedVariables false
namespace Go.Proofs.YtdkdpmmfebdeaaaDoor
open Go.RowKit
def LenOk (n : Nat) : Prop := n ≤ 9223372036854775807
def IntsX (w : World) (v : Value) (xs : List Int) : Prop := LenOk xs.length ∧ ∃ e, Ints w e v xs
def BoolsX (w : World) (v : Value) (xs : List Bool) : Prop := LenOk xs.length ∧ ∃ e, Bools w e v xs
def RowsX (w : World) (v : Value) (xss : List (List Int)) : Prop := LenOk xss.length ∧ ∃ e rs, Row w e v rs ∧ rs.length = xss.length ∧ ∀ (i : Nat) (r : Value), rs[i]? = some r → IntsX w r (xss.getD i [])
section
variable {w w' : World} {v : Value} {xs : List Int} {ys : List Bool} {xss : List (List Int)}
theorem IntsX.ext (h : IntsX w v xs) (x : Ext w w') : IntsX w' v xs := ⟨h.1, h.2.elim fun e h => ⟨e, h.ext x⟩⟩
theorem BoolsX.ext (h : BoolsX w v ys) (x : Ext w w') : BoolsX w' v ys := ⟨h.1, h.2.elim fun e h => ⟨e, h.ext x⟩⟩
theorem RowsX.ext (h : RowsX w v xss) (x : Ext w w') : RowsX w' v xss := by
  obtain ⟨hl, e, rs, h1, h2, h3⟩ := h
  exact ⟨hl, e, rs, h1.ext x, h2, fun i r hr => (h3 i r hr).ext x⟩
theorem RowsX.at (h : RowsX w v xss) {i : Int} (hi : 0 ≤ i) (hlt : i.toNat < xss.length) : ∃ e p r, At w e v i p r ∧ IntsX w r (xss.getD i.toNat []) := by
  obtain ⟨hl, e, rs, h1, h2, h3⟩ := h
  have hl : i.toNat < rs.length := by omega
  obtain ⟨p, hp⟩ := h1.at hi hl
  exact ⟨e, p, rs[i.toNat], hp, h3 _ _ (List.getElem?_eq_getElem hl)⟩
theorem RowsX.len (h : RowsX w v xss) : ∃ e rs, Row w e v rs ∧ rs.length = xss.length := by
  obtain ⟨hl, e, rs, h1, h2, _⟩ := h
  exact ⟨e, rs, h1, h2⟩
end
def SmX (a : A) : Prop := a.next.length ≤ 1048576 ∧ (∀ r ∈ a.next, r.length ≤ 1048576) ∧ a.acc.length ≤ 1048576
theorem fill_step {α : Type} {xs : List α} {d : α} {k : Nat} (hk : k < xs.length) : (xs.take k ++ List.replicate (xs.length - k) d).set k (xs.getD k d) = xs.take (k + 1) ++ List.replicate (xs.length - (k + 1)) d := by
  apply List.ext_getElem?
  intro i
  have e1 : (xs.take k).length = k := by rw [List.length_take]; omega
  have e2 : (xs.take (k + 1)).length = k + 1 := by rw [List.length_take]; omega
  rw [List.getElem?_set]
  by_cases h : k = i
  · subst h
    rw [if_pos rfl, if_pos (by simp; omega), List.getElem?_append_left (by omega), List.getElem?_take, if_pos (by omega), List.getD_eq_getElem?_getD, List.getElem?_eq_getElem hk]
    rfl
  · rw [if_neg h]
    rcases Nat.lt_or_ge i k with h1 | h1
    · rw [List.getElem?_append_left (by omega), List.getElem?_append_left (by omega), List.getElem?_take, List.getElem?_take, if_pos h1, if_pos (by omega)]
    · rw [List.getElem?_append_right (by omega), List.getElem?_append_right (by omega), e1, e2, List.getElem?_replicate, List.getElem?_replicate]
      by_cases h2 : i < xs.length
      · rw [if_pos (by omega), if_pos (by omega)]
      · rw [if_neg (by omega), if_neg (by omega)]
def fillTo {α : Type} (xs : List α) (d : α) (k : Nat) : List α := xs.take k ++ List.replicate (xs.length - k) d
theorem fillTo_zero {α : Type} (xs : List α) (d : α) : fillTo xs d 0 = List.replicate xs.length d := by simp [fillTo]
theorem fillTo_succ {α : Type} {xs : List α} {d : α} {k : Nat} (hk : k < xs.length) : (fillTo xs d k).set k (xs.getD k d) = fillTo xs d (k + 1) := fill_step hk
theorem fillTo_all {α : Type} {xs : List α} {d : α} {k : Nat} (hk : xs.length ≤ k) : fillTo xs d k = xs := by
  unfold fillTo
  rw [List.take_of_length_le hk, Nat.sub_eq_zero_of_le hk]
  simp
theorem fillTo_length {α : Type} (xs : List α) (d : α) {k : Nat} (hk : k ≤ xs.length) : (fillTo xs d k).length = xs.length := by
  unfold fillTo
  simp
  omega
section
variable {w w' : World} {B U : Nat} {e e' : TypeId} {v : Value} {xss : List (List Int)}
theorem OwnRows.made {n : Nat} (h : Own w B e v (List.replicate n (Value.slice Option.none 0 0))) : OwnRows w B U e e' v (List.replicate n []) :=
  ⟨_, h, by simp, fun i r hr => by
    have h1 := List.mem_of_getElem? hr
    obtain rfl := (List.mem_replicate.1 h1).2
    have e1 : (List.replicate n ([] : List Int)).getD i [] = [] := by
      rw [List.getD_eq_getElem?_getD, List.getElem?_replicate]
      split <;> rfl
    rw [e1]
    exact ⟨Own.nil _ _ _, fun k hk => by cases hk⟩, fun i j r r' hr hr' _ k hk => by
    have h1 := List.mem_of_getElem? hr
    obtain rfl := (List.mem_replicate.1 h1).2
    cases hk⟩
theorem OwnRows.put (h : OwnRows w B U e e' v xss) (hne : e ≠ e') : ∃ rs, Own w B e v rs ∧ rs.length = xss.length ∧
    ∀ i r ys w', i < xss.length → Own w U e' r (ys.map (Value.int .i64)) → B ≤ U → Own w' B e v (rs.set i r) → w.grownBy w' v.ownBlock → OwnRows w' B w'.heap.size e e' v (xss.set i ys) := by
  obtain ⟨rs, h1, h2, h3, h4⟩ := h
  refine ⟨rs, h1, h2, fun i r ys w' hi hr hBU hv hg => ?_⟩
  have hr' := hr.owned h1 hg hne
  have hrow : ∀ j q, (rs.set i r)[j]? = some q → (j = i ∧ q = r) ∨ (j ≠ i ∧ rs[j]? = some q) := by
    intro j q hq
    rw [List.getElem?_set] at hq
    split at hq
    · rename_i hij
      rw [if_pos (by omega)] at hq
      exact .inl ⟨hij.symm, (Option.some.inj hq).symm⟩
    · rename_i hij
      exact .inr ⟨fun h => hij h.symm, hq⟩
  refine ⟨rs.set i r, hv, by simp [h2], fun j q hq => ?_, fun j k q q' hq hq' hjk b hb hb' => ?_⟩
  · rcases hrow j q hq with ⟨rfl, rfl⟩ | ⟨hji, hq2⟩
    · have e1 : (xss.set j ys).getD j [] = ys := by simp [hi]
      rw [e1]
      exact ⟨hr'.mono hBU, fun b hb => (hr'.lt b hb).2⟩
    · have e1 : (xss.set i ys).getD j [] = xss.getD j [] := by simp [List.getElem?_set_ne (fun h => hji h.symm)]
      rw [e1]
      have ho := (h3 j q hq2).1.owned h1 hg hne
      exact ⟨ho, fun b hb => (ho.lt b hb).2⟩
  · rcases hrow j q hq with ⟨rfl, rfl⟩ | ⟨hji, hq2⟩ <;> rcases hrow k q' hq' with ⟨rfl, rfl⟩ | ⟨hki, hq2'⟩
    · exact hjk rfl
    · have a1 := ((h3 k q' hq2').2 b hb')
      have a2 := (hr.lt b hb).1
      omega
    · have a1 := ((h3 j q hq2).2 b hb)
      have a2 := (hr.lt b hb').1
      omega
    · exact h4 j k q q' hq2 hq2' hjk b hb hb'
end
section
variable {H : Type} {enc : TypeId × Value → H} {P : Program} {w : World} {base : Nat} {sp : Nat → Bool} {held : Bool}
theorem row_of {x : Addr} {cap : Nat} {vs : List Value} (h : ∀ (i : Nat) (u : Value), vs[i]? = some u → w.cell? (x.add i) = some u) : ∃ e, Row w e (.slice (some x) vs.length cap) vs := by
  cases vs with
  | nil => exact ⟨0, .inl ⟨rfl, some x, cap, rfl, fun h => by cases h⟩⟩
  | cons v0 vs =>
    obtain ⟨b, o, s⟩ := x
    have hc := h 0 v0 rfl
    have hs : s = none := by simpa [Addr.add] using World.cell?_spot hc
    subst hs
    have hb : ∃ cur e fr, w.heap[b]? = some (.cells cur e fr) := by
      rw [addr_add] at hc
      unfold World.cell? at hc
      simp only at hc
      cases hw : w.heap[b]? with
      | none => rw [hw] at hc; simp at hc
      | some ob =>
        rw [hw] at hc
        cases ob <;> simp at hc
        rename_i cur e fr
        exact ⟨cur, e, fr, rfl⟩
    obtain ⟨cur, e, fr, hb⟩ := hb
    refine ⟨e, .inr ⟨b, o, cap, cur, fr, rfl, hb, fun i y hy => ?_⟩⟩
    have h1 := h i y hy
    rw [addr_add] at h1
    simpa [World.cell?, hb] using h1
theorem elems_of {t e : TypeId} {fuel : Nat} {v : Value} {x : DataW H × List MemPlace} (ht : P.underlying t = some (.slice e)) (hc : P.cellsOf e = 1) (h : DataW.trod enc P w base sp held fuel t [v] = some x) :
    ∃ vs : List Value, LenOk vs.length ∧ (∃ e', Row w e' v vs) ∧ ∀ (i : Nat) (u : Value), vs[i]? = some u → ∃ n y, DataW.trod enc P w base sp held n e [u] = some y := by
  rcases DataW.trod_slice ht h with ⟨h0, _⟩ | ⟨a, len, cap, elems, rest, n, _, hcs, _, _, hl, hm, hlen, hel, _, _⟩
  · obtain rfl : v = .slice none 0 0 := by simpa using h0
    exact ⟨[], by unfold LenOk; decide, ⟨0, Row.nil _ _⟩, by simp⟩
  · obtain rfl : v = .slice (some a) len cap := by simpa using hcs
    have each : ∀ i, i < len → ∃ u, w.cell? (a.add i) = some u ∧ ∃ y, DataW.trod enc P w base sp held n e [u] = some y := fun i hi => by
      have h1 := hel i hi
      rw [List.getElem?_eq_getElem (by omega), hc, Nat.mul_one, Option.bind_eq_some_iff] at h1
      obtain ⟨cs', h2, h3⟩ := h1
      have hsz := (World.cells?_some h2).2.1
      match cs', hsz with
      | [u], _ => exact ⟨u, ChangeShapes.cell_of_cells?_one h2, _, h3⟩
    let vs := (List.range len).map fun i => (w.cell? (a.add i)).getD (.bool false)
    have hvs : vs.length = len := by simp [vs]
    have hat : ∀ (i : Nat) (u : Value), vs[i]? = some u → i < len ∧ w.cell? (a.add i) = some u := fun i u hu => by
      have hi : i < len := by have := (List.getElem?_eq_some_iff.1 hu).1; omega
      obtain ⟨u', h1, _⟩ := each i hi
      simp [vs, hi, h1] at hu
      exact ⟨hi, by rw [h1, hu]⟩
    refine ⟨vs, ?_, ?_, fun i u hu => ?_⟩
    · unfold LenOk
      simp only [maxLen] at hm
      omega
    · have := row_of (w := w) (x := a) (cap := cap) (vs := vs) fun i u hu => (hat i u hu).2
      rw [hvs] at this
      exact this
    · obtain ⟨h1, h2⟩ := hat i u hu
      obtain ⟨u', h3, y, h4⟩ := each i h1
      rw [h2] at h3
      obtain rfl := Option.some.inj h3
      exact ⟨n, y, h4⟩
theorem choose_list {α : Type} {p : Value → α → Prop} : ∀ {vs : List Value}, (∀ u ∈ vs, ∃ a, p u a) → ∃ aas : List α, aas.length = vs.length ∧ ∀ (i : Nat) (u : Value), vs[i]? = some u → ∃ a, aas[i]? = some a ∧ p u a
  | [], _ => ⟨[], rfl, by simp⟩
  | v :: vs, h => by
    obtain ⟨a, ha⟩ := h v (by simp)
    obtain ⟨aas, h1, h2⟩ := choose_list (vs := vs) fun u hu => h u (by simp [hu])
    refine ⟨a :: aas, by simp [h1], fun i u hu => ?_⟩
    cases i with
    | zero => obtain rfl : v = u := by simpa using hu
              exact ⟨a, rfl, ha⟩
    | succ i => exact h2 i u (by simpa using hu)
theorem map_of {α : Type} {g : α → Value} {vs : List Value} (h : ∀ u ∈ vs, ∃ a, u = g a) : ∃ aas : List α, vs = aas.map g := by
  obtain ⟨aas, h1, h2⟩ := choose_list h
  refine ⟨aas, ?_⟩
  apply List.ext_getElem?
  intro i
  rcases Nat.lt_or_ge i vs.length with hi | hi
  · obtain ⟨a, ha, hu⟩ := h2 i _ (List.getElem?_eq_getElem hi)
    rw [List.getElem?_eq_getElem hi, List.getElem?_map, ha, hu]
    rfl
  · rw [List.getElem?_eq_none hi, List.getElem?_eq_none (by simp; omega)]
theorem ints_came {t e : TypeId} {fuel : Nat} {v : Value} {x : DataW H × List MemPlace} (ht : P.underlying t = some (.slice e)) (he : P.underlying e = some (.int .i64)) (hc : P.cellsOf e = 1) (h : DataW.trod enc P w base sp held fuel t [v] = some x) : ∃ xs, IntsX w v xs := by
  obtain ⟨vs, hl, ⟨e', hr⟩, hat⟩ := elems_of ht hc h
  obtain ⟨xs, rfl⟩ := map_of (g := Value.int .i64) (vs := vs) fun u hu => by
    obtain ⟨i, hi⟩ := List.getElem?_of_mem hu
    obtain ⟨n, y, hy⟩ := hat i u hi
    obtain ⟨m, hm, _⟩ := DataW.trod_int he hy
    exact ⟨m, by simpa using hm⟩
  exact ⟨xs, by simpa using hl, e', hr⟩
theorem bools_came {t e : TypeId} {fuel : Nat} {v : Value} {x : DataW H × List MemPlace} (ht : P.underlying t = some (.slice e)) (he : P.underlying e = some .bool) (hc : P.cellsOf e = 1) (h : DataW.trod enc P w base sp held fuel t [v] = some x) : ∃ xs, BoolsX w v xs := by
  obtain ⟨vs, hl, ⟨e', hr⟩, hat⟩ := elems_of ht hc h
  obtain ⟨xs, rfl⟩ := map_of (g := Value.bool) (vs := vs) fun u hu => by
    obtain ⟨i, hi⟩ := List.getElem?_of_mem hu
    obtain ⟨n, y, hy⟩ := hat i u hi
    obtain ⟨m, hm, _⟩ := DataW.trod_bool he hy
    exact ⟨m, by simpa using hm⟩
  exact ⟨xs, by simpa using hl, e', hr⟩
theorem rows_came {t s e : TypeId} {fuel : Nat} {v : Value} {x : DataW H × List MemPlace} (ht : P.underlying t = some (.slice s)) (hs : P.underlying s = some (.slice e)) (he : P.underlying e = some (.int .i64)) (hcs : P.cellsOf s = 1) (hc : P.cellsOf e = 1) (h : DataW.trod enc P w base sp held fuel t [v] = some x) : ∃ xss, RowsX w v xss := by
  obtain ⟨vs, hl, ⟨e', hr⟩, hat⟩ := elems_of ht hcs h
  obtain ⟨xss, h1, h2⟩ := choose_list (p := fun u xs => IntsX w u xs) (vs := vs) fun u hu => by
    obtain ⟨i, hi⟩ := List.getElem?_of_mem hu
    obtain ⟨n, y, hy⟩ := hat i u hi
    exact ints_came hs he hc hy
  refine ⟨xss, by rw [h1]; exact hl, e', vs, hr, h1.symm, fun i r hi => ?_⟩
  obtain ⟨a, ha, hp⟩ := h2 i r hi
  rw [List.getD_eq_getElem?_getD, ha]
  exact hp
end
end Go.Proofs.YtdkdpmmfebdeaaaDoor
set_option linter.unusedSimpArgs false
set_option linter.unusedVariables false
namespace Go.Proofs.YtdkdpmmfebdeaaaDoor
open Go.RowKit
structure Wrote (w w' : World) (B U : Nat) : Prop where
  os : w'.os = w.os
  tape : w'.tape = w.tape
  output : w'.output = w.output
  size : w.heap.size ≤ w'.heap.size
  block : ∀ k, k < w.heap.size → ¬ (B ≤ k ∧ k < U) → w'.heap[k]? = w.heap[k]?
section
variable {w w' w'' w0 : World} {B U B' U' b : Nat} {e e' t : TypeId} {v : Value} {vs cs : List Value} {xss : List (List Int)}
theorem Wrote.refl (w : World) (B U : Nat) : Wrote w w B U := ⟨rfl, rfl, rfl, Nat.le_refl _, fun _ _ _ => rfl⟩
theorem Wrote.trans (h : Wrote w w' B U) (k : Wrote w' w'' B U) : Wrote w w'' B U :=
  ⟨k.os.trans h.os, k.tape.trans h.tape, k.output.trans h.output, Nat.le_trans h.size k.size, fun i hi hn => (k.block i (Nat.lt_of_lt_of_le hi h.size) hn).trans (h.block i hi hn)⟩
theorem Wrote.of {r : Option Nat} (h : w.grownBy w' r) (hr : ∀ k, r = some k → B ≤ k ∧ k < U) : Wrote w w' B U :=
  ⟨h.os, h.tape, h.output, h.size, fun k hk hn => h.block k hk fun hc => hn (hr k hc.symm)⟩
theorem Wrote.ofExt (h : Ext w w') (B U : Nat) : Wrote w w' B U := ⟨h.os, h.tape, h.output, h.size, fun k hk _ => h.block k hk⟩
theorem Ext.wrote (h : Ext w0 w) (k : Wrote w w' B U) (hB : w0.heap.size ≤ B) : Ext w0 w' :=
  ⟨k.os.trans h.os, k.tape.trans h.tape, k.output.trans h.output, Nat.le_trans h.size k.size, fun i hi => (k.block i (Nat.lt_of_lt_of_le hi h.size) (by omega)).trans (h.block i hi)⟩
theorem Blk.wrote (h : Blk w b t cs) (k : Wrote w w' B U) (hb : ¬ (B ≤ b ∧ b < U)) : Blk w' b t cs := by
  simp only [Blk] at *
  rw [k.block b (lt_of_block h) hb]; exact h
theorem Own.wrote (h : Own w B' e v vs) (k : Wrote w w' B U) (hU : U ≤ B') : Own w' B' e v vs := by
  rcases h.cases with ⟨rfl, rfl⟩ | ⟨g, cap, cs, rfl, hg', hb, h3, h4, h5, h6⟩
  · exact Own.nil _ _ _
  · exact Own.mk hg' (hb.wrote k (by omega)) h3 h4 h5 h6
theorem OwnRows.wrote (h : OwnRows w B' U' e e' v xss) (k : Wrote w w' B U) (hU : U ≤ B') : OwnRows w' B' U' e e' v xss := by
  obtain ⟨rs, h1, h2, h3, h4⟩ := h
  exact ⟨rs, h1.wrote k hU, h2, fun i r hr => ⟨(h3 i r hr).1.wrote k hU, (h3 i r hr).2⟩, h4⟩
theorem OwnRows.rowLt (h : OwnRows w B U e e' v xss) {i : Int} {p : Addr} {r : Value} (ha : At w e v i p r) : ∀ k, r.ownBlock = some k → B ≤ k ∧ k < U := by
  have h0 := (h.rowAt ha).1
  obtain ⟨rs, h1, h2, h3, h4⟩ := h
  intro k hk
  refine ⟨(h0.lt k hk).1, ?_⟩
  obtain ⟨hc, ⟨b, o, c, n, rfl, rfl, h0, hn⟩, hty⟩ := ha
  rcases h1.cases with ⟨hv, _⟩ | ⟨g, cap, cs, hv, hB, hb, h5, h6, h7, h8⟩
  · simp at hv
  · simp only [Value.slice.injEq, Option.some.injEq, Addr.mk.injEq] at hv
    obtain ⟨⟨rfl, rfl, _⟩, rfl, rfl⟩ := hv
    rw [hb.cell] at hc
    have hlt : i.toNat < rs.length := by omega
    have : rs[i.toNat]? = some r := by
      rw [← h8, List.getElem?_take, if_pos hlt]
      simpa using hc
    exact (h3 _ _ this).2 k hk
end
def KeepT (w w' : World) (e : TypeId) : Prop := ∀ b t cs, Blk w b t cs → t ≠ e → Blk w' b t cs
theorem KeepT.refl (w : World) (e : TypeId) : KeepT w w e := fun _ _ _ h _ => h
theorem KeepT.next {w w' w'' : World} {e : TypeId} {B : Nat} {u : Value} {us : List Value} (h : KeepT w w' e) (ho : Own w' B e u us) (hg : w'.grownBy w'' u.ownBlock) : KeepT w w'' e := fun b t cs hb hne => (h b t cs hb hne).owned ho hg (fun hc => hne hc.symm)
theorem Own.kept {w w' : World} {e t : TypeId} {B : Nat} {v : Value} {vs : List Value} (h : Own w B t v vs) (k : KeepT w w' e) (hne : t ≠ e) : Own w' B t v vs := by
  rcases h.cases with ⟨rfl, rfl⟩ | ⟨g, cap, cs, rfl, hg', hb, h3, h4, h5, h6⟩
  · exact Own.nil _ _ _
  · exact Own.mk hg' (k _ _ _ hb hne) h3 h4 h5 h6
def upI (k : Int) (n : Nat) : List Int := (List.range n).map fun (i : Nat) => k + i
def upTo (k : Int) (xs : List Int) (m : Nat) : List Int := (List.range xs.length).map fun (i : Nat) => if i < m then k + i else xs.getD i 0
theorem upTo_zero (k : Int) (xs : List Int) : upTo k xs 0 = xs := by
  unfold upTo
  apply List.ext_getElem?
  intro i
  rw [List.getElem?_map]
  rcases Nat.lt_or_ge i xs.length with h | h
  · rw [List.getElem?_range h, List.getElem?_eq_getElem h]
    simp [h]
  · rw [List.getElem?_eq_none (by simpa using h), List.getElem?_eq_none h]; rfl
theorem upTo_length (k : Int) (xs : List Int) (m : Nat) : (upTo k xs m).length = xs.length := by simp [upTo]
theorem upTo_step {k : Int} {xs : List Int} {m : Nat} (h : m < xs.length) : (upTo k xs m).set m (k + m) = upTo k xs (m + 1) := by
  apply List.ext_getElem?
  intro i
  unfold upTo
  rw [List.getElem?_set]
  rcases Nat.lt_or_ge i xs.length with hi | hi
  · by_cases e : m = i
    · subst e
      rw [if_pos rfl, if_pos (by simpa using h), List.getElem?_map, List.getElem?_range hi]
      simp
    · rw [if_neg e, List.getElem?_map, List.getElem?_map, List.getElem?_range hi]
      simp only [Option.map_some]
      by_cases h1 : i < m
      · rw [if_pos h1, if_pos (by omega)]
      · rw [if_neg h1, if_neg (by omega)]
  · rw [if_neg (by omega), List.getElem?_eq_none (by simpa using hi), List.getElem?_eq_none (by simpa using hi)]
theorem upTo_all {k : Int} {xs : List Int} {m : Nat} (h : xs.length ≤ m) : upTo k xs m = upI k xs.length := by
  unfold upTo upI
  refine List.map_congr_left fun i hi => ?_
  rw [if_pos (by have := List.mem_range.1 hi; omega)]
theorem upI_at {k : Int} {n i : Nat} (h : i < n) : (upI k n).getD i 0 = k + i := by
  unfold upI
  rw [List.getD_eq_getElem?_getD, List.getElem?_map, List.getElem?_range h]; rfl
theorem upI_length (k : Int) (n : Nat) : (upI k n).length = n := by simp [upI]
def upB (k : Int) (n : Nat) : List Bool := (List.range n).map fun (i : Nat) => decide ((k + i) % 3 = 0)
def upBTo (k : Int) (xs : List Bool) (m : Nat) : List Bool := (List.range xs.length).map fun (i : Nat) => if i < m then decide ((k + i) % 3 = 0) else xs.getD i false
theorem upBTo_zero (k : Int) (xs : List Bool) : upBTo k xs 0 = xs := by
  unfold upBTo
  apply List.ext_getElem?
  intro i
  rw [List.getElem?_map]
  rcases Nat.lt_or_ge i xs.length with h | h
  · rw [List.getElem?_range h, List.getElem?_eq_getElem h]
    simp [h]
  · rw [List.getElem?_eq_none (by simpa using h), List.getElem?_eq_none h]; rfl
theorem upBTo_length (k : Int) (xs : List Bool) (m : Nat) : (upBTo k xs m).length = xs.length := by simp [upBTo]
theorem upBTo_step {k : Int} {xs : List Bool} {m : Nat} (h : m < xs.length) : (upBTo k xs m).set m (decide ((k + m) % 3 = 0)) = upBTo k xs (m + 1) := by
  apply List.ext_getElem?
  intro i
  unfold upBTo
  rw [List.getElem?_set]
  rcases Nat.lt_or_ge i xs.length with hi | hi
  · by_cases e : m = i
    · subst e
      rw [if_pos rfl, if_pos (by simpa using h), List.getElem?_map, List.getElem?_range hi]
      simp
    · rw [if_neg e, List.getElem?_map, List.getElem?_map, List.getElem?_range hi]
      simp only [Option.map_some]
      by_cases h1 : i < m
      · rw [if_pos h1, if_pos (by omega)]
      · rw [if_neg h1, if_neg (by omega)]
  · rw [if_neg (by omega), List.getElem?_eq_none (by simpa using hi), List.getElem?_eq_none (by simpa using hi)]
theorem upBTo_all {k : Int} {xs : List Bool} {m : Nat} (h : xs.length ≤ m) : upBTo k xs m = upB k xs.length := by
  unfold upBTo upB
  refine List.map_congr_left fun i hi => ?_
  rw [if_pos (by have := List.mem_range.1 hi; omega)]
def offR (xss : List (List Int)) : Nat → Int
  | 0 => 0
  | i + 1 => offR xss i + ((xss.getD i []).length : Int)
theorem offR_nonneg (xss : List (List Int)) : ∀ i, 0 ≤ offR xss i
  | 0 => Int.le_refl _
  | i + 1 => by have := offR_nonneg xss i; rw [offR]; omega
theorem offR_le {xss : List (List Int)} (h : ∀ r ∈ xss, r.length ≤ 1048576) : ∀ i, offR xss i ≤ (i : Int) * 1048576
  | 0 => by simp [offR]
  | i + 1 => by
    have h1 := offR_le h i
    have h2 : (xss.getD i []).length ≤ 1048576 := by
      rcases Nat.lt_or_ge i xss.length with hi | hi
      · exact h _ (getD_mem hi)
      · rw [List.getD_eq_getElem?_getD, List.getElem?_eq_none hi]; exact Nat.zero_le _
    rw [offR]
    have : ((i + 1 : Nat) : Int) * 1048576 = (i : Int) * 1048576 + 1048576 := by rw [Int.natCast_add, Int.add_mul]; omega
    omega
def rowsTo (xss : List (List Int)) (k : Int) (m : Nat) : List (List Int) := (List.range xss.length).map fun (i : Nat) => if i < m then upI (k + offR xss i) (xss.getD i []).length else xss.getD i []
def markR (xss : List (List Int)) (k : Int) : List (List Int) := (List.range xss.length).map fun (i : Nat) => upI (k + offR xss i) (xss.getD i []).length
theorem rowsTo_zero (xss : List (List Int)) (k : Int) : rowsTo xss k 0 = xss := by
  unfold rowsTo
  apply List.ext_getElem?
  intro i
  rw [List.getElem?_map]
  rcases Nat.lt_or_ge i xss.length with h | h
  · rw [List.getElem?_range h, List.getElem?_eq_getElem h]
    simp [h]
  · rw [List.getElem?_eq_none (by simpa using h), List.getElem?_eq_none h]; rfl
theorem rowsTo_length (xss : List (List Int)) (k : Int) (m : Nat) : (rowsTo xss k m).length = xss.length := by simp [rowsTo]
theorem rowsTo_at {xss : List (List Int)} {k : Int} {m : Nat} (h : m < xss.length) : (rowsTo xss k m).getD m [] = xss.getD m [] := by
  unfold rowsTo
  rw [List.getD_eq_getElem?_getD, List.getElem?_map, List.getElem?_range h]
  simp
theorem rowsTo_step {xss : List (List Int)} {k : Int} {m : Nat} (h : m < xss.length) : (rowsTo xss k m).set m (upI (k + offR xss m) (xss.getD m []).length) = rowsTo xss k (m + 1) := by
  apply List.ext_getElem?
  intro i
  unfold rowsTo
  rw [List.getElem?_set]
  rcases Nat.lt_or_ge i xss.length with hi | hi
  · by_cases e : m = i
    · subst e
      rw [if_pos rfl, if_pos (by simpa using h), List.getElem?_map, List.getElem?_range hi]
      simp
    · rw [if_neg e, List.getElem?_map, List.getElem?_map, List.getElem?_range hi]
      simp only [Option.map_some]
      by_cases h1 : i < m
      · rw [if_pos h1, if_pos (by omega)]
      · rw [if_neg h1, if_neg (by omega)]
  · rw [if_neg (by omega), List.getElem?_eq_none (by simpa using hi), List.getElem?_eq_none (by simpa using hi)]
theorem rowsTo_all {xss : List (List Int)} {k : Int} {m : Nat} (h : xss.length ≤ m) : rowsTo xss k m = markR xss k := by
  unfold rowsTo markR
  refine List.map_congr_left fun i hi => ?_
  rw [if_pos (by have := List.mem_range.1 hi; omega)]
def sumR (xss : List (List Int)) : Int := offR xss xss.length
def cntA (a : A) : Int := sumR a.next + (a.acc.length : Int)
theorem cntA_nonneg (a : A) : 0 ≤ cntA a := by have := offR_nonneg a.next a.next.length; unfold cntA sumR; omega
theorem cntA_le {a : A} (h : SmX a) : 0 ≤ sumR a.next ∧ sumR a.next ≤ 1099511627776 ∧ cntA a ≤ 1099512676352 := by
  have h1 := offR_le h.2.1 a.next.length
  have h0 := offR_nonneg a.next a.next.length
  have h2 : (a.next.length : Int) * 1048576 ≤ 1048576 * 1048576 := Int.mul_le_mul_of_nonneg_right (by have := h.1; omega) (by decide)
  have h3 := h.2.2
  unfold cntA sumR
  omega
end Go.Proofs.YtdkdpmmfebdeaaaDoor
set_option linter.unusedSimpArgs false
set_option linter.unusedVariables false
namespace Go.Proofs.YtdkdpmmfebdeaaaDoor
open Go.RowKit
set_option maxRecDepth 100000 in
theorem markI_c (w0 : World) (B : Nat) (r : Value) (xs : List Int) (k : Int) (ho : Own w0 B 3 r (xs.map (Value.int .i64))) (hl : xs.length ≤ 1048576) (hk : 0 ≤ k ∧ k ≤ 4611686018427387904) : Ret Tryd.prog 12 #[r, Value.int .i64 k] w0 (fun v w => v = .int .i64 (k + xs.length) ∧ Own w B 3 r ((upI k xs.length).map (Value.int .i64)) ∧ w0.grownBy w r.ownBlock) := by
  have hgo := World.grownBy.refl w0 r.ownBlock
  refine Ret.of (args := [r, Value.int .i64 k]) Tryd.func12 rfl rfl rfl ?_
  rintro _ rfl
  show Cq _ _ _ _ [(0, r), (1, Value.int .i64 k)] _
  refine Cq.seq ?_
  refine Cq.region ?_
  refine Sq.assign .plain rfl rfl ?_
  refine Sq.nil ?_
  refine Eq.next ?_
  refine Cq.seq ?_
  refine Cq.seq ?_
  refine Cq.region ?_
  refine Sq.assign .plain rfl rfl ?_
  refine Sq.nil ?_
  refine Eq.next ?_
  refine Cq.block ?_
  refine Cq.loop (fun nn w ls => ∃ (i : Int), ∃ (p : Int), ls = [(0, r), (1, Value.int .i64 p), (5, Value.int .i64 i)] ∧ (0 ≤ i ∧ i ≤ xs.length) ∧ p = k + i ∧ Own w B 3 r ((upTo k xs i.toNat).map (Value.int .i64)) ∧ World.grownBy w0 w r.ownBlock ∧ nn = ((xs.length : Int) - i).toNat) _ _ ⟨0, _, rfl, by omega, by omega, by rw [show (0 : Int).toNat = 0 from rfl, upTo_zero]; exact ho, hgo, rfl⟩ (.cons rfl (.cons rfl (.cons rfl (.nil)))) ?_
  rintro nn wl1 ls ⟨i, p, rfl, hi, hp, ho, hgo, rfl⟩
  have hul := upTo_length k xs i.toNat
  refine Cq.seq ?_
  refine Cq.seq ?_
  refine Cq.region ?_
  refine Sq.move .plain rfl rfl ?_
  refine Sq.move .plain rfl rfl ?_
  refine Sq.lenInts (Own.row ho) .plain rfl und27 rfl ?_
  refine Sq.lss .plain rfl rfl rfl ?_
  refine Sq.part (fun c1 => ?_) (fun c1 => ?_)
  · refine Sq.nil ?_
    refine Eq.next ?_
    refine Cq.thn rfl ?_
    refine Cq.skip ?_
    refine Eq.next ?_
    refine Cq.seq ?_
    refine Cq.block ?_
    refine Cq.seq ?_
    refine Cq.region ?_
    refine Sq.move .plain rfl rfl ?_
    refine Sq.move .plain rfl rfl ?_
    refine Sq.move .plain rfl rfl ?_
    obtain ⟨p2, hp3o⟩ := Own.at ho (i := i) (by omega) (by first | (simp only [List.length_map]; omega) | (simp; omega))
    refine Sq.atO sl27 hp3o .plain rfl rfl rfl ?_
    refine Sq.storeO one3 ho hp3o .plain rfl rfl rfl (fun w4 g5 ho6 => ?_)
    have hs7 := World.grownBy.size g5
    replace hgo := grown_trans hgo g5
    replace ho := ho6
    refine Sq.nil ?_
    refine Eq.next ?_
    refine Cq.region ?_
    refine Sq.move .plain rfl rfl ?_
    refine Sq.add .plain rfl rfl rfl (by omega) ?_
    refine Sq.assign .plain rfl rfl ?_
    refine Sq.nil ?_
    refine Eq.end ?_
    refine Eq.next ?_
    refine Cq.region ?_
    refine Sq.move .plain rfl rfl ?_
    refine Sq.add .plain rfl rfl rfl (by omega) ?_
    refine Sq.assign .plain rfl rfl ?_
    refine Sq.nil ?_
    have e1 := toNat_succ hi.1
    have e3 : ((i.toNat : Nat) : Int) = i := Int.toNat_of_nonneg hi.1
    refine Eq.round _ _ ⟨i + 1, _, rfl, by omega, by omega, by rw [e1, ← upTo_step (by omega), List.map_set, e3, ← hp]; exact ho, hgo, rfl⟩ (by omega) (.cons rfl (.cons rfl (.cons rfl (.nil))))
  refine Sq.nil ?_
  refine Eq.next ?_
  refine Cq.els rfl ?_
  refine Cq.exit ?_
  refine Eq.past ?_
  refine Eq.past ?_
  refine Eq.hit ?_
  refine Eq.next ?_
  refine Cq.seq ?_
  refine Cq.region ?_
  refine Sq.move .plain rfl rfl ?_
  refine Sq.assign .plain rfl rfl ?_
  refine Sq.nil ?_
  refine Eq.next ?_
  refine Cq.ret ?_
  refine Eq.ret1 rfl rfl ?_
  rw [upTo_all (by omega)] at ho
  exact ⟨by rw [hp, show i = xs.length by omega], ho, hgo⟩
set_option maxRecDepth 100000 in
theorem markB_c (w0 : World) (B : Nat) (r : Value) (xs : List Bool) (k : Int) (ho : Own w0 B 4 r (xs.map (Value.bool))) (hl : xs.length ≤ 1048576) (hk : 0 ≤ k ∧ k ≤ 4611686018427387904) : Ret Tryd.prog 27 #[r, Value.int .i64 k] w0 (fun v w => v = .int .i64 (k + xs.length) ∧ Own w B 4 r ((upB k xs.length).map (Value.bool)) ∧ w0.grownBy w r.ownBlock) := by
  have hgo := World.grownBy.refl w0 r.ownBlock
  refine Ret.of (args := [r, Value.int .i64 k]) Tryd.func27 rfl rfl rfl ?_
  rintro _ rfl
  show Cq _ _ _ _ [(0, r), (1, Value.int .i64 k)] _
  refine Cq.seq ?_
  refine Cq.region ?_
  refine Sq.assign .plain rfl rfl ?_
  refine Sq.nil ?_
  refine Eq.next ?_
  refine Cq.seq ?_
  refine Cq.seq ?_
  refine Cq.region ?_
  refine Sq.assign .plain rfl rfl ?_
  refine Sq.nil ?_
  refine Eq.next ?_
  refine Cq.block ?_
  refine Cq.loop (fun nn w ls => ∃ (i : Int), ∃ (p : Int), ls = [(0, r), (1, Value.int .i64 p), (5, Value.int .i64 i)] ∧ (0 ≤ i ∧ i ≤ xs.length) ∧ p = k + i ∧ Own w B 4 r ((upBTo k xs i.toNat).map (Value.bool)) ∧ World.grownBy w0 w r.ownBlock ∧ nn = ((xs.length : Int) - i).toNat) _ _ ⟨0, _, rfl, by omega, by omega, by rw [show (0 : Int).toNat = 0 from rfl, upBTo_zero]; exact ho, hgo, rfl⟩ (.cons rfl (.cons rfl (.cons rfl (.nil)))) ?_
  rintro nn wl1 ls ⟨i, p, rfl, hi, hp, ho, hgo, rfl⟩
  have hul := upBTo_length k xs i.toNat
  refine Cq.seq ?_
  refine Cq.seq ?_
  refine Cq.region ?_
  refine Sq.move .plain rfl rfl ?_
  refine Sq.move .plain rfl rfl ?_
  refine Sq.lenBools (Own.row ho) .plain rfl und23 rfl ?_
  refine Sq.lss .plain rfl rfl rfl ?_
  refine Sq.part (fun c1 => ?_) (fun c1 => ?_)
  · refine Sq.nil ?_
    refine Eq.next ?_
    refine Cq.thn rfl ?_
    refine Cq.skip ?_
    refine Eq.next ?_
    refine Cq.seq ?_
    refine Cq.block ?_
    refine Cq.seq ?_
    refine Cq.region ?_
    refine Sq.move .plain rfl rfl ?_
    refine Sq.move .plain rfl rfl ?_
    refine Sq.move .plain rfl rfl ?_
    refine Sq.rem .plain rfl rfl rfl (by omega) ?_
    refine Sq.eql .plain rfl rfl rfl ?_
    obtain ⟨p2, hp3o⟩ := Own.at ho (i := i) (by omega) (by first | (simp only [List.length_map]; omega) | (simp; omega))
    refine Sq.atO sl23 hp3o .plain rfl rfl rfl ?_
    refine Sq.storeO one4 ho hp3o .plain rfl rfl rfl (fun w4 g5 ho6 => ?_)
    have hs7 := World.grownBy.size g5
    replace hgo := grown_trans hgo g5
    replace ho := ho6
    refine Sq.nil ?_
    refine Eq.next ?_
    refine Cq.region ?_
    refine Sq.move .plain rfl rfl ?_
    refine Sq.add .plain rfl rfl rfl (by omega) ?_
    refine Sq.assign .plain rfl rfl ?_
    refine Sq.nil ?_
    refine Eq.end ?_
    refine Eq.next ?_
    refine Cq.region ?_
    refine Sq.move .plain rfl rfl ?_
    refine Sq.add .plain rfl rfl rfl (by omega) ?_
    refine Sq.assign .plain rfl rfl ?_
    refine Sq.nil ?_
    have e1 := toNat_succ hi.1
    have e3 : ((i.toNat : Nat) : Int) = i := Int.toNat_of_nonneg hi.1
    refine Eq.round _ _ ⟨i + 1, _, rfl, by omega, by omega, by rw [e1, ← upBTo_step (by omega), List.map_set, e3, ← hp]; exact ho, hgo, rfl⟩ (by omega) (.cons rfl (.cons rfl (.cons rfl (.nil))))
  refine Sq.nil ?_
  refine Eq.next ?_
  refine Cq.els rfl ?_
  refine Cq.exit ?_
  refine Eq.past ?_
  refine Eq.past ?_
  refine Eq.hit ?_
  refine Eq.next ?_
  refine Cq.seq ?_
  refine Cq.region ?_
  refine Sq.move .plain rfl rfl ?_
  refine Sq.assign .plain rfl rfl ?_
  refine Sq.nil ?_
  refine Eq.next ?_
  refine Cq.ret ?_
  refine Eq.ret1 rfl rfl ?_
  rw [upBTo_all (by omega)] at ho
  exact ⟨by rw [hp, show i = xs.length by omega], ho, hgo⟩
set_option maxRecDepth 100000 in
theorem heldI_c (w0 : World) (r : Value) (k : Int) (n : Nat) (hr : Ints w0 3 r (upI k n)) (hl : n ≤ 1048576) (hk : 0 ≤ k ∧ k ≤ 4611686018427387904) : Ret Tryd.prog 13 #[r, Value.int .i64 k] w0 (fun v w => v = .int .i64 (k + n) ∧ Ext w0 w) := by
  have E := Ext.refl w0
  refine Ret.of (args := [r, Value.int .i64 k]) Tryd.func13 rfl rfl rfl ?_
  rintro _ rfl
  show Cq _ _ _ _ [(0, r), (1, Value.int .i64 k)] _
  refine Cq.seq ?_
  refine Cq.region ?_
  refine Sq.assign .plain rfl rfl ?_
  refine Sq.nil ?_
  refine Eq.next ?_
  refine Cq.seq ?_
  refine Cq.seq ?_
  refine Cq.region ?_
  refine Sq.assign .plain rfl rfl ?_
  refine Sq.nil ?_
  refine Eq.next ?_
  refine Cq.block ?_
  refine Cq.loop (fun nn w ls => ∃ (i : Int), ∃ (p : Int), ls = [(0, r), (1, Value.int .i64 p), (5, Value.int .i64 i)] ∧ (0 ≤ i ∧ i ≤ n) ∧ p = k + i ∧ Ext w0 w ∧ nn = ((n : Int) - i).toNat) _ _ ⟨0, _, rfl, by omega, by omega, E, rfl⟩ (.cons rfl (.cons rfl (.cons rfl (.nil)))) ?_
  rintro nn wl1 ls ⟨i, p, rfl, hi, hp, E, rfl⟩
  have hs1 := Below.size E
  have hul := upI_length k n
  have hat := upI_at (k := k) (n := n) (i := i.toNat)
  have e3 : ((i.toNat : Nat) : Int) = i := Int.toNat_of_nonneg hi.1
  refine Cq.seq ?_
  refine Cq.seq ?_
  refine Cq.region ?_
  refine Sq.move .plain rfl rfl ?_
  refine Sq.move .plain rfl rfl ?_
  refine Sq.lenInts (hr.ext E) .plain rfl und27 rfl ?_
  refine Sq.lss .plain rfl rfl rfl ?_
  refine Sq.part (fun c2 => ?_) (fun c2 => ?_)
  · refine Sq.nil ?_
    refine Eq.next ?_
    refine Cq.thn rfl ?_
    refine Cq.skip ?_
    refine Eq.next ?_
    refine Cq.seq ?_
    refine Cq.block ?_
    refine Cq.seq ?_
    refine Cq.seq ?_
    refine Cq.region ?_
    refine Sq.move .plain rfl rfl ?_
    refine Sq.move .plain rfl rfl ?_
    refine Sq.idxInts sl27 one3 (hr.ext E) .plain rfl rfl rfl .plain rfl rfl (by omega) (by omega) ?_
    refine Sq.move .plain rfl rfl ?_
    refine Sq.neq .plain rfl rfl rfl ?_
    refine Sq.isF (by rw [hat (by omega), e3, hp]; exact fun h => h rfl) ?_
    refine Sq.nil ?_
    refine Eq.next ?_
    refine Cq.els rfl ?_
    refine Cq.skip ?_
    refine Eq.next ?_
    refine Cq.region ?_
    refine Sq.move .plain rfl rfl ?_
    refine Sq.add .plain rfl rfl rfl (by omega) ?_
    refine Sq.assign .plain rfl rfl ?_
    refine Sq.nil ?_
    refine Eq.end ?_
    refine Eq.next ?_
    refine Cq.region ?_
    refine Sq.move .plain rfl rfl ?_
    refine Sq.add .plain rfl rfl rfl (by omega) ?_
    refine Sq.assign .plain rfl rfl ?_
    refine Sq.nil ?_
    refine Eq.round _ _ ⟨i + 1, _, rfl, by omega, by omega, E, rfl⟩ (by omega) (.cons rfl (.cons rfl (.cons rfl (.nil))))
  refine Sq.nil ?_
  refine Eq.next ?_
  refine Cq.els rfl ?_
  refine Cq.exit ?_
  refine Eq.past ?_
  refine Eq.past ?_
  refine Eq.hit ?_
  refine Eq.next ?_
  refine Cq.seq ?_
  refine Cq.region ?_
  refine Sq.move .plain rfl rfl ?_
  refine Sq.assign .plain rfl rfl ?_
  refine Sq.nil ?_
  refine Eq.next ?_
  refine Cq.ret ?_
  refine Eq.ret1 rfl rfl ?_
  exact ⟨by rw [hp, show i = n by omega], E⟩
set_option maxRecDepth 100000 in
theorem markSS_c (w0 : World) (B U : Nat) (r : Value) (xss : List (List Int)) (k : Int) (hor : OwnRows w0 B U 27 3 r xss) (hx : xss.length ≤ 1048576) (hxx : ∀ r ∈ xss, r.length ≤ 1048576) (hk : 0 ≤ k ∧ k ≤ 2305843009213693952) : Ret Tryd.prog 26 #[r, Value.int .i64 k] w0 (fun v w => v = .int .i64 (k + sumR xss) ∧ OwnRows w B U 27 3 r (markR xss k) ∧ Wrote w0 w B U ∧ KeepT w0 w 3) := by
  have hwr := Wrote.refl w0 B U
  have hkp := KeepT.refl w0 3
  refine Ret.of (args := [r, Value.int .i64 k]) Tryd.func26 rfl rfl rfl ?_
  rintro _ rfl
  show Cq _ _ _ _ [(0, r), (1, Value.int .i64 k)] _
  refine Cq.seq ?_
  refine Cq.region ?_
  refine Sq.assign .plain rfl rfl ?_
  refine Sq.nil ?_
  refine Eq.next ?_
  refine Cq.seq ?_
  refine Cq.seq ?_
  refine Cq.region ?_
  refine Sq.assign .plain rfl rfl ?_
  refine Sq.nil ?_
  refine Eq.next ?_
  refine Cq.block ?_
  refine Cq.loop (fun nn w ls => ∃ (i : Int), ∃ (p : Int), ls = [(0, r), (1, Value.int .i64 p), (5, Value.int .i64 i)] ∧ (0 ≤ i ∧ i ≤ xss.length) ∧ p = k + offR xss i.toNat ∧ OwnRows w B U 27 3 r (rowsTo xss k i.toNat) ∧ Wrote w0 w B U ∧ KeepT w0 w 3 ∧ nn = ((xss.length : Int) - i).toNat) _ _ ⟨0, _, rfl, by omega, by simp [offR], by rw [show (0 : Int).toNat = 0 from rfl, rowsTo_zero]; exact hor, hwr, hkp, rfl⟩ (.cons rfl (.cons rfl (.cons rfl (.nil)))) ?_
  rintro nn wl1 ls ⟨i, p, rfl, hi, hp, hor, hwr, hkp, rfl⟩
  have hul := rowsTo_length xss k i.toNat
  refine Cq.seq ?_
  refine Cq.seq ?_
  refine Cq.region ?_
  refine Sq.move .plain rfl rfl ?_
  refine Sq.move .plain rfl rfl ?_
  refine Sq.lenRows (OwnRows.rows hor) .plain rfl und22 rfl ?_
  refine Sq.lss .plain rfl rfl rfl ?_
  refine Sq.part (fun c1 => ?_) (fun c1 => ?_)
  · refine Sq.nil ?_
    refine Eq.next ?_
    refine Cq.thn rfl ?_
    refine Cq.skip ?_
    refine Eq.next ?_
    refine Cq.seq ?_
    refine Cq.block ?_
    refine Cq.region ?_
    refine Sq.move .plain rfl rfl ?_
    refine Sq.move .plain rfl rfl ?_
    obtain ⟨pA, rA, hpA, _⟩ := Rows.at (OwnRows.rows hor) (i := i) (by omega) (by rw [rowsTo_length]; omega)
    refine Sq.val .plain rfl rfl (Still.at' sl22 hpA rfl rfl) ?_
    refine Sq.val .plain rfl rfl (Still.loadA one27 rfl hpA.1) ?_
    refine Sq.move .plain rfl rfl ?_
    have hrA := (OwnRows.rowAt hor hpA).1
    have hltA := OwnRows.rowLt hor hpA
    rw [rowsTo_at (by omega)] at hrA
    have hof := offR_le hxx i.toNat
    have hof0 := offR_nonneg xss i.toNat
    refine Sq.call fn12 .plain rfl rfl (markI_c _ B rA (xss.getD i.toNat []) p hrA (hxx _ (getD_mem (by omega))) (by omega)) ?_
    rintro _ w2 ⟨rfl, hr3, g4⟩
    have hkp := KeepT.next hkp hrA g4
    replace hor := (OwnRows.set hor (by decide) hpA hr3 g4).1
    replace hwr := hwr.trans (Wrote.of g4 hltA)
    refine Sq.assign .plain rfl rfl ?_
    refine Sq.nil ?_
    refine Eq.end ?_
    refine Eq.next ?_
    refine Cq.region ?_
    refine Sq.move .plain rfl rfl ?_
    refine Sq.add .plain rfl rfl rfl (by omega) ?_
    refine Sq.assign .plain rfl rfl ?_
    refine Sq.nil ?_
    have e1 := toNat_succ hi.1
    refine Eq.round _ _ ⟨i + 1, _, rfl, by omega, by rw [e1, offR, hp]; omega, by rw [e1, ← rowsTo_step (by omega), ← hp]; exact hor, hwr, hkp, rfl⟩ (by omega) (.cons rfl (.cons rfl (.cons rfl (.nil))))
  refine Sq.nil ?_
  refine Eq.next ?_
  refine Cq.els rfl ?_
  refine Cq.exit ?_
  refine Eq.past ?_
  refine Eq.past ?_
  refine Eq.hit ?_
  refine Eq.next ?_
  refine Cq.seq ?_
  refine Cq.region ?_
  refine Sq.move .plain rfl rfl ?_
  refine Sq.assign .plain rfl rfl ?_
  refine Sq.nil ?_
  refine Eq.next ?_
  refine Cq.ret ?_
  refine Eq.ret1 rfl rfl ?_
  rw [rowsTo_all (by omega)] at hor
  exact ⟨by rw [hp, show i.toNat = xss.length by omega]; rfl, hor, hwr, hkp⟩
set_option maxRecDepth 100000 in
theorem markA_c (w0 : World) (B U : Nat) (a : A) (nx ac : Value) (k : Int) (hor : OwnRows w0 B U 27 3 nx a.next) (hoc : Own w0 B 4 ac (a.acc.map Value.bool)) (hlw : ∀ k, ac.ownBlock = some k → k < U) (hsm : SmX a) (hk : 0 ≤ k ∧ k ≤ 1152921504606846976) : Ret Tryd.prog 11 #[Value.agg #[Value.int .i64 a.al, nx, ac], Value.int .i64 k] w0 (fun v w => v = .int .i64 (k + cntA a) ∧ OwnRows w B U 27 3 nx (markR a.next k) ∧ Own w B 4 ac ((upB (k + sumR a.next) a.acc.length).map Value.bool) ∧ Wrote w0 w B U) := by
  have hwr := Wrote.refl w0 B U
  refine Ret.of (args := [Value.agg #[Value.int .i64 a.al, nx, ac], Value.int .i64 k]) Tryd.func11 rfl rfl rfl ?_
  rintro _ rfl
  show Cq _ _ _ _ [(0, Value.agg #[Value.int .i64 a.al, nx, ac]), (1, Value.int .i64 k)] _
  refine Cq.seq ?_
  refine Cq.region ?_
  refine Sq.box .plain rfl rfl (fun b1 w2 e3 hB0 hlo4 => ?_)
  have hs0 := Below.size e3
  replace hor := hor.ext e3
  replace hoc := hoc.ext e3
  replace hwr := hwr.trans (Wrote.ofExt e3 _ _)
  refine Sq.assign .plain rfl rfl ?_
  refine Sq.nil ?_
  refine Eq.next ?_
  refine Cq.seq ?_
  refine Cq.region ?_
  refine Sq.fieldAddr fld29_1 .plain rfl rfl ?_
  refine Sq.loadB one22 .plain rfl rfl hB0 rfl ?_
  refine Sq.move .plain rfl rfl ?_
  refine Sq.call fn26 .plain rfl rfl (markSS_c _ B U nx a.next k hor hsm.1 hsm.2.1 (by omega)) ?_
  rintro _ w5 ⟨rfl, hor', hw1, hk1⟩
  replace hor := hor'
  clear hor'
  replace hoc := hoc.kept hk1 (by decide)
  replace hB0 := hk1 _ _ _ hB0 (by decide)
  replace hwr := hwr.trans hw1
  refine Sq.assign .plain rfl rfl ?_
  refine Sq.nil ?_
  refine Eq.next ?_
  refine Cq.seq ?_
  refine Cq.region ?_
  refine Sq.fieldAddr fld29_2 .plain rfl rfl ?_
  refine Sq.loadB one23 .plain rfl rfl hB0 rfl ?_
  refine Sq.move .plain rfl rfl ?_
  have hcl := cntA_le hsm
  refine Sq.call fn27 .plain rfl rfl (markB_c _ B ac a.acc (k + sumR a.next) hoc hsm.2.2 (by omega)) ?_
  rintro _ w6 ⟨rfl, hoc', hg⟩
  replace hor := hor.owned hoc hg (by decide) (by decide)
  replace hwr := hwr.trans (Wrote.of hg fun k hk => ⟨(hoc.lt k hk).1, hlw k hk⟩)
  replace hoc := hoc'
  refine Sq.assign .plain rfl rfl ?_
  refine Sq.nil ?_
  refine Eq.next ?_
  refine Cq.seq ?_
  refine Cq.region ?_
  refine Sq.move .plain rfl rfl ?_
  refine Sq.assign .plain rfl rfl ?_
  refine Sq.nil ?_
  refine Eq.next ?_
  refine Cq.ret ?_
  refine Eq.ret1 rfl rfl ?_
  exact ⟨by rw [Int.add_assoc]; rfl, hor, hoc, hwr⟩
end Go.Proofs.YtdkdpmmfebdeaaaDoor
set_option linter.unusedSimpArgs false
set_option linter.unusedVariables false
namespace Go.Proofs.YtdkdpmmfebdeaaaDoor
open Go.RowKit
set_option maxRecDepth 100000 in
theorem szIntS_c (w0 : World) (r : Value) (xs : List Int) (hr : IntsX w0 r xs) (left : Int) (hleft : 0 ≤ left ∧ left ≤ 1048576) : Ret Tryd.prog 30 #[r, Value.int .i64 left] w0 (fun v w => (∃ z, v = .int .i64 z ∧ -1 ≤ z ∧ (0 ≤ z → z ≤ left ∧ xs.length ≤ 1048576)) ∧ Ext w0 w) := by
  have E := Ext.refl w0
  have hlo : xs.length ≤ 9223372036854775807 := hr.1
  refine Ret.of (args := [r, Value.int .i64 left]) Tryd.func30 rfl rfl rfl ?_
  rintro _ rfl
  show Cq _ _ _ _ [(0, r), (1, Value.int .i64 left)] _
  refine Cq.seq ?_
  refine Cq.region ?_
  refine Sq.assign .plain rfl rfl ?_
  refine Sq.nil ?_
  refine Eq.next ?_
  refine Cq.seq ?_
  refine Cq.region ?_
  refine Sq.move .plain rfl rfl ?_
  refine Sq.move .plain rfl rfl ?_
  obtain ⟨eq1, heq1⟩ := hr.2
  refine Sq.lenInts (heq1.ext E) .plain rfl und27 rfl ?_
  refine Sq.sub .plain rfl rfl rfl (by omega) ?_
  refine Sq.assign .plain rfl rfl ?_
  refine Sq.nil ?_
  refine Eq.next ?_
  refine Cq.seq ?_
  refine Cq.seq ?_
  refine Cq.region ?_
  refine Sq.move .plain rfl rfl ?_
  refine Sq.lss .plain rfl rfl rfl ?_
  refine Sq.part (fun c2 => ?_) (fun c2 => ?_)
  · refine Sq.nil ?_
    refine Eq.next ?_
    refine Cq.thn rfl ?_
    refine Cq.seq ?_
    refine Cq.region ?_
    refine Sq.assign .plain rfl rfl ?_
    refine Sq.nil ?_
    refine Eq.next ?_
    refine Cq.ret ?_
    refine Eq.pastRet ?_
    refine Eq.ret1 rfl rfl ?_
    exact ⟨⟨_, rfl, by omega, fun h => by omega⟩, E⟩
  refine Sq.nil ?_
  refine Eq.next ?_
  refine Cq.els rfl ?_
  refine Cq.skip ?_
  refine Eq.next ?_
  refine Cq.seq ?_
  refine Cq.region ?_
  refine Sq.move .plain rfl rfl ?_
  refine Sq.assign .plain rfl rfl ?_
  refine Sq.nil ?_
  refine Eq.next ?_
  refine Cq.ret ?_
  refine Eq.ret1 rfl rfl ?_
  exact ⟨⟨_, rfl, by omega, fun h => by omega⟩, E⟩
set_option maxRecDepth 100000 in
theorem szBoolS_c (w0 : World) (r : Value) (xs : List Bool) (hr : BoolsX w0 r xs) (left : Int) (hleft : 0 ≤ left ∧ left ≤ 1048576) : Ret Tryd.prog 17 #[r, Value.int .i64 left] w0 (fun v w => (∃ z, v = .int .i64 z ∧ -1 ≤ z ∧ (0 ≤ z → z ≤ left ∧ xs.length ≤ 1048576)) ∧ Ext w0 w) := by
  have E := Ext.refl w0
  have hlo : xs.length ≤ 9223372036854775807 := hr.1
  refine Ret.of (args := [r, Value.int .i64 left]) Tryd.func17 rfl rfl rfl ?_
  rintro _ rfl
  show Cq _ _ _ _ [(0, r), (1, Value.int .i64 left)] _
  refine Cq.seq ?_
  refine Cq.region ?_
  refine Sq.assign .plain rfl rfl ?_
  refine Sq.nil ?_
  refine Eq.next ?_
  refine Cq.seq ?_
  refine Cq.region ?_
  refine Sq.move .plain rfl rfl ?_
  refine Sq.move .plain rfl rfl ?_
  obtain ⟨eq1, heq1⟩ := hr.2
  refine Sq.lenBools (heq1.ext E) .plain rfl und23 rfl ?_
  refine Sq.sub .plain rfl rfl rfl (by omega) ?_
  refine Sq.assign .plain rfl rfl ?_
  refine Sq.nil ?_
  refine Eq.next ?_
  refine Cq.seq ?_
  refine Cq.seq ?_
  refine Cq.region ?_
  refine Sq.move .plain rfl rfl ?_
  refine Sq.lss .plain rfl rfl rfl ?_
  refine Sq.part (fun c2 => ?_) (fun c2 => ?_)
  · refine Sq.nil ?_
    refine Eq.next ?_
    refine Cq.thn rfl ?_
    refine Cq.seq ?_
    refine Cq.region ?_
    refine Sq.assign .plain rfl rfl ?_
    refine Sq.nil ?_
    refine Eq.next ?_
    refine Cq.ret ?_
    refine Eq.pastRet ?_
    refine Eq.ret1 rfl rfl ?_
    exact ⟨⟨_, rfl, by omega, fun h => by omega⟩, E⟩
  refine Sq.nil ?_
  refine Eq.next ?_
  refine Cq.els rfl ?_
  refine Cq.skip ?_
  refine Eq.next ?_
  refine Cq.seq ?_
  refine Cq.region ?_
  refine Sq.move .plain rfl rfl ?_
  refine Sq.assign .plain rfl rfl ?_
  refine Sq.nil ?_
  refine Eq.next ?_
  refine Cq.ret ?_
  refine Eq.ret1 rfl rfl ?_
  exact ⟨⟨_, rfl, by omega, fun h => by omega⟩, E⟩
set_option maxRecDepth 100000 in
theorem szIntSS_c (w0 : World) (r : Value) (xss : List (List Int)) (hr : RowsX w0 r xss) (left : Int) (hleft : 0 ≤ left ∧ left ≤ 1048576) : Ret Tryd.prog 16 #[r, Value.int .i64 left] w0 (fun v w => (∃ z, v = .int .i64 z ∧ -1 ≤ z ∧ (0 ≤ z → z ≤ left ∧ xss.length ≤ 1048576 ∧ ∀ r ∈ xss, r.length ≤ 1048576)) ∧ Ext w0 w) := by
  have E := Ext.refl w0
  have hlo : xss.length ≤ 9223372036854775807 := hr.1
  refine Ret.of (args := [r, Value.int .i64 left]) Tryd.func16 rfl rfl rfl ?_
  rintro _ rfl
  show Cq _ _ _ _ [(0, r), (1, Value.int .i64 left)] _
  refine Cq.seq ?_
  refine Cq.region ?_
  refine Sq.assign .plain rfl rfl ?_
  refine Sq.nil ?_
  refine Eq.next ?_
  refine Cq.seq ?_
  refine Cq.region ?_
  refine Sq.move .plain rfl rfl ?_
  refine Sq.move .plain rfl rfl ?_
  obtain ⟨eq1, rsq1, heq1, hlq1⟩ := RowsX.len hr
  refine Sq.val .plain rfl rfl (Still.lenRow (heq1.ext E) und22 rfl) ?_
  rw [hlq1]
  refine Sq.sub .plain rfl rfl rfl (by omega) ?_
  refine Sq.assign .plain rfl rfl ?_
  refine Sq.nil ?_
  refine Eq.next ?_
  refine Cq.seq ?_
  refine Cq.seq ?_
  refine Cq.region ?_
  refine Sq.move .plain rfl rfl ?_
  refine Sq.lss .plain rfl rfl rfl ?_
  refine Sq.part (fun c2 => ?_) (fun c2 => ?_)
  · refine Sq.nil ?_
    refine Eq.next ?_
    refine Cq.thn rfl ?_
    refine Cq.seq ?_
    refine Cq.region ?_
    refine Sq.assign .plain rfl rfl ?_
    refine Sq.nil ?_
    refine Eq.next ?_
    refine Cq.ret ?_
    refine Eq.pastRet ?_
    refine Eq.ret1 rfl rfl ?_
    exact ⟨⟨_, rfl, by omega, fun h => absurd h (by omega)⟩, E⟩
  refine Sq.nil ?_
  refine Eq.next ?_
  refine Cq.els rfl ?_
  refine Cq.skip ?_
  refine Eq.next ?_
  refine Cq.seq ?_
  refine Cq.seq ?_
  refine Cq.region ?_
  refine Sq.assign .plain rfl rfl ?_
  refine Sq.nil ?_
  refine Eq.next ?_
  refine Cq.block ?_
  refine Cq.loop (fun nn w ls => ∃ (k : Int), ∃ (y : Int), ls = [(0, r), (1, Value.int .i64 y), (5, Value.int .i64 k)] ∧ (0 ≤ k ∧ k ≤ xss.length) ∧ (0 ≤ y ∧ y ≤ left) ∧ (∀ r ∈ xss.take k.toNat, r.length ≤ 1048576) ∧ Ext w0 w ∧ nn = ((xss.length : Int) - k).toNat) _ _ ⟨0, _, rfl, by omega, by omega, by simp, E, rfl⟩ (.cons rfl (.cons rfl (.cons rfl (.nil)))) ?_
  rintro nn wl1 ls ⟨k, y, rfl, hk, hy, hrl, E, rfl⟩
  have hs3 := Below.size E
  refine Cq.seq ?_
  refine Cq.seq ?_
  refine Cq.region ?_
  refine Sq.move .plain rfl rfl ?_
  refine Sq.move .plain rfl rfl ?_
  obtain ⟨eq4, rsq4, heq4, hlq4⟩ := RowsX.len hr
  refine Sq.val .plain rfl rfl (Still.lenRow (heq4.ext E) und22 rfl) ?_
  rw [hlq4]
  refine Sq.lss .plain rfl rfl rfl ?_
  refine Sq.part (fun c5 => ?_) (fun c5 => ?_)
  · refine Sq.nil ?_
    refine Eq.next ?_
    refine Cq.thn rfl ?_
    refine Cq.skip ?_
    refine Eq.next ?_
    refine Cq.seq ?_
    refine Cq.block ?_
    refine Cq.seq ?_
    refine Cq.region ?_
    refine Sq.move .plain rfl rfl ?_
    refine Sq.move .plain rfl rfl ?_
    obtain ⟨eq6, pq6, rq6, hpq6, hrq6⟩ := RowsX.at hr (i := k) (by omega) (by omega)
    refine Sq.val .plain rfl rfl (Still.at' sl22 (hpq6.ext E) rfl rfl) ?_
    refine Sq.val .plain rfl rfl (Still.loadA one27 rfl (hpq6.ext E).1) ?_
    refine Sq.move .plain rfl rfl ?_
    refine Sq.call fn30 .plain rfl rfl (szIntS_c _ _ _ (hrq6.ext E) y (by omega)) ?_
    rintro _ w8 ⟨⟨z10, rfl, hz11, hsm12⟩, e9⟩
    have hs13 := Below.size E
    have hs14 := Below.size e9
    replace E := E.trans e9
    refine Sq.assign .plain rfl rfl ?_
    refine Sq.nil ?_
    refine Eq.next ?_
    refine Cq.seq ?_
    refine Cq.region ?_
    refine Sq.move .plain rfl rfl ?_
    refine Sq.lss .plain rfl rfl rfl ?_
    refine Sq.part (fun c15 => ?_) (fun c15 => ?_)
    · refine Sq.nil ?_
      refine Eq.next ?_
      refine Cq.thn rfl ?_
      refine Cq.seq ?_
      refine Cq.region ?_
      refine Sq.assign .plain rfl rfl ?_
      refine Sq.nil ?_
      refine Eq.next ?_
      refine Cq.ret ?_
      refine Eq.outRet ?_
      refine Eq.pastRet ?_
      refine Eq.pastRet ?_
      refine Eq.outRet ?_
      refine Eq.pastRet ?_
      refine Eq.ret1 rfl rfl ?_
      exact ⟨⟨_, rfl, by omega, fun h => absurd h (by omega)⟩, E⟩
    refine Sq.nil ?_
    refine Eq.next ?_
    refine Cq.els rfl ?_
    refine Cq.skip ?_
    refine Eq.end ?_
    refine Eq.next ?_
    refine Cq.region ?_
    refine Sq.move .plain rfl rfl ?_
    refine Sq.add .plain rfl rfl rfl (by omega) ?_
    refine Sq.assign .plain rfl rfl ?_
    refine Sq.nil ?_
    have e1 := toNat_succ hk.1
    have hsx := (hsm12 (by omega))
    refine Eq.round _ _ ⟨k + 1, _, rfl, by omega, by omega, by rw [e1, take_snoc [] (by omega)]; intro r hr; rcases List.mem_append.1 hr with h | h; exact hrl r h; rw [List.mem_singleton.1 h]; exact hsx.2, E, rfl⟩ (by omega) (.cons rfl (.cons rfl (.cons rfl (.nil))))
  refine Sq.nil ?_
  refine Eq.next ?_
  refine Cq.els rfl ?_
  refine Cq.exit ?_
  refine Eq.past ?_
  refine Eq.past ?_
  refine Eq.hit ?_
  refine Eq.next ?_
  refine Cq.seq ?_
  refine Cq.region ?_
  refine Sq.move .plain rfl rfl ?_
  refine Sq.assign .plain rfl rfl ?_
  refine Sq.nil ?_
  refine Eq.next ?_
  refine Cq.ret ?_
  refine Eq.ret1 rfl rfl ?_
  exact ⟨⟨_, rfl, by omega, fun h => ⟨by omega, by omega, by rw [List.take_of_length_le (by omega)] at hrl; exact hrl⟩⟩, E⟩
set_option maxRecDepth 100000 in
theorem szA_c (w0 : World) (a : A) (nx ac : Value) (hnx : RowsX w0 nx a.next) (hac : BoolsX w0 ac a.acc) (left : Int) (hleft : 0 ≤ left ∧ left ≤ 1048576) : Ret Tryd.prog 5 #[Value.agg #[Value.int .i64 a.al, nx, ac], Value.int .i64 left] w0 (fun v w => (∃ z, v = .int .i64 z ∧ -1 ≤ z ∧ (0 ≤ z → z ≤ left ∧ SmX a)) ∧ Ext w0 w) := by
  have E := Ext.refl w0
  refine Ret.of (args := [Value.agg #[Value.int .i64 a.al, nx, ac], Value.int .i64 left]) Tryd.func5 rfl rfl rfl ?_
  rintro _ rfl
  show Cq _ _ _ _ [(0, Value.agg #[Value.int .i64 a.al, nx, ac]), (1, Value.int .i64 left)] _
  refine Cq.seq ?_
  refine Cq.region ?_
  refine Sq.box .plain rfl rfl (fun b1 w2 e3 hB4 hlo5 => ?_)
  have hd6 := Nat.le_trans (Below.size E) hlo5
  have hs7 := Below.size e3
  replace E := E.trans e3
  refine Sq.assign .plain rfl rfl ?_
  refine Sq.nil ?_
  refine Eq.next ?_
  refine Cq.seq ?_
  refine Cq.region ?_
  refine Sq.fieldAddr fld25_1 .plain rfl rfl ?_
  refine Sq.loadB one22 .plain rfl rfl hB4 rfl ?_
  refine Sq.move .plain rfl rfl ?_
  have hd14 := hB4.lt
  refine Sq.call fn16 .plain rfl rfl (szIntSS_c _ _ _ (hnx.ext E) left (by omega)) ?_
  rintro _ w9 ⟨⟨z11, rfl, hz12, hsm13⟩, e10⟩
  have hs15 := Below.size E
  have hs16 := Below.size e10
  replace E := E.trans e10
  replace hB4 := hB4.ext e10
  refine Sq.assign .plain rfl rfl ?_
  refine Sq.nil ?_
  refine Eq.next ?_
  refine Cq.seq ?_
  refine Cq.seq ?_
  refine Cq.region ?_
  refine Sq.move .plain rfl rfl ?_
  refine Sq.lss .plain rfl rfl rfl ?_
  refine Sq.part (fun c17 => ?_) (fun c17 => ?_)
  · refine Sq.nil ?_
    refine Eq.next ?_
    refine Cq.thn rfl ?_
    refine Cq.seq ?_
    refine Cq.region ?_
    refine Sq.assign .plain rfl rfl ?_
    refine Sq.nil ?_
    refine Eq.next ?_
    refine Cq.ret ?_
    refine Eq.pastRet ?_
    refine Eq.ret1 rfl rfl ?_
    exact ⟨⟨_, rfl, by omega, fun h => absurd h (by decide)⟩, E⟩
  refine Sq.nil ?_
  refine Eq.next ?_
  refine Cq.els rfl ?_
  refine Cq.skip ?_
  refine Eq.next ?_
  refine Cq.seq ?_
  refine Cq.region ?_
  refine Sq.fieldAddr fld25_2 .plain rfl rfl ?_
  refine Sq.loadB one23 .plain rfl rfl hB4 rfl ?_
  refine Sq.move .plain rfl rfl ?_
  have hd24 := hB4.lt
  refine Sq.call fn17 .plain rfl rfl (szBoolS_c _ _ _ (hac.ext E) z11 (by omega)) ?_
  rintro _ w19 ⟨⟨z21, rfl, hz22, hsm23⟩, e20⟩
  have hs25 := Below.size E
  have hs26 := Below.size e20
  replace E := E.trans e20
  refine Sq.assign .plain rfl rfl ?_
  refine Sq.nil ?_
  refine Eq.next ?_
  refine Cq.seq ?_
  refine Cq.seq ?_
  refine Cq.region ?_
  refine Sq.move .plain rfl rfl ?_
  refine Sq.lss .plain rfl rfl rfl ?_
  refine Sq.part (fun c27 => ?_) (fun c27 => ?_)
  · refine Sq.nil ?_
    refine Eq.next ?_
    refine Cq.thn rfl ?_
    refine Cq.seq ?_
    refine Cq.region ?_
    refine Sq.assign .plain rfl rfl ?_
    refine Sq.nil ?_
    refine Eq.next ?_
    refine Cq.ret ?_
    refine Eq.pastRet ?_
    refine Eq.ret1 rfl rfl ?_
    exact ⟨⟨_, rfl, by omega, fun h => absurd h (by decide)⟩, E⟩
  refine Sq.nil ?_
  refine Eq.next ?_
  refine Cq.els rfl ?_
  refine Cq.skip ?_
  refine Eq.next ?_
  refine Cq.seq ?_
  refine Cq.region ?_
  refine Sq.move .plain rfl rfl ?_
  refine Sq.assign .plain rfl rfl ?_
  refine Sq.nil ?_
  refine Eq.next ?_
  refine Cq.ret ?_
  refine Eq.ret1 rfl rfl ?_
  exact ⟨⟨_, rfl, by omega, fun h => ⟨by have := hsm13 (by omega); have := hsm23 (by omega); omega, (hsm13 (by omega)).2.1, (hsm13 (by omega)).2.2, (hsm23 (by omega)).2⟩⟩, E⟩
set_option maxRecDepth 100000 in
theorem toIntS_c (w0 : World) (r : Value) (xs : List Int) (hr : IntsX w0 r xs) (hl : xs.length ≤ 1048576) : Ret Tryd.prog 35 #[r] w0 (fun v w => Own w w0.heap.size 3 v (xs.map (Value.int .i64)) ∧ Ext w0 w) := by
  have E := Ext.refl w0
  refine Ret.of (args := [r]) Tryd.func35 rfl rfl rfl ?_
  rintro _ rfl
  show Cq _ _ _ _ [(0, r)] _
  refine Cq.seq ?_
  refine Cq.region ?_
  refine Sq.assign .plain rfl rfl ?_
  refine Sq.nil ?_
  refine Eq.next ?_
  refine Cq.seq ?_
  refine Cq.region ?_
  refine Sq.move .plain rfl rfl ?_
  obtain ⟨eq1, heq1⟩ := hr.2
  refine Sq.lenInts (heq1.ext E) .plain rfl und27 rfl ?_
  refine Sq.make sl27 .plain rfl rfl rfl rfl (by omega) (fun b2 w3 e4 hlo5 hB6 => ?_)
  replace hB6 := hB6 w0.heap.size (Nat.le_refl _)
  have hs7 := Below.size e4
  replace E := E.trans e4
  refine Sq.assign .plain rfl rfl ?_
  refine Sq.nil ?_
  refine Eq.next ?_
  refine Cq.seq ?_
  refine Cq.seq ?_
  refine Cq.region ?_
  refine Sq.assign .plain rfl rfl ?_
  refine Sq.nil ?_
  refine Eq.next ?_
  refine Cq.block ?_
  refine Cq.loop (fun nn w ls => ∃ (k : Int), ls = [(0, r), (3, Value.slice (some ⟨b2, 0, none⟩) (List.length xs : Int).toNat (List.length xs : Int).toNat), (4, Value.int .i64 k)] ∧ (0 ≤ k ∧ k ≤ xs.length) ∧ Own w w0.heap.size 3 (Value.slice (some ⟨b2, 0, none⟩) (List.length xs : Int).toNat (List.length xs : Int).toNat) ((fillTo xs 0 k.toNat).map (Value.int .i64)) ∧ Ext w0 w ∧ nn = ((xs.length : Int) - k).toNat) _ _ ⟨0, rfl, by omega, by rw [show (0 : Int).toNat = 0 from rfl, fillTo_zero, List.map_replicate]; exact hB6, E, rfl⟩ (.cons rfl (.cons rfl (.cons rfl (.nil)))) ?_
  rintro nn wl1 ls ⟨k, rfl, hk, ho, E, rfl⟩
  have hs8 := Below.size E
  have hfl := fillTo_length xs 0 (k := k.toNat) (by omega)
  refine Cq.seq ?_
  refine Cq.seq ?_
  refine Cq.region ?_
  refine Sq.move .plain rfl rfl ?_
  refine Sq.move .plain rfl rfl ?_
  obtain ⟨eq9, heq9⟩ := hr.2
  refine Sq.lenInts (heq9.ext E) .plain rfl und27 rfl ?_
  refine Sq.lss .plain rfl rfl rfl ?_
  refine Sq.part (fun c10 => ?_) (fun c10 => ?_)
  · refine Sq.nil ?_
    refine Eq.next ?_
    refine Cq.thn rfl ?_
    refine Cq.skip ?_
    refine Eq.next ?_
    refine Cq.seq ?_
    refine Cq.block ?_
    refine Cq.region ?_
    refine Sq.move .plain rfl rfl ?_
    refine Sq.move .plain rfl rfl ?_
    refine Sq.move .plain rfl rfl ?_
    refine Sq.move .plain rfl rfl ?_
    obtain ⟨eq11, heq11⟩ := hr.2
    obtain ⟨pq11, hpq11⟩ := Ints.at heq11 (i := k) (by omega) (by omega)
    refine Sq.val .plain rfl rfl (Still.at' sl27 (hpq11.ext E) rfl rfl) ?_
    refine Sq.val .plain rfl rfl (Still.loadA one3 rfl (hpq11.ext E).1) ?_
    obtain ⟨p12, hp13o⟩ := Own.at ho (i := k) (by omega) (by first | (simp only [List.length_map]; omega) | (simp; omega))
    refine Sq.atO sl27 hp13o .plain rfl rfl rfl ?_
    refine Sq.storeO one3 ho hp13o .plain rfl rfl rfl (fun w14 g15 ho16 => ?_)
    have hs17 := World.grownBy.size g15
    replace E := E.owned ho g15 (by omega)
    replace ho := ho16
    refine Sq.nil ?_
    refine Eq.end ?_
    refine Eq.next ?_
    refine Cq.region ?_
    refine Sq.move .plain rfl rfl ?_
    refine Sq.add .plain rfl rfl rfl (by omega) ?_
    refine Sq.assign .plain rfl rfl ?_
    refine Sq.nil ?_
    have e1 := toNat_succ hk.1
    refine Eq.round _ _ ⟨k + 1, rfl, by omega, by rw [e1, ← fillTo_succ (by omega), List.map_set]; exact ho, E, rfl⟩ (by omega) (.cons rfl (.cons rfl (.cons rfl (.nil))))
  refine Sq.nil ?_
  refine Eq.next ?_
  refine Cq.els rfl ?_
  refine Cq.exit ?_
  refine Eq.past ?_
  refine Eq.past ?_
  refine Eq.hit ?_
  refine Eq.next ?_
  refine Cq.seq ?_
  refine Cq.region ?_
  refine Sq.move .plain rfl rfl ?_
  refine Sq.assign .plain rfl rfl ?_
  refine Sq.nil ?_
  refine Eq.next ?_
  refine Cq.ret ?_
  refine Eq.ret1 rfl rfl ?_
  rw [fillTo_all (by omega)] at ho
  exact ⟨ho, E⟩
set_option maxRecDepth 100000 in
theorem toBoolS_c (w0 : World) (r : Value) (xs : List Bool) (hr : BoolsX w0 r xs) (hl : xs.length ≤ 1048576) : Ret Tryd.prog 21 #[r] w0 (fun v w => Own w w0.heap.size 4 v (xs.map (Value.bool)) ∧ Ext w0 w) := by
  have E := Ext.refl w0
  refine Ret.of (args := [r]) Tryd.func21 rfl rfl rfl ?_
  rintro _ rfl
  show Cq _ _ _ _ [(0, r)] _
  refine Cq.seq ?_
  refine Cq.region ?_
  refine Sq.assign .plain rfl rfl ?_
  refine Sq.nil ?_
  refine Eq.next ?_
  refine Cq.seq ?_
  refine Cq.region ?_
  refine Sq.move .plain rfl rfl ?_
  obtain ⟨eq1, heq1⟩ := hr.2
  refine Sq.lenBools (heq1.ext E) .plain rfl und23 rfl ?_
  refine Sq.make sl23 .plain rfl rfl rfl rfl (by omega) (fun b2 w3 e4 hlo5 hB6 => ?_)
  replace hB6 := hB6 w0.heap.size (Nat.le_refl _)
  have hs7 := Below.size e4
  replace E := E.trans e4
  refine Sq.assign .plain rfl rfl ?_
  refine Sq.nil ?_
  refine Eq.next ?_
  refine Cq.seq ?_
  refine Cq.seq ?_
  refine Cq.region ?_
  refine Sq.assign .plain rfl rfl ?_
  refine Sq.nil ?_
  refine Eq.next ?_
  refine Cq.block ?_
  refine Cq.loop (fun nn w ls => ∃ (k : Int), ls = [(0, r), (3, Value.slice (some ⟨b2, 0, none⟩) (List.length xs : Int).toNat (List.length xs : Int).toNat), (4, Value.int .i64 k)] ∧ (0 ≤ k ∧ k ≤ xs.length) ∧ Own w w0.heap.size 4 (Value.slice (some ⟨b2, 0, none⟩) (List.length xs : Int).toNat (List.length xs : Int).toNat) ((fillTo xs false k.toNat).map (Value.bool)) ∧ Ext w0 w ∧ nn = ((xs.length : Int) - k).toNat) _ _ ⟨0, rfl, by omega, by rw [show (0 : Int).toNat = 0 from rfl, fillTo_zero, List.map_replicate]; exact hB6, E, rfl⟩ (.cons rfl (.cons rfl (.cons rfl (.nil)))) ?_
  rintro nn wl1 ls ⟨k, rfl, hk, ho, E, rfl⟩
  have hs8 := Below.size E
  have hfl := fillTo_length xs false (k := k.toNat) (by omega)
  refine Cq.seq ?_
  refine Cq.seq ?_
  refine Cq.region ?_
  refine Sq.move .plain rfl rfl ?_
  refine Sq.move .plain rfl rfl ?_
  obtain ⟨eq9, heq9⟩ := hr.2
  refine Sq.lenBools (heq9.ext E) .plain rfl und23 rfl ?_
  refine Sq.lss .plain rfl rfl rfl ?_
  refine Sq.part (fun c10 => ?_) (fun c10 => ?_)
  · refine Sq.nil ?_
    refine Eq.next ?_
    refine Cq.thn rfl ?_
    refine Cq.skip ?_
    refine Eq.next ?_
    refine Cq.seq ?_
    refine Cq.block ?_
    refine Cq.region ?_
    refine Sq.move .plain rfl rfl ?_
    refine Sq.move .plain rfl rfl ?_
    refine Sq.move .plain rfl rfl ?_
    refine Sq.move .plain rfl rfl ?_
    obtain ⟨eq11, heq11⟩ := hr.2
    obtain ⟨pq11, hpq11⟩ := Bools.at heq11 (i := k) (by omega) (by omega)
    refine Sq.val .plain rfl rfl (Still.at' sl23 (hpq11.ext E) rfl rfl) ?_
    refine Sq.val .plain rfl rfl (Still.loadA one4 rfl (hpq11.ext E).1) ?_
    obtain ⟨p12, hp13o⟩ := Own.at ho (i := k) (by omega) (by first | (simp only [List.length_map]; omega) | (simp; omega))
    refine Sq.atO sl23 hp13o .plain rfl rfl rfl ?_
    refine Sq.storeO one4 ho hp13o .plain rfl rfl rfl (fun w14 g15 ho16 => ?_)
    have hs17 := World.grownBy.size g15
    replace E := E.owned ho g15 (by omega)
    replace ho := ho16
    refine Sq.nil ?_
    refine Eq.end ?_
    refine Eq.next ?_
    refine Cq.region ?_
    refine Sq.move .plain rfl rfl ?_
    refine Sq.add .plain rfl rfl rfl (by omega) ?_
    refine Sq.assign .plain rfl rfl ?_
    refine Sq.nil ?_
    have e1 := toNat_succ hk.1
    refine Eq.round _ _ ⟨k + 1, rfl, by omega, by rw [e1, ← fillTo_succ (by omega), List.map_set]; exact ho, E, rfl⟩ (by omega) (.cons rfl (.cons rfl (.cons rfl (.nil))))
  refine Sq.nil ?_
  refine Eq.next ?_
  refine Cq.els rfl ?_
  refine Cq.exit ?_
  refine Eq.past ?_
  refine Eq.past ?_
  refine Eq.hit ?_
  refine Eq.next ?_
  refine Cq.seq ?_
  refine Cq.region ?_
  refine Sq.move .plain rfl rfl ?_
  refine Sq.assign .plain rfl rfl ?_
  refine Sq.nil ?_
  refine Eq.next ?_
  refine Cq.ret ?_
  refine Eq.ret1 rfl rfl ?_
  rw [fillTo_all (by omega)] at ho
  exact ⟨ho, E⟩
set_option maxRecDepth 100000 in
theorem toIntSS_c (w0 : World) (r : Value) (xss : List (List Int)) (hr : RowsX w0 r xss) (hl : xss.length ≤ 1048576) (hll : ∀ r ∈ xss, r.length ≤ 1048576) : Ret Tryd.prog 20 #[r] w0 (fun v w => OwnRows w w0.heap.size w.heap.size 27 3 v xss ∧ Ext w0 w) := by
  have E := Ext.refl w0
  refine Ret.of (args := [r]) Tryd.func20 rfl rfl rfl ?_
  rintro _ rfl
  show Cq _ _ _ _ [(0, r)] _
  refine Cq.seq ?_
  refine Cq.region ?_
  refine Sq.assign .plain rfl rfl ?_
  refine Sq.nil ?_
  refine Eq.next ?_
  refine Cq.seq ?_
  refine Cq.region ?_
  refine Sq.move .plain rfl rfl ?_
  obtain ⟨eq1, rsq1, heq1, hlq1⟩ := RowsX.len hr
  refine Sq.val .plain rfl rfl (Still.lenRow (heq1.ext E) und22 rfl) ?_
  rw [hlq1]
  refine Sq.make sl22 .plain rfl rfl rfl rfl (by omega) (fun b2 w3 e4 hlo5 ho6 => ?_)
  have hs7 := Below.size e4
  replace E := E.trans e4
  have hor := OwnRows.made (U := w3.heap.size) (e' := 3) (ho6 w0.heap.size (by omega))
  refine Sq.assign .plain rfl rfl ?_
  refine Sq.nil ?_
  refine Eq.next ?_
  refine Cq.seq ?_
  refine Cq.seq ?_
  refine Cq.region ?_
  refine Sq.assign .plain rfl rfl ?_
  refine Sq.nil ?_
  refine Eq.next ?_
  refine Cq.block ?_
  refine Cq.loop (fun nn w ls => ∃ (k : Int), ls = [(0, r), (3, Value.slice (some ⟨b2, 0, none⟩) (List.length xss : Int).toNat (List.length xss : Int).toNat), (4, Value.int .i64 k)] ∧ (0 ≤ k ∧ k ≤ xss.length) ∧ OwnRows w w0.heap.size w.heap.size 27 3 (Value.slice (some ⟨b2, 0, none⟩) (List.length xss : Int).toNat (List.length xss : Int).toNat) (fillTo xss [] k.toNat) ∧ Ext w0 w ∧ nn = ((xss.length : Int) - k).toNat) _ _ ⟨0, rfl, by omega, by rw [show (0 : Int).toNat = 0 from rfl, fillTo_zero]; exact hor, E, rfl⟩ (.cons rfl (.cons rfl (.cons rfl (.nil)))) ?_
  rintro nn wl1 ls ⟨k, rfl, hk, hor, E, rfl⟩
  have hs8 := Below.size E
  refine Cq.seq ?_
  refine Cq.seq ?_
  refine Cq.region ?_
  refine Sq.move .plain rfl rfl ?_
  refine Sq.move .plain rfl rfl ?_
  obtain ⟨eq9, rsq9, heq9, hlq9⟩ := RowsX.len hr
  refine Sq.val .plain rfl rfl (Still.lenRow (heq9.ext E) und22 rfl) ?_
  rw [hlq9]
  refine Sq.lss .plain rfl rfl rfl ?_
  refine Sq.part (fun c10 => ?_) (fun c10 => ?_)
  · refine Sq.nil ?_
    refine Eq.next ?_
    refine Cq.thn rfl ?_
    refine Cq.skip ?_
    refine Eq.next ?_
    refine Cq.seq ?_
    refine Cq.block ?_
    refine Cq.region ?_
    refine Sq.move .plain rfl rfl ?_
    refine Sq.move .plain rfl rfl ?_
    refine Sq.move .plain rfl rfl ?_
    refine Sq.move .plain rfl rfl ?_
    obtain ⟨eq11, pq11, rq11, hpq11, hrq11⟩ := RowsX.at hr (i := k) (by omega) (by omega)
    refine Sq.val .plain rfl rfl (Still.at' sl22 (hpq11.ext E) rfl rfl) ?_
    refine Sq.val .plain rfl rfl (Still.loadA one27 rfl (hpq11.ext E).1) ?_
    refine Sq.call fn35 .plain rfl rfl (toIntS_c _ _ _ (hrq11.ext E) (by exact hll _ (getD_mem (by omega)))) ?_
    rintro v12 w13 ⟨ho15, e14⟩
    have hs16 := Below.size E
    have hs17 := Below.size e14
    replace E := E.trans e14
    replace hor := hor.ext e14
    obtain ⟨rs3, hq1, hq2, hq3⟩ := OwnRows.put hor (by decide)
    have hfl := fillTo_length xss [] (k := k.toNat) (by omega)
    obtain ⟨pq, hpq⟩ := Own.at hq1 (i := k) (by omega) (by omega)
    refine Sq.atO sl22 hpq .plain rfl rfl rfl ?_
    refine Sq.storeO one27 hq1 hpq .plain rfl rfl (Row.one (Own.row ho15)) (fun w18 g19 ho20 => ?_)
    have hs21 := World.grownBy.size g19
    have hor := hq3 k.toNat _ _ _ (by omega) (Own.mono ho15 (by omega)) (by omega) ho20 g19
    replace E := E.owned hq1 g19 (by omega)
    refine Sq.nil ?_
    refine Eq.end ?_
    refine Eq.next ?_
    refine Cq.region ?_
    refine Sq.move .plain rfl rfl ?_
    refine Sq.add .plain rfl rfl rfl (by omega) ?_
    refine Sq.assign .plain rfl rfl ?_
    refine Sq.nil ?_
    have e1 := toNat_succ hk.1
    refine Eq.round _ _ ⟨k + 1, rfl, by omega, by rw [e1, ← fillTo_succ (by omega)]; exact hor, E, rfl⟩ (by omega) (.cons rfl (.cons rfl (.cons rfl (.nil))))
  refine Sq.nil ?_
  refine Eq.next ?_
  refine Cq.els rfl ?_
  refine Cq.exit ?_
  refine Eq.past ?_
  refine Eq.past ?_
  refine Eq.hit ?_
  refine Eq.next ?_
  refine Cq.seq ?_
  refine Cq.region ?_
  refine Sq.move .plain rfl rfl ?_
  refine Sq.assign .plain rfl rfl ?_
  refine Sq.nil ?_
  refine Eq.next ?_
  refine Cq.ret ?_
  refine Eq.ret1 rfl rfl ?_
  rw [fillTo_all (by omega)] at hor
  exact ⟨hor, E⟩
set_option maxRecDepth 100000 in
theorem toA_c (w0 : World) (a : A) (nx ac : Value) (hnx : RowsX w0 nx a.next) (hac : BoolsX w0 ac a.acc) (hsm : SmX a) : Ret Tryd.prog 7 #[Value.agg #[Value.int .i64 a.al, nx, ac]] w0 (fun v w => OwnA w w0.heap.size v a ∧ Ext w0 w) := by
  have E := Ext.refl w0
  refine Ret.of (args := [Value.agg #[Value.int .i64 a.al, nx, ac]]) Tryd.func7 rfl rfl rfl ?_
  rintro _ rfl
  show Cq _ _ _ _ [(0, Value.agg #[Value.int .i64 a.al, nx, ac])] _
  refine Cq.seq ?_
  refine Cq.region ?_
  refine Sq.box .plain rfl rfl (fun b1 w2 e3 hB4 hlo5 => ?_)
  have hd6 := Nat.le_trans (Below.size E) hlo5
  have hs7 := Below.size e3
  replace E := E.trans e3
  refine Sq.alloc zero29 .plain rfl (fun b8 w9 e10 hB11 hlo12 => ?_)
  have hd13 := Nat.le_trans (Below.size E) hlo12
  have hd14 := Nat.lt_of_lt_of_le hB4.lt hlo12
  have hs15 := Below.size e10
  replace E := E.trans e10
  replace hB4 := hB4.ext e10
  refine Sq.nil ?_
  refine Eq.next ?_
  refine Cq.seq ?_
  refine Cq.region ?_
  refine Sq.alloc zero29 .plain rfl (fun b16 w17 e18 hB19 hlo20 => ?_)
  have hd21 := Nat.le_trans (Below.size E) hlo20
  have hd22 := Nat.lt_of_lt_of_le hB4.lt hlo20
  have hd23 := Nat.lt_of_lt_of_le hB11.lt hlo20
  have hs24 := Below.size e18
  replace E := E.trans e18
  replace hB4 := hB4.ext e18
  replace hB11 := hB11.ext e18
  refine Sq.nil ?_
  refine Eq.next ?_
  refine Cq.seq ?_
  refine Cq.region ?_
  refine Sq.fieldAddr fld25_0 .plain rfl rfl ?_
  refine Sq.loadB one3 .plain rfl rfl hB4 rfl ?_
  refine Sq.fieldAddr fld29_0 .plain rfl rfl ?_
  refine Sq.store one3 .plain rfl rfl rfl hB19 (by simp) (fun w25 g26 hB27 => ?_)
  have hs28 := World.grownBy.size g26
  replace E := E.grown g26 (fun k hk => by injection hk with hk; subst hk; omega)
  replace hB4 := hB4.grown g26 (by intro h; injection h with h; omega)
  replace hB11 := hB11.grown g26 (by intro h; injection h with h; omega)
  replace hB19 := hB27
  refine Sq.nil ?_
  refine Eq.next ?_
  refine Cq.seq ?_
  refine Cq.region ?_
  refine Sq.fieldAddr fld25_1 .plain rfl rfl ?_
  refine Sq.loadB one22 .plain rfl rfl hB4 rfl ?_
  have hd33 := hB4.lt
  have hd34 := hB11.lt
  have hd35 := hB19.lt
  refine Sq.call fn20 .plain rfl rfl (toIntSS_c _ _ _ (hnx.ext E) hsm.1 hsm.2.1) ?_
  rintro v29 w30 ⟨ho32, e31⟩
  have hs36 := Below.size E
  have hs37 := Below.size e31
  replace E := E.trans e31
  replace hB4 := hB4.ext e31
  replace hB11 := hB11.ext e31
  replace hB19 := hB19.ext e31
  refine Sq.fieldAddr fld29_1 .plain rfl rfl ?_
  refine Sq.store one22 .plain rfl rfl (Rows.one (OwnRows.rows ho32)) hB19 (by simp) (fun w38 g39 hB40 => ?_)
  have hs41 := World.grownBy.size g39
  replace E := E.grown g39 (fun k hk => by injection hk with hk; subst hk; omega)
  replace hB4 := hB4.grown g39 (by intro h; injection h with h; omega)
  replace hB11 := hB11.grown g39 (by intro h; injection h with h; omega)
  replace ho32 := ho32.stored g39 hB19 (by decide) (by decide)
  replace hB19 := hB40
  refine Sq.nil ?_
  refine Eq.next ?_
  refine Cq.seq ?_
  refine Cq.region ?_
  refine Sq.fieldAddr fld25_2 .plain rfl rfl ?_
  refine Sq.loadB one23 .plain rfl rfl hB4 rfl ?_
  have hd46 := hB4.lt
  have hd47 := hB11.lt
  have hd48 := hB19.lt
  refine Sq.call fn21 .plain rfl rfl (toBoolS_c _ _ _ (hac.ext E) (by exact hsm.2.2)) ?_
  rintro v42 w43 ⟨ho45, e44⟩
  have hs49 := Below.size E
  have hs50 := Below.size e44
  replace E := E.trans e44
  replace hB11 := hB11.ext e44
  replace hB19 := hB19.ext e44
  replace ho32 := ho32.ext e44
  refine Sq.fieldAddr fld29_2 .plain rfl rfl ?_
  refine Sq.store one23 .plain rfl rfl (Row.one (Own.row ho45)) hB19 (by simp) (fun w51 g52 hB53 => ?_)
  have hs54 := World.grownBy.size g52
  replace E := E.grown g52 (fun k hk => by injection hk with hk; subst hk; omega)
  replace hB11 := hB11.grown g52 (by intro h; injection h with h; omega)
  replace ho32 := ho32.stored g52 hB19 (by decide) (by decide)
  replace ho45 := ho45.stored g52 hB19 (by decide)
  replace hB19 := hB53
  refine Sq.nil ?_
  refine Eq.next ?_
  refine Cq.seq ?_
  refine Cq.region ?_
  refine Sq.loadAgg agg29 .plain rfl rfl hB19 rfl ?_
  refine Sq.storeAgg agg29 .plain rfl rfl (one_cons rfl (one_cons (Rows.one (OwnRows.rows ho32)) (one_cons (Row.one (Own.row ho45)) one_nil))) hB11 rfl rfl (fun w55 g56 hB57 => ?_)
  have hs58 := World.grownBy.size g56
  replace E := E.grown g56 (fun k hk => by injection hk with hk; subst hk; omega)
  replace ho32 := ho32.stored g56 hB11 (by decide) (by decide)
  replace ho45 := ho45.stored g56 hB11 (by decide)
  replace hB11 := hB57
  refine Sq.nil ?_
  refine Eq.next ?_
  refine Cq.ret ?_
  refine Eq.retCell rfl rfl agg29 hB11 rfl ?_
  exact ⟨⟨_, _, rfl, OwnRows.now (OwnRows.mono ho32 (by omega)), Own.mono ho45 (by omega)⟩, E⟩
set_option maxRecDepth 100000 in
theorem eqIntS_c (w0 : World) (xs ys : List Int) (r q : Value) (hr : Ints w0 3 r xs) (hq : Ints w0 3 q ys) (hx : xs.length ≤ 1000000000) : Ret Tryd.prog 9 #[r, q] w0 (fun v w => v = .bool (xs == ys) ∧ Ext w0 w) := by
  have E := Ext.refl w0
  refine Ret.of (args := [r, q]) Tryd.func9 rfl rfl rfl ?_
  rintro _ rfl
  show Cq _ _ _ _ [(0, r), (1, q)] _
  refine Cq.seq ?_
  refine Cq.region ?_
  refine Sq.assign .plain rfl rfl ?_
  refine Sq.nil ?_
  refine Eq.next ?_
  refine Cq.seq ?_
  refine Cq.seq ?_
  refine Cq.region ?_
  refine Sq.move .plain rfl rfl ?_
  refine Sq.lenInts (hr.ext E) .plain rfl und27 rfl ?_
  refine Sq.move .plain rfl rfl ?_
  refine Sq.lenInts (hq.ext E) .plain rfl und27 rfl ?_
  refine Sq.neq .plain rfl rfl rfl ?_
  refine Sq.part (fun c1 => ?_) (fun c1 => ?_)
  · refine Sq.nil ?_
    refine Eq.next ?_
    refine Cq.thn rfl ?_
    refine Cq.seq ?_
    refine Cq.region ?_
    refine Sq.assign .plain rfl rfl ?_
    refine Sq.nil ?_
    refine Eq.next ?_
    refine Cq.ret ?_
    refine Eq.pastRet ?_
    refine Eq.ret1 rfl rfl ?_
    exact ⟨by first | rw [beq_len (by omega)] | rw [beq_at (k := k.toNat) 0 (by simpa using hne)] | rw [beq_done (k := k.toNat) hp (by omega) (by omega)], E⟩
  refine Sq.nil ?_
  refine Eq.next ?_
  refine Cq.els rfl ?_
  refine Cq.skip ?_
  refine Eq.next ?_
  refine Cq.seq ?_
  refine Cq.seq ?_
  refine Cq.region ?_
  refine Sq.assign .plain rfl rfl ?_
  refine Sq.nil ?_
  refine Eq.next ?_
  refine Cq.block ?_
  refine Cq.loop (fun nn w ls => ∃ (k : Int), ls = [(0, r), (1, q), (5, Value.int .i64 k)] ∧ xs.length = ys.length ∧ (0 ≤ k ∧ k ≤ xs.length) ∧ xs.take k.toNat = ys.take k.toNat ∧ Ext w0 w ∧ nn = ((xs.length : Int) - k).toNat) _ _ ⟨0, rfl, by omega, by omega, rfl, E, rfl⟩ (.cons rfl (.cons rfl (.cons rfl (.nil)))) ?_
  rintro nn wl1 ls ⟨k, rfl, hl, hk, hp, E, rfl⟩
  have hs2 := Below.size E
  refine Cq.seq ?_
  refine Cq.seq ?_
  refine Cq.region ?_
  refine Sq.move .plain rfl rfl ?_
  refine Sq.move .plain rfl rfl ?_
  refine Sq.lenInts (hr.ext E) .plain rfl und27 rfl ?_
  refine Sq.lss .plain rfl rfl rfl ?_
  refine Sq.part (fun c3 => ?_) (fun c3 => ?_)
  · refine Sq.nil ?_
    refine Eq.next ?_
    refine Cq.thn rfl ?_
    refine Cq.skip ?_
    refine Eq.next ?_
    refine Cq.seq ?_
    refine Cq.block ?_
    refine Cq.seq ?_
    refine Cq.draw 9 none mixed (fun w4 e5 => ?_)
    have hs6 := Below.size e5
    replace E := E.trans e5
    have E_w4 := E
    refine Gq.st 0 rfl (by kernel_rfl) rfl .plain rfl (fun _ _ _ h => h) (World.grownBy.refl w4 _) (fun w' x => Still.move rfl) ?_
    refine Gq.st 1 rfl (by kernel_rfl) rfl .plain rfl (fun _ _ _ h => h) (World.grownBy.refl w4 _) (fun w' x => Still.move rfl) ?_
    obtain ⟨p7, hp8_w4⟩ := Ints.at hr (i := k) (by omega) (by omega)
    refine Gq.st 2 rfl (by kernel_rfl) rfl .plain rfl (fun _ _ _ h => h) (World.grownBy.refl w4 _) (fun w' x => Still.at' sl27 hp8_w4 rfl rfl) ?_
    refine Gq.st 3 rfl (by kernel_rfl) rfl .plain rfl (fun _ _ _ h => h) (World.grownBy.refl w4 _) (fun w' x => Still.loadA one3 rfl (hp8_w4.ext (E_w4.trans (Ext.of_grown x))).1) ?_
    refine Gq.st 4 rfl (by kernel_rfl) rfl .plain rfl (fun _ _ _ h => h) (World.grownBy.refl w4 _) (fun w' x => Still.move rfl) ?_
    refine Gq.st 5 rfl (by kernel_rfl) rfl .plain rfl (fun _ _ _ h => h) (World.grownBy.refl w4 _) (fun w' x => Still.move rfl) ?_
    obtain ⟨p9, hp10_w4⟩ := Ints.at hq (i := k) (by omega) (by omega)
    refine Gq.st 6 rfl (by kernel_rfl) rfl .plain rfl (fun _ _ _ h => h) (World.grownBy.refl w4 _) (fun w' x => Still.at' sl27 hp10_w4 rfl rfl) ?_
    refine Gq.st 7 rfl (by kernel_rfl) rfl .plain rfl (fun _ _ _ h => h) (World.grownBy.refl w4 _) (fun w' x => Still.loadA one3 rfl (hp10_w4.ext (E_w4.trans (Ext.of_grown x))).1) ?_
    refine Gq.st 8 rfl (by kernel_rfl) rfl .plain rfl (fun _ _ _ h => h) (World.grownBy.refl w4 _) (fun w' x => Still.neq rfl rfl) ?_
    refine Gq.part (fun hne => ?_) (fun hne => ?_)
    · refine Gq.done (by kernel_rfl) ?_
      refine Eq.next ?_
      refine Cq.thn rfl ?_
      refine Cq.seq ?_
      refine Cq.region ?_
      refine Sq.assign .plain rfl rfl ?_
      refine Sq.nil ?_
      refine Eq.next ?_
      refine Cq.ret ?_
      refine Eq.outRet ?_
      refine Eq.pastRet ?_
      refine Eq.pastRet ?_
      refine Eq.outRet ?_
      refine Eq.pastRet ?_
      refine Eq.ret1 rfl rfl ?_
      exact ⟨by first | rw [beq_len (by omega)] | rw [beq_at (k := k.toNat) 0 (by simpa using hne)] | rw [beq_done (k := k.toNat) hp (by omega) (by omega)], E⟩
    refine Gq.done (by kernel_rfl) ?_
    refine Eq.next ?_
    refine Cq.els rfl ?_
    refine Cq.skip ?_
    refine Eq.end ?_
    refine Eq.next ?_
    refine Cq.region ?_
    refine Sq.move .plain rfl rfl ?_
    refine Sq.add .plain rfl rfl rfl (by omega) ?_
    refine Sq.assign .plain rfl rfl ?_
    refine Sq.nil ?_
    have e1 := toNat_succ hk.1
    refine Eq.round _ _ ⟨k + 1, rfl, hl, by omega, by rw [e1]; exact take_eq_snoc 0 hl hp (by omega) (by simpa using hne), E, rfl⟩ (by omega) (.cons rfl (.cons rfl (.cons rfl (.nil))))
  refine Sq.nil ?_
  refine Eq.next ?_
  refine Cq.els rfl ?_
  refine Cq.exit ?_
  refine Eq.past ?_
  refine Eq.past ?_
  refine Eq.hit ?_
  refine Eq.next ?_
  refine Cq.seq ?_
  refine Cq.region ?_
  refine Sq.assign .plain rfl rfl ?_
  refine Sq.nil ?_
  refine Eq.next ?_
  refine Cq.ret ?_
  refine Eq.ret1 rfl rfl ?_
  exact ⟨by first | rw [beq_len (by omega)] | rw [beq_at (k := k.toNat) 0 (by simpa using hne)] | rw [beq_done (k := k.toNat) hp (by omega) (by omega)], E⟩
set_option maxRecDepth 100000 in
theorem eqBoolS_c (w0 : World) (xs ys : List Bool) (r q : Value) (hr : Bools w0 4 r xs) (hq : Bools w0 4 q ys) (hx : xs.length ≤ 1000000000) : Ret Tryd.prog 25 #[r, q] w0 (fun v w => v = .bool (xs == ys) ∧ Ext w0 w) := by
  have E := Ext.refl w0
  refine Ret.of (args := [r, q]) Tryd.func25 rfl rfl rfl ?_
  rintro _ rfl
  show Cq _ _ _ _ [(0, r), (1, q)] _
  refine Cq.seq ?_
  refine Cq.region ?_
  refine Sq.assign .plain rfl rfl ?_
  refine Sq.nil ?_
  refine Eq.next ?_
  refine Cq.seq ?_
  refine Cq.seq ?_
  refine Cq.region ?_
  refine Sq.move .plain rfl rfl ?_
  refine Sq.lenBools (hr.ext E) .plain rfl und23 rfl ?_
  refine Sq.move .plain rfl rfl ?_
  refine Sq.lenBools (hq.ext E) .plain rfl und23 rfl ?_
  refine Sq.neq .plain rfl rfl rfl ?_
  refine Sq.part (fun c1 => ?_) (fun c1 => ?_)
  · refine Sq.nil ?_
    refine Eq.next ?_
    refine Cq.thn rfl ?_
    refine Cq.seq ?_
    refine Cq.region ?_
    refine Sq.assign .plain rfl rfl ?_
    refine Sq.nil ?_
    refine Eq.next ?_
    refine Cq.ret ?_
    refine Eq.pastRet ?_
    refine Eq.ret1 rfl rfl ?_
    exact ⟨by first | rw [beq_len (by omega)] | rw [beq_at (k := k.toNat) false (by simpa using hne)] | rw [beq_done (k := k.toNat) hp (by omega) (by omega)], E⟩
  refine Sq.nil ?_
  refine Eq.next ?_
  refine Cq.els rfl ?_
  refine Cq.skip ?_
  refine Eq.next ?_
  refine Cq.seq ?_
  refine Cq.seq ?_
  refine Cq.region ?_
  refine Sq.assign .plain rfl rfl ?_
  refine Sq.nil ?_
  refine Eq.next ?_
  refine Cq.block ?_
  refine Cq.loop (fun nn w ls => ∃ (k : Int), ls = [(0, r), (1, q), (5, Value.int .i64 k)] ∧ xs.length = ys.length ∧ (0 ≤ k ∧ k ≤ xs.length) ∧ xs.take k.toNat = ys.take k.toNat ∧ Ext w0 w ∧ nn = ((xs.length : Int) - k).toNat) _ _ ⟨0, rfl, by omega, by omega, rfl, E, rfl⟩ (.cons rfl (.cons rfl (.cons rfl (.nil)))) ?_
  rintro nn wl1 ls ⟨k, rfl, hl, hk, hp, E, rfl⟩
  have hs2 := Below.size E
  refine Cq.seq ?_
  refine Cq.seq ?_
  refine Cq.region ?_
  refine Sq.move .plain rfl rfl ?_
  refine Sq.move .plain rfl rfl ?_
  refine Sq.lenBools (hr.ext E) .plain rfl und23 rfl ?_
  refine Sq.lss .plain rfl rfl rfl ?_
  refine Sq.part (fun c3 => ?_) (fun c3 => ?_)
  · refine Sq.nil ?_
    refine Eq.next ?_
    refine Cq.thn rfl ?_
    refine Cq.skip ?_
    refine Eq.next ?_
    refine Cq.seq ?_
    refine Cq.block ?_
    refine Cq.seq ?_
    refine Cq.draw 9 none mixed (fun w4 e5 => ?_)
    have hs6 := Below.size e5
    replace E := E.trans e5
    have E_w4 := E
    refine Gq.st 0 rfl (by kernel_rfl) rfl .plain rfl (fun _ _ _ h => h) (World.grownBy.refl w4 _) (fun w' x => Still.move rfl) ?_
    refine Gq.st 1 rfl (by kernel_rfl) rfl .plain rfl (fun _ _ _ h => h) (World.grownBy.refl w4 _) (fun w' x => Still.move rfl) ?_
    obtain ⟨p7, hp8_w4⟩ := Bools.at hr (i := k) (by omega) (by omega)
    refine Gq.st 2 rfl (by kernel_rfl) rfl .plain rfl (fun _ _ _ h => h) (World.grownBy.refl w4 _) (fun w' x => Still.at' sl23 hp8_w4 rfl rfl) ?_
    refine Gq.st 3 rfl (by kernel_rfl) rfl .plain rfl (fun _ _ _ h => h) (World.grownBy.refl w4 _) (fun w' x => Still.loadA one4 rfl (hp8_w4.ext (E_w4.trans (Ext.of_grown x))).1) ?_
    refine Gq.st 4 rfl (by kernel_rfl) rfl .plain rfl (fun _ _ _ h => h) (World.grownBy.refl w4 _) (fun w' x => Still.move rfl) ?_
    refine Gq.st 5 rfl (by kernel_rfl) rfl .plain rfl (fun _ _ _ h => h) (World.grownBy.refl w4 _) (fun w' x => Still.move rfl) ?_
    obtain ⟨p9, hp10_w4⟩ := Bools.at hq (i := k) (by omega) (by omega)
    refine Gq.st 6 rfl (by kernel_rfl) rfl .plain rfl (fun _ _ _ h => h) (World.grownBy.refl w4 _) (fun w' x => Still.at' sl23 hp10_w4 rfl rfl) ?_
    refine Gq.st 7 rfl (by kernel_rfl) rfl .plain rfl (fun _ _ _ h => h) (World.grownBy.refl w4 _) (fun w' x => Still.loadA one4 rfl (hp10_w4.ext (E_w4.trans (Ext.of_grown x))).1) ?_
    refine Gq.st 8 rfl (by kernel_rfl) rfl .plain rfl (fun _ _ _ h => h) (World.grownBy.refl w4 _) (fun w' x => Still.neqB und4 rfl rfl) ?_
    refine Gq.partB (fun hne => ?_) (fun hne => ?_)
    · refine Gq.done (by kernel_rfl) ?_
      refine Eq.next ?_
      refine Cq.thn rfl ?_
      refine Cq.seq ?_
      refine Cq.region ?_
      refine Sq.assign .plain rfl rfl ?_
      refine Sq.nil ?_
      refine Eq.next ?_
      refine Cq.ret ?_
      refine Eq.outRet ?_
      refine Eq.pastRet ?_
      refine Eq.pastRet ?_
      refine Eq.outRet ?_
      refine Eq.pastRet ?_
      refine Eq.ret1 rfl rfl ?_
      exact ⟨by first | rw [beq_len (by omega)] | rw [beq_at (k := k.toNat) false (by simpa using hne)] | rw [beq_done (k := k.toNat) hp (by omega) (by omega)], E⟩
    refine Gq.done (by kernel_rfl) ?_
    refine Eq.next ?_
    refine Cq.els rfl ?_
    refine Cq.skip ?_
    refine Eq.end ?_
    refine Eq.next ?_
    refine Cq.region ?_
    refine Sq.move .plain rfl rfl ?_
    refine Sq.add .plain rfl rfl rfl (by omega) ?_
    refine Sq.assign .plain rfl rfl ?_
    refine Sq.nil ?_
    have e1 := toNat_succ hk.1
    refine Eq.round _ _ ⟨k + 1, rfl, hl, by omega, by rw [e1]; exact take_eq_snoc false hl hp (by omega) (by simpa using hne), E, rfl⟩ (by omega) (.cons rfl (.cons rfl (.cons rfl (.nil))))
  refine Sq.nil ?_
  refine Eq.next ?_
  refine Cq.els rfl ?_
  refine Cq.exit ?_
  refine Eq.past ?_
  refine Eq.past ?_
  refine Eq.hit ?_
  refine Eq.next ?_
  refine Cq.seq ?_
  refine Cq.region ?_
  refine Sq.assign .plain rfl rfl ?_
  refine Sq.nil ?_
  refine Eq.next ?_
  refine Cq.ret ?_
  refine Eq.ret1 rfl rfl ?_
  exact ⟨by first | rw [beq_len (by omega)] | rw [beq_at (k := k.toNat) false (by simpa using hne)] | rw [beq_done (k := k.toNat) hp (by omega) (by omega)], E⟩
set_option maxRecDepth 100000 in
theorem eqIntSS_c (w0 : World) (xss yss : List (List Int)) (r q : Value) (hr : Rows w0 27 3 r xss) (hq : Rows w0 27 3 q yss) (hx : xss.length ≤ 1048576) (hxx : ∀ r ∈ xss, r.length ≤ 1048576) : Ret Tryd.prog 24 #[r, q] w0 (fun v w => v = .bool (xss == yss) ∧ Ext w0 w) := by
  have E := Ext.refl w0
  refine Ret.of (args := [r, q]) Tryd.func24 rfl rfl rfl ?_
  rintro _ rfl
  show Cq _ _ _ _ [(0, r), (1, q)] _
  refine Cq.seq ?_
  refine Cq.region ?_
  refine Sq.assign .plain rfl rfl ?_
  refine Sq.nil ?_
  refine Eq.next ?_
  refine Cq.seq ?_
  refine Cq.seq ?_
  refine Cq.region ?_
  refine Sq.move .plain rfl rfl ?_
  refine Sq.lenRows (hr.ext E) .plain rfl und22 rfl ?_
  refine Sq.move .plain rfl rfl ?_
  refine Sq.lenRows (hq.ext E) .plain rfl und22 rfl ?_
  refine Sq.neq .plain rfl rfl rfl ?_
  refine Sq.part (fun c1 => ?_) (fun c1 => ?_)
  · refine Sq.nil ?_
    refine Eq.next ?_
    refine Cq.thn rfl ?_
    refine Cq.seq ?_
    refine Cq.region ?_
    refine Sq.assign .plain rfl rfl ?_
    refine Sq.nil ?_
    refine Eq.next ?_
    refine Cq.ret ?_
    refine Eq.pastRet ?_
    refine Eq.ret1 rfl rfl ?_
    exact ⟨by first | rw [beq_len (by omega)] | rw [beq_at (k := k.toNat) [] (by simpa using hne)] | rw [beq_done (k := k.toNat) hp (by omega) (by omega)], E⟩
  refine Sq.nil ?_
  refine Eq.next ?_
  refine Cq.els rfl ?_
  refine Cq.skip ?_
  refine Eq.next ?_
  refine Cq.seq ?_
  refine Cq.seq ?_
  refine Cq.region ?_
  refine Sq.assign .plain rfl rfl ?_
  refine Sq.nil ?_
  refine Eq.next ?_
  refine Cq.block ?_
  refine Cq.loop (fun nn w ls => ∃ (k : Int), ls = [(0, r), (1, q), (5, Value.int .i64 k)] ∧ xss.length = yss.length ∧ (0 ≤ k ∧ k ≤ xss.length) ∧ xss.take k.toNat = yss.take k.toNat ∧ Ext w0 w ∧ nn = ((xss.length : Int) - k).toNat) _ _ ⟨0, rfl, by omega, by omega, rfl, E, rfl⟩ (.cons rfl (.cons rfl (.cons rfl (.nil)))) ?_
  rintro nn wl1 ls ⟨k, rfl, hl, hk, hp, E, rfl⟩
  have hs2 := Below.size E
  refine Cq.seq ?_
  refine Cq.seq ?_
  refine Cq.region ?_
  refine Sq.move .plain rfl rfl ?_
  refine Sq.move .plain rfl rfl ?_
  refine Sq.lenRows (hr.ext E) .plain rfl und22 rfl ?_
  refine Sq.lss .plain rfl rfl rfl ?_
  refine Sq.part (fun c3 => ?_) (fun c3 => ?_)
  · refine Sq.nil ?_
    refine Eq.next ?_
    refine Cq.thn rfl ?_
    refine Cq.skip ?_
    refine Eq.next ?_
    refine Cq.seq ?_
    refine Cq.block ?_
    refine Cq.seq ?_
    refine Cq.draw 10 none mixed (fun w4 e5 => ?_)
    have hs6 := Below.size e5
    replace E := E.trans e5
    have E_w4 := E
    refine Gq.st 0 rfl (by kernel_rfl) rfl .plain rfl (fun _ _ _ h => h) (World.grownBy.refl w4 _) (fun w' x => Still.move rfl) ?_
    refine Gq.st 1 rfl (by kernel_rfl) rfl .plain rfl (fun _ _ _ h => h) (World.grownBy.refl w4 _) (fun w' x => Still.move rfl) ?_
    obtain ⟨p7, r9, hp8_w4, hr10⟩ := Rows.at hr (i := k) (by omega) (by omega)
    refine Gq.st 2 rfl (by kernel_rfl) rfl .plain rfl (fun _ _ _ h => h) (World.grownBy.refl w4 _) (fun w' x => Still.at' sl22 hp8_w4 rfl rfl) ?_
    refine Gq.st 3 rfl (by kernel_rfl) rfl .plain rfl (fun _ _ _ h => h) (World.grownBy.refl w4 _) (fun w' x => Still.loadA one27 rfl (hp8_w4.ext (E_w4.trans (Ext.of_grown x))).1) ?_
    refine Gq.st 4 rfl (by kernel_rfl) rfl .plain rfl (fun _ _ _ h => h) (World.grownBy.refl w4 _) (fun w' x => Still.move rfl) ?_
    refine Gq.st 5 rfl (by kernel_rfl) rfl .plain rfl (fun _ _ _ h => h) (World.grownBy.refl w4 _) (fun w' x => Still.move rfl) ?_
    obtain ⟨p11, r13, hp12_w4, hr14⟩ := Rows.at hq (i := k) (by omega) (by omega)
    refine Gq.st 6 rfl (by kernel_rfl) rfl .plain rfl (fun _ _ _ h => h) (World.grownBy.refl w4 _) (fun w' x => Still.at' sl22 hp12_w4 rfl rfl) ?_
    refine Gq.st 7 rfl (by kernel_rfl) rfl .plain rfl (fun _ _ _ h => h) (World.grownBy.refl w4 _) (fun w' x => Still.loadA one27 rfl (hp12_w4.ext (E_w4.trans (Ext.of_grown x))).1) ?_
    refine Gq.one 8 rfl (by kernel_rfl) ?_
    refine Sq.call fn9 .plain rfl rfl (eqIntS_c _ _ _ _ _ (hr10.ext E) (hr14.ext E) (by exact Nat.le_trans (hxx _ (getD_mem (by omega))) (by decide))) ?_
    rintro _ w16 ⟨rfl, e17⟩
    have hs18 := Below.size E
    have hs19 := Below.size e17
    replace E := E.trans e17
    refine Sq.partB (fun hne => ?_) (fun hne => ?_)
    · refine Sq.nil ?_
      refine Eq.goes (fun _ => (grown_trans (World.grownBy.refl w4 _) (Ext.to_grown e17 _))) ?_
      refine Gq.st 9 rfl (by kernel_rfl) rfl .plain rfl (fun _ _ _ h => h) (grown_trans (World.grownBy.refl w4 _) (Ext.to_grown e17 _)) (fun w' x => Still.notT rfl) ?_
      refine Gq.done (by kernel_rfl) ?_
      refine Eq.next ?_
      refine Cq.els rfl ?_
      refine Cq.skip ?_
      refine Eq.end ?_
      refine Eq.next ?_
      refine Cq.region ?_
      refine Sq.move .plain rfl rfl ?_
      refine Sq.add .plain rfl rfl rfl (by omega) ?_
      refine Sq.assign .plain rfl rfl ?_
      refine Sq.nil ?_
      have e1 := toNat_succ hk.1
      refine Eq.round _ _ ⟨k + 1, rfl, hl, by omega, by rw [e1]; exact take_eq_snoc [] hl hp (by omega) (by simpa using hne), E, rfl⟩ (by omega) (.cons rfl (.cons rfl (.cons rfl (.nil))))
    refine Sq.nil ?_
    refine Eq.goes (fun _ => (grown_trans (World.grownBy.refl w4 _) (Ext.to_grown e17 _))) ?_
    refine Gq.st 9 rfl (by kernel_rfl) rfl .plain rfl (fun _ _ _ h => h) (grown_trans (World.grownBy.refl w4 _) (Ext.to_grown e17 _)) (fun w' x => Still.notF rfl) ?_
    refine Gq.done (by kernel_rfl) ?_
    refine Eq.next ?_
    refine Cq.thn rfl ?_
    refine Cq.seq ?_
    refine Cq.region ?_
    refine Sq.assign .plain rfl rfl ?_
    refine Sq.nil ?_
    refine Eq.next ?_
    refine Cq.ret ?_
    refine Eq.outRet ?_
    refine Eq.pastRet ?_
    refine Eq.pastRet ?_
    refine Eq.outRet ?_
    refine Eq.pastRet ?_
    refine Eq.ret1 rfl rfl ?_
    exact ⟨by first | rw [beq_len (by omega)] | rw [beq_at (k := k.toNat) [] (by simpa using hne)] | rw [beq_done (k := k.toNat) hp (by omega) (by omega)], E⟩
  refine Sq.nil ?_
  refine Eq.next ?_
  refine Cq.els rfl ?_
  refine Cq.exit ?_
  refine Eq.past ?_
  refine Eq.past ?_
  refine Eq.hit ?_
  refine Eq.next ?_
  refine Cq.seq ?_
  refine Cq.region ?_
  refine Sq.assign .plain rfl rfl ?_
  refine Sq.nil ?_
  refine Eq.next ?_
  refine Cq.ret ?_
  refine Eq.ret1 rfl rfl ?_
  exact ⟨by first | rw [beq_len (by omega)] | rw [beq_at (k := k.toNat) [] (by simpa using hne)] | rw [beq_done (k := k.toNat) hp (by omega) (by omega)], E⟩
set_option maxRecDepth 100000 in
theorem eqAut_c (w0 : World) (a b : A) (nx ac nx' ac' : Value) (hnx : Rows w0 27 3 nx a.next) (hac : Bools w0 4 ac a.acc) (hnx' : Rows w0 27 3 nx' b.next) (hac' : Bools w0 4 ac' b.acc) (hsm : SmX a) : Ret Tryd.prog 10 #[Value.agg #[Value.int .i64 a.al, nx, ac], Value.agg #[Value.int .i64 b.al, nx', ac']] w0 (fun v w => v = .bool (eqA a b) ∧ Ext w0 w) := by
  have E := Ext.refl w0
  refine Ret.of (args := [Value.agg #[Value.int .i64 a.al, nx, ac], Value.agg #[Value.int .i64 b.al, nx', ac']]) Tryd.func10 rfl rfl rfl ?_
  rintro _ rfl
  show Cq _ _ _ _ [(0, Value.agg #[Value.int .i64 a.al, nx, ac]), (1, Value.agg #[Value.int .i64 b.al, nx', ac'])] _
  refine Cq.seq ?_
  refine Cq.region ?_
  refine Sq.box .plain rfl rfl (fun b1 w2 e3 hB4 hlo5 => ?_)
  have hd6 := Nat.le_trans (Below.size E) hlo5
  have hs7 := Below.size e3
  replace E := E.trans e3
  refine Sq.box .plain rfl rfl (fun b8 w9 e10 hB11 hlo12 => ?_)
  have hd13 := Nat.le_trans (Below.size E) hlo12
  have hd14 := Nat.lt_of_lt_of_le hB4.lt hlo12
  have hs15 := Below.size e10
  replace E := E.trans e10
  replace hB4 := hB4.ext e10
  refine Sq.assign .plain rfl rfl ?_
  refine Sq.nil ?_
  refine Eq.next ?_
  refine Cq.seq ?_
  refine Cq.seq ?_
  refine Cq.region ?_
  refine Sq.fieldAddr fld29_0 .plain rfl rfl ?_
  refine Sq.loadB one3 .plain rfl rfl hB4 rfl ?_
  refine Sq.fieldAddr fld29_0 .plain rfl rfl ?_
  refine Sq.loadB one3 .plain rfl rfl hB11 rfl ?_
  refine Sq.neq .plain rfl rfl rfl ?_
  refine Sq.part (fun h0 => ?_) (fun h0 => ?_)
  · refine Sq.nil ?_
    refine Eq.next ?_
    refine Cq.thn rfl ?_
    refine Cq.seq ?_
    refine Cq.region ?_
    refine Sq.assign .plain rfl rfl ?_
    refine Sq.nil ?_
    refine Eq.next ?_
    refine Cq.ret ?_
    refine Eq.pastRet ?_
    refine Eq.ret1 rfl rfl ?_
    exact ⟨by simp [eqA, h0], E⟩
  refine Sq.nil ?_
  refine Eq.next ?_
  refine Cq.els rfl ?_
  refine Cq.skip ?_
  refine Eq.next ?_
  refine Cq.seq ?_
  refine Cq.seq ?_
  refine Cq.region ?_
  refine Sq.fieldAddr fld29_1 .plain rfl rfl ?_
  refine Sq.loadB one22 .plain rfl rfl hB4 rfl ?_
  refine Sq.fieldAddr fld29_1 .plain rfl rfl ?_
  refine Sq.loadB one22 .plain rfl rfl hB11 rfl ?_
  have hd19 := hB4.lt
  have hd20 := hB11.lt
  refine Sq.call fn24 .plain rfl rfl (eqIntSS_c _ _ _ _ _ (hnx.ext E) (hnx'.ext E) hsm.1 hsm.2.1) ?_
  rintro _ w17 ⟨rfl, e18⟩
  have hs21 := Below.size E
  have hs22 := Below.size e18
  replace E := E.trans e18
  replace hB4 := hB4.ext e18
  replace hB11 := hB11.ext e18
  refine Sq.partB (fun h1 => ?_) (fun h1 => ?_)
  · refine Sq.notT .plain rfl rfl ?_
    refine Sq.nil ?_
    refine Eq.next ?_
    refine Cq.els rfl ?_
    refine Cq.skip ?_
    refine Eq.next ?_
    refine Cq.seq ?_
    refine Cq.seq ?_
    refine Cq.region ?_
    refine Sq.fieldAddr fld29_2 .plain rfl rfl ?_
    refine Sq.loadB one23 .plain rfl rfl hB4 rfl ?_
    refine Sq.fieldAddr fld29_2 .plain rfl rfl ?_
    refine Sq.loadB one23 .plain rfl rfl hB11 rfl ?_
    have hd26 := hB4.lt
    have hd27 := hB11.lt
    refine Sq.call fn25 .plain rfl rfl (eqBoolS_c _ _ _ _ _ (hac.ext E) (hac'.ext E) (by exact Nat.le_trans hsm.2.2 (by decide))) ?_
    rintro _ w24 ⟨rfl, e25⟩
    have hs28 := Below.size E
    have hs29 := Below.size e25
    replace E := E.trans e25
    refine Sq.partB (fun h2 => ?_) (fun h2 => ?_)
    · refine Sq.notT .plain rfl rfl ?_
      refine Sq.nil ?_
      refine Eq.next ?_
      refine Cq.els rfl ?_
      refine Cq.skip ?_
      refine Eq.next ?_
      refine Cq.seq ?_
      refine Cq.region ?_
      refine Sq.assign .plain rfl rfl ?_
      refine Sq.nil ?_
      refine Eq.next ?_
      refine Cq.ret ?_
      refine Eq.ret1 rfl rfl ?_
      have h0' : a.al = b.al := by omega
      exact ⟨by unfold eqA; rw [h1, h2, h0', beq_self_eq_true]; rfl, E⟩
    refine Sq.notF .plain rfl rfl ?_
    refine Sq.nil ?_
    refine Eq.next ?_
    refine Cq.thn rfl ?_
    refine Cq.seq ?_
    refine Cq.region ?_
    refine Sq.assign .plain rfl rfl ?_
    refine Sq.nil ?_
    refine Eq.next ?_
    refine Cq.ret ?_
    refine Eq.pastRet ?_
    refine Eq.ret1 rfl rfl ?_
    have h0' : a.al = b.al := by omega
    exact ⟨by unfold eqA; rw [h1, h2, h0', beq_self_eq_true]; rfl, E⟩
  refine Sq.notF .plain rfl rfl ?_
  refine Sq.nil ?_
  refine Eq.next ?_
  refine Cq.thn rfl ?_
  refine Cq.seq ?_
  refine Cq.region ?_
  refine Sq.assign .plain rfl rfl ?_
  refine Sq.nil ?_
  refine Eq.next ?_
  refine Cq.ret ?_
  refine Eq.pastRet ?_
  refine Eq.ret1 rfl rfl ?_
  have h0' : a.al = b.al := by omega
  exact ⟨by unfold eqA; rw [h1, h0', beq_self_eq_true]; rfl, E⟩
end Go.Proofs.YtdkdpmmfebdeaaaDoor
set_option linter.unusedSimpArgs false
set_option linter.unusedVariables false
namespace Go.Proofs.YtdkdpmmfebdeaaaDoor
open Go.RowKit
set_option maxRecDepth 100000 in
theorem lExClasses (w0 : World) (a : A) (nx ac : Value) (hnx : RowsX w0 nx a.next) (hac : BoolsX w0 ac a.acc) : Ret Tryd.prog 3 #[Value.agg #[Value.int .i64 a.al, nx, ac]] w0 (fun v w => v = .bool true ∧ Ext w0 w) := by
  have E := Ext.refl w0
  refine Ret.of (args := [Value.agg #[Value.int .i64 a.al, nx, ac]]) Tryd.func3 rfl rfl rfl ?_
  rintro _ rfl
  show Cq _ _ _ _ [(0, Value.agg #[Value.int .i64 a.al, nx, ac])] _
  refine Cq.seq ?_
  refine Cq.region ?_
  refine Sq.box .plain rfl rfl (fun b1 w2 e3 hB4 hlo5 => ?_)
  have hd6 := Nat.le_trans (Below.size E) hlo5
  have hs7 := Below.size e3
  replace E := E.trans e3
  refine Sq.assign .plain rfl rfl ?_
  refine Sq.nil ?_
  refine Eq.next ?_
  refine Cq.seq ?_
  refine Cq.region ?_
  refine Sq.assign .plain rfl rfl ?_
  refine Sq.nil ?_
  refine Eq.next ?_
  refine Cq.seq ?_
  refine Cq.region ?_
  refine Sq.loadAgg agg25 .plain rfl rfl hB4 rfl ?_
  refine Sq.move .plain rfl rfl ?_
  have hd14 := hB4.lt
  refine Sq.call fn5 .plain rfl rfl (szA_c _ a _ _ (hnx.ext E) (hac.ext E) 1048576 (by omega)) ?_
  rintro _ w9 ⟨⟨z11, rfl, hz12, hsm13⟩, e10⟩
  have hs15 := Below.size E
  have hs16 := Below.size e10
  replace E := E.trans e10
  replace hB4 := hB4.ext e10
  refine Sq.assign .plain rfl rfl ?_
  refine Sq.nil ?_
  refine Eq.next ?_
  refine Cq.seq ?_
  refine Cq.seq ?_
  refine Cq.region ?_
  refine Sq.move .plain rfl rfl ?_
  refine Sq.lss .plain rfl rfl rfl ?_
  refine Sq.part (fun c17 => ?_) (fun c17 => ?_)
  · refine Sq.nil ?_
    refine Eq.next ?_
    refine Cq.thn rfl ?_
    refine Cq.seq ?_
    refine Cq.region ?_
    refine Sq.assign .plain rfl rfl ?_
    refine Sq.nil ?_
    refine Eq.next ?_
    refine Cq.ret ?_
    refine Eq.pastRet ?_
    refine Eq.ret1 rfl rfl ?_
    exact ⟨rfl, E⟩
  refine Sq.nil ?_
  refine Eq.next ?_
  refine Cq.els rfl ?_
  refine Cq.skip ?_
  refine Eq.next ?_
  refine Cq.seq ?_
  refine Cq.region ?_
  refine Sq.loadAgg agg25 .plain rfl rfl hB4 rfl ?_
  have hd25 := hB4.lt
  refine Sq.call fn7 .plain rfl rfl (toA_c _ a _ _ (hnx.ext E) (hac.ext E) (hsm13 (by omega)).2) ?_
  rintro _ w19 ⟨⟨nx21, ac22, rfl, hn23, ha24⟩, e20⟩
  have hs26 := Below.size E
  have hs27 := Below.size e20
  replace E := E.trans e20
  replace hB4 := hB4.ext e20
  have hl_ha24 := Own.low ha24
  have hd32 := hB4.lt
  refine Sq.call fn6 .plain rfl rfl (sClasses_c _ a _ _ (OwnRows.rows hn23) (Own.row ha24)) ?_
  rintro v28 w29 ⟨hl31, e30⟩
  have hs33 := Below.size E
  have hs34 := Below.size e30
  replace E := E.trans e30
  replace hB4 := hB4.ext e30
  refine Sq.assign .plain rfl rfl ?_
  refine Sq.nil ?_
  refine Eq.next ?_
  refine Cq.seq ?_
  refine Cq.region ?_
  replace hl31 := Own.row hl31
  have Ew := Ext.refl w29
  refine Sq.loadAgg agg25 .plain rfl rfl hB4 rfl ?_
  have hd42 := hB4.lt
  refine Sq.call fn7 .plain rfl rfl (toA_c _ a _ _ (hnx.ext E) (hac.ext E) (hsm13 (by omega)).2) ?_
  rintro _ w36 ⟨⟨nx38, ac39, rfl, hn40, ha41⟩, e37⟩
  have hs43 := Below.size E
  have hs44 := Below.size Ew
  have hs45 := Below.size e37
  replace E := E.trans e37
  replace hB4 := hB4.ext e37
  replace Ew := Ew.trans e37
  have hl_ha41 := Own.low ha41
  refine Sq.alloc zero29 .plain rfl (fun b46 w47 e48 hB49 hlo50 => ?_)
  have hd51 := Nat.le_trans (Below.size E) hlo50
  have hd52 := Nat.lt_of_lt_of_le hB4.lt hlo50
  have hd53 := Nat.le_trans (Below.size Ew) hlo50
  have hs54 := Below.size e48
  replace E := E.trans e48
  replace hB4 := hB4.ext e48
  replace Ew := Ew.trans e48
  replace hn40 := hn40.ext e48
  replace ha41 := ha41.ext e48
  refine Sq.storeAgg agg29 .plain rfl rfl (one_cons rfl (one_cons (Rows.one (OwnRows.rows hn40)) (one_cons (Row.one (Own.row ha41)) one_nil))) hB49 rfl rfl (fun w55 g56 hB57 => ?_)
  have hs58 := World.grownBy.size g56
  replace E := E.grown g56 (fun k hk => by injection hk with hk; subst hk; omega)
  replace hB4 := hB4.grown g56 (by intro h; injection h with h; omega)
  replace Ew := Ew.grown g56 (fun k hk => by injection hk with hk; subst hk; omega)
  replace hn40 := hn40.stored g56 hB49 (by decide) (by decide)
  replace ha41 := ha41.stored g56 hB49 (by decide)
  replace hB49 := hB57
  refine Sq.nil ?_
  refine Eq.next ?_
  refine Cq.seq ?_
  refine Cq.region ?_
  refine Sq.loadAgg agg29 .plain rfl rfl hB49 rfl ?_
  have hd63 := hB4.lt
  have hd64 := hB49.lt
  refine Sq.call fn8 .plain rfl rfl (sc_c _ a _ _ (OwnRows.rows hn40) (Own.row ha41)) ?_
  rintro v59 w60 ⟨hl62, e61⟩
  have hs65 := Below.size E
  have hs66 := Below.size Ew
  have hs67 := Below.size e61
  replace E := E.trans e61
  replace hB4 := hB4.ext e61
  replace Ew := Ew.trans e61
  replace hn40 := hn40.ext e61
  replace ha41 := ha41.ext e61
  replace hB49 := hB49.ext e61
  refine Sq.assign .plain rfl rfl ?_
  refine Sq.nil ?_
  refine Eq.next ?_
  refine Cq.seq ?_
  refine Cq.seq ?_
  refine Cq.region ?_
  refine Sq.move .plain rfl rfl ?_
  refine Sq.move .plain rfl rfl ?_
  have hd71 := hB4.lt
  have hd72 := hB49.lt
  refine Sq.call fn9 .plain rfl rfl (eqIntS_c _ _ _ _ _ (Own.row hl62) (hl31.ext Ew) (by exact Nat.le_trans clsA_small (by decide))) ?_
  rintro _ w69 ⟨rfl, e70⟩
  have hs73 := Below.size E
  have hs74 := Below.size Ew
  have hs75 := Below.size e70
  replace E := E.trans e70
  replace hB4 := hB4.ext e70
  replace Ew := Ew.trans e70
  replace hn40 := hn40.ext e70
  replace ha41 := ha41.ext e70
  replace hB49 := hB49.ext e70
  replace hl62 := hl62.ext e70
  refine Sq.beT (beq_self_eq_true _) ?_
  refine Sq.notT .plain rfl rfl ?_
  refine Sq.nil ?_
  refine Eq.next ?_
  refine Cq.els rfl ?_
  refine Cq.skip ?_
  refine Eq.next ?_
  refine Cq.seq ?_
  refine Cq.seq ?_
  refine Cq.drawS 5 (fun w' => Blk w' b46 29 [Value.int .i64 a.al, nx38, ac39] ∧ Blk w' b1 25 [Value.int .i64 a.al, nx, ac]) mixed (⟨hB49, hB4⟩) (fun w76 e77 hS => ?_)
  clear hS
  have hs78 := Below.size e77
  replace E := E.trans e77
  replace hB4 := hB4.ext e77
  replace Ew := Ew.trans e77
  replace hn40 := hn40.ext e77
  replace ha41 := ha41.ext e77
  replace hB49 := hB49.ext e77
  replace hl62 := hl62.ext e77
  refine Gq.st 0 rfl (by kernel_rfl) rfl .plain rfl (fun _ _ _ h => h) ⟨hB49, hB4⟩ (fun w' x => Still.loadAgg agg29 rfl x.1 rfl) ?_
  refine Gq.st 1 rfl (by kernel_rfl) rfl .plain rfl (fun _ _ _ h => h) ⟨hB49, hB4⟩ (fun w' x => Still.loadAgg agg25 rfl x.2 rfl) ?_
  refine Gq.one 2 rfl (by kernel_rfl) ?_
  have hd86 := hB4.lt
  have hd87 := hB49.lt
  refine Sq.call fn7 .plain rfl rfl (toA_c _ a _ _ (hnx.ext E) (hac.ext E) (hsm13 (by omega)).2) ?_
  rintro _ w80 ⟨⟨nx82, ac83, rfl, hn84, ha85⟩, e81⟩
  have hs88 := Below.size E
  have hs89 := Below.size Ew
  have hs90 := Below.size e81
  replace E := E.trans e81
  replace hB4 := hB4.ext e81
  replace Ew := Ew.trans e81
  replace hn40 := hn40.ext e81
  replace ha41 := ha41.ext e81
  replace hB49 := hB49.ext e81
  replace hl62 := hl62.ext e81
  have hl_ha85 := Own.low ha85
  refine Sq.nil ?_
  refine Eq.goes (fun _ => ⟨hB49, hB4⟩) ?_
  refine Gq.one 3 rfl (by kernel_rfl) ?_
  have hd94 := hB4.lt
  have hd95 := hB49.lt
  refine Sq.call fn10 .plain rfl rfl (eqAut_c _ a a _ _ _ _ (OwnRows.rows hn40) (Own.row ha41) (OwnRows.rows hn84) (Own.row ha85) ((hsm13 (by omega)).2)) ?_
  rintro _ w92 ⟨rfl, e93⟩
  have hs96 := Below.size E
  have hs97 := Below.size Ew
  have hs98 := Below.size e93
  replace E := E.trans e93
  replace hB4 := hB4.ext e93
  replace Ew := Ew.trans e93
  replace hn40 := hn40.ext e93
  replace ha41 := ha41.ext e93
  replace hB49 := hB49.ext e93
  replace hl62 := hl62.ext e93
  refine Sq.beT (eqA_refl _) ?_
  refine Sq.nil ?_
  refine Eq.goes (fun _ => ⟨hB49, hB4⟩) ?_
  refine Gq.st 4 rfl (by kernel_rfl) rfl .plain rfl (fun _ _ _ h => h) ⟨hB49, hB4⟩ (fun w' x => Still.notT rfl) ?_
  refine Gq.done (by kernel_rfl) ?_
  refine Eq.next ?_
  refine Cq.els rfl ?_
  refine Cq.skip ?_
  refine Eq.next ?_
  refine Cq.seq ?_
  refine Cq.region ?_
  refine Sq.assign .plain rfl rfl ?_
  refine Sq.nil ?_
  refine Eq.next ?_
  refine Cq.seq ?_
  refine Cq.region ?_
  refine Sq.loadAgg agg29 .plain rfl rfl hB49 rfl ?_
  refine Sq.move .plain rfl rfl ?_
  have hcl := cntA_le (hsm13 (by omega)).2
  have hcn101 := cntA_nonneg a
  refine Sq.call fn11 .plain rfl rfl (markA_c _ w29.heap.size w36.heap.size a _ _ 1 hn40 ha41 hl_ha41 (hsm13 (by omega)).2 (by omega)) ?_
  rintro _ w99 ⟨rfl, hn', ha', hwr100⟩
  have hs102 := hwr100.size
  replace E := Ext.wrote E hwr100 (by omega)
  replace hB4 := Blk.wrote hB4 hwr100 (by omega)
  replace Ew := Ext.wrote Ew hwr100 (by omega)
  replace hB49 := Blk.wrote hB49 hwr100 (by omega)
  replace hl62 := Own.wrote hl62 hwr100 (by omega)
  clear hn' ha'
  refine Sq.assign .plain rfl rfl ?_
  refine Sq.nil ?_
  refine Eq.next ?_
  refine Cq.seq ?_
  refine Cq.seq ?_
  refine Cq.region ?_
  refine Sq.move .plain rfl rfl ?_
  refine Sq.lss .plain rfl rfl rfl ?_
  refine Sq.isF (by omega) ?_
  refine Sq.move .plain rfl rfl ?_
  refine Sq.move (.met rfl rfl rfl) rfl rfl ?_
  refine Sq.move (.met rfl rfl rfl) rfl rfl ?_
  have hd106 := hB4.lt
  have hd107 := hB49.lt
  refine Sq.call fn9 (.met rfl rfl rfl) rfl rfl (eqIntS_c _ _ _ _ _ (Own.row hl62) (hl31.ext Ew) (by exact Nat.le_trans clsA_small (by decide))) ?_
  rintro _ w104 ⟨rfl, e105⟩
  have hs108 := Below.size E
  have hs109 := Below.size Ew
  have hs110 := Below.size e105
  replace E := E.trans e105
  replace hB4 := hB4.ext e105
  replace Ew := Ew.trans e105
  replace hB49 := hB49.ext e105
  replace hl62 := hl62.ext e105
  refine Sq.beT (beq_self_eq_true _) ?_
  refine Sq.notT (.met rfl rfl rfl) rfl rfl ?_
  refine Sq.pickF .plain rfl rfl rfl ?_
  refine Sq.nil ?_
  refine Eq.next ?_
  refine Cq.els rfl ?_
  refine Cq.skip ?_
  refine Eq.next ?_
  refine Cq.seq ?_
  refine Cq.region ?_
  refine Sq.assign .plain rfl rfl ?_
  refine Sq.nil ?_
  refine Eq.next ?_
  refine Cq.seq ?_
  refine Cq.region ?_
  refine Sq.move .plain rfl rfl ?_
  refine Sq.move .plain rfl rfl ?_
  have hsi := clsA_small (a := a)
  refine Sq.call fn12 .plain rfl rfl (markI_c _ _ _ (clsA a) 1 hl62 (by omega) (by omega)) ?_
  rintro _ w111 ⟨rfl, ho', g112⟩
  have hs113 := World.grownBy.size g112
  replace E := E.owned hl62 g112 (by omega)
  replace hB4 := hB4.owned hl62 g112 (by decide)
  replace Ew := Ew.owned hl62 g112 (by omega)
  replace hB49 := hB49.owned hl62 g112 (by decide)
  replace hl62 := ho'
  clear ho'
  refine Sq.assign .plain rfl rfl ?_
  refine Sq.nil ?_
  refine Eq.next ?_
  refine Cq.seq ?_
  refine Cq.region ?_
  refine Sq.assign .plain rfl rfl ?_
  refine Sq.nil ?_
  refine Eq.next ?_
  refine Cq.seq ?_
  refine Cq.region ?_
  refine Sq.move .plain rfl rfl ?_
  refine Sq.move .plain rfl rfl ?_
  have hd117 := hB4.lt
  have hd118 := hB49.lt
  refine Sq.call fn13 .plain rfl rfl (heldI_c _ _ 1 ((clsA a)).length (Own.row hl62) (by omega) (by omega)) ?_
  rintro _ w115 ⟨rfl, e116⟩
  have hs119 := Below.size E
  have hs120 := Below.size Ew
  have hs121 := Below.size e116
  replace E := E.trans e116
  replace hB4 := hB4.ext e116
  replace Ew := Ew.trans e116
  replace hB49 := hB49.ext e116
  replace hl62 := hl62.ext e116
  refine Sq.assign .plain rfl rfl ?_
  refine Sq.nil ?_
  refine Eq.next ?_
  refine Cq.seq ?_
  refine Cq.seq ?_
  refine Cq.region ?_
  refine Sq.move .plain rfl rfl ?_
  refine Sq.lss .plain rfl rfl rfl ?_
  refine Sq.isF (by omega) ?_
  refine Sq.nil ?_
  refine Eq.next ?_
  refine Cq.els rfl ?_
  refine Cq.skip ?_
  refine Eq.next ?_
  refine Cq.seq ?_
  refine Cq.seq ?_
  refine Cq.region ?_
  refine Sq.move .plain rfl rfl ?_
  refine Sq.move .plain rfl rfl ?_
  refine Sq.neq .plain rfl rfl rfl ?_
  refine Sq.isF (by omega) ?_
  refine Sq.nil ?_
  refine Eq.next ?_
  refine Cq.els rfl ?_
  refine Cq.skip ?_
  refine Eq.next ?_
  refine Cq.seq ?_
  refine Cq.region ?_
  refine Sq.loadAgg agg25 .plain rfl rfl hB4 rfl ?_
  have hd129 := hB4.lt
  have hd130 := hB49.lt
  refine Sq.call fn7 .plain rfl rfl (toA_c _ a _ _ (hnx.ext E) (hac.ext E) (hsm13 (by omega)).2) ?_
  rintro _ w123 ⟨⟨nx125, ac126, rfl, hn127, ha128⟩, e124⟩
  have hs131 := Below.size E
  have hs132 := Below.size Ew
  have hs133 := Below.size e124
  replace E := E.trans e124
  replace hB4 := hB4.ext e124
  replace Ew := Ew.trans e124
  replace hB49 := hB49.ext e124
  replace hl62 := hl62.ext e124
  have hl_ha128 := Own.low ha128
  have hd138 := hB4.lt
  have hd139 := hB49.lt
  refine Sq.call fn8 .plain rfl rfl (sc_c _ a _ _ (OwnRows.rows hn127) (Own.row ha128)) ?_
  rintro v134 w135 ⟨hl137, e136⟩
  have hs140 := Below.size E
  have hs141 := Below.size Ew
  have hs142 := Below.size e136
  replace E := E.trans e136
  replace hB4 := hB4.ext e136
  replace Ew := Ew.trans e136
  replace hB49 := hB49.ext e136
  replace hl62 := hl62.ext e136
  refine Sq.assign .plain rfl rfl ?_
  refine Sq.nil ?_
  refine Eq.next ?_
  refine Cq.seq ?_
  refine Cq.seq ?_
  refine Cq.region ?_
  refine Sq.move .plain rfl rfl ?_
  refine Sq.move .plain rfl rfl ?_
  have hd146 := hB4.lt
  have hd147 := hB49.lt
  refine Sq.call fn9 .plain rfl rfl (eqIntS_c _ _ _ _ _ (Own.row hl137) (hl31.ext Ew) (by exact Nat.le_trans clsA_small (by decide))) ?_
  rintro _ w144 ⟨rfl, e145⟩
  have hs148 := Below.size E
  have hs149 := Below.size Ew
  have hs150 := Below.size e145
  replace E := E.trans e145
  replace hB4 := hB4.ext e145
  replace Ew := Ew.trans e145
  replace hB49 := hB49.ext e145
  replace hl62 := hl62.ext e145
  refine Sq.beT (beq_self_eq_true _) ?_
  refine Sq.notT .plain rfl rfl ?_
  refine Sq.nil ?_
  refine Eq.next ?_
  refine Cq.els rfl ?_
  refine Cq.skip ?_
  refine Eq.next ?_
  refine Cq.seq ?_
  refine Cq.region ?_
  refine Sq.assign .plain rfl rfl ?_
  refine Sq.nil ?_
  refine Eq.next ?_
  refine Cq.seq ?_
  refine Cq.region ?_
  refine Sq.move .plain rfl rfl ?_
  refine Sq.move .plain rfl rfl ?_
  have hd154 := hB4.lt
  have hd155 := hB49.lt
  refine Sq.call fn13 .plain rfl rfl (heldI_c _ _ 1 ((clsA a)).length (Own.row hl62) (by omega) (by omega)) ?_
  rintro _ w152 ⟨rfl, e153⟩
  have hs156 := Below.size E
  have hs157 := Below.size Ew
  have hs158 := Below.size e153
  replace E := E.trans e153
  refine Sq.assign .plain rfl rfl ?_
  refine Sq.nil ?_
  refine Eq.next ?_
  refine Cq.seq ?_
  refine Cq.seq ?_
  refine Cq.region ?_
  refine Sq.move .plain rfl rfl ?_
  refine Sq.lss .plain rfl rfl rfl ?_
  refine Sq.isF (by omega) ?_
  refine Sq.nil ?_
  refine Eq.next ?_
  refine Cq.els rfl ?_
  refine Cq.skip ?_
  refine Eq.next ?_
  refine Cq.seq ?_
  refine Cq.seq ?_
  refine Cq.region ?_
  refine Sq.move .plain rfl rfl ?_
  refine Sq.move .plain rfl rfl ?_
  refine Sq.neq .plain rfl rfl rfl ?_
  refine Sq.isF (by omega) ?_
  refine Sq.nil ?_
  refine Eq.next ?_
  refine Cq.els rfl ?_
  refine Cq.skip ?_
  refine Eq.next ?_
  refine Cq.seq ?_
  refine Cq.region ?_
  refine Sq.assign .plain rfl rfl ?_
  refine Sq.nil ?_
  refine Eq.next ?_
  refine Cq.ret ?_
  refine Eq.ret1 rfl rfl ?_
  exact ⟨rfl, E⟩
end Go.Proofs.YtdkdpmmfebdeaaaDoor
