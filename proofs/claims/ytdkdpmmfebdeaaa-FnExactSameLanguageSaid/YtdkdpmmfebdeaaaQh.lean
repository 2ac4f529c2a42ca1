/-
  Walks, printed by a program out of the translation and a contract for each function; each step is one law.
-/
import Derived.Test.YtdkdpmmfebdeaaaQg
import Derived.Test.YtdkdpmmfebdeaaaPf
set_option linter.unusedSimpArgs false
set_option linter.unusedVariables false
namespace Go.Proofs.Ytdkdpmmfebdeaaa
open Go.RowKit

set_option maxRecDepth 100000 in
theorem sCmp_c (w0 : World) (a b : A) (nx ac nx' ac' : Value) (hnx : Rows w0 52 3 nx a.next) (hac : Bools w0 4 ac a.acc) (hnx' : Rows w0 52 3 nx' b.next) (hac' : Bools w0 4 ac' b.acc) : Ret Try.prog 67 #[Value.agg #[Value.int .i64 a.al, nx, ac], Value.agg #[Value.int .i64 b.al, nx', ac']] w0 (fun v w => v = .bool (cmp2 a b) ∧ Ext w0 w) := by
  have E := Ext.refl w0
  refine Ret.of (args := [Value.agg #[Value.int .i64 a.al, nx, ac], Value.agg #[Value.int .i64 b.al, nx', ac']]) Try.func67 rfl rfl rfl ?_
  rintro _ rfl
  show Cq _ _ _ _ [(0, Value.agg #[Value.int .i64 a.al, nx, ac]), (1, Value.agg #[Value.int .i64 b.al, nx', ac'])] _
  refine Cq.seq ?_
  refine Cq.region ?_
  refine Sq.box .plain rfl rfl (fun b1 w2 e3 hB4 hlo5 => ?_)
  have hd6 := Nat.le_trans (Below.size E) hlo5
  have hs7 := Below.size e3
  replace E := E.trans e3
  refine Sq.box .plain rfl rfl (fun b8 w9 e10 hB11 hlo12 => ?_)
  have hd13 := Nat.le_trans (Below.size E) hlo12
  have hd14 := Nat.lt_of_lt_of_le hB4.lt hlo12
  have hs15 := Below.size e10
  replace E := E.trans e10
  replace hB4 := hB4.ext e10
  refine Sq.assign .plain rfl rfl ?_
  refine Sq.nil ?_
  refine Eq.next ?_
  refine Cq.seq ?_
  refine Cq.region ?_
  refine Sq.loadAgg agg27 .plain rfl rfl hB4 rfl ?_
  have hd19 := hB4.lt
  have hd20 := hB11.lt
  refine Sq.call fn40 .plain rfl rfl (sValid_c _ a _ _ (hnx.ext E) (hac.ext E)) ?_
  rintro _ w17 ⟨rfl, e18⟩
  have hs21 := Below.size E
  have hs22 := Below.size e18
  replace E := E.trans e18
  replace hB4 := hB4.ext e18
  replace hB11 := hB11.ext e18
  refine Sq.partB (fun hva => ?_) (fun hva => ?_)
  · refine Sq.move .plain rfl rfl ?_
    refine Sq.loadAgg agg27 (.met rfl rfl rfl) rfl rfl hB11 rfl ?_
    have hd26 := hB4.lt
    have hd27 := hB11.lt
    refine Sq.call fn40 (.met rfl rfl rfl) rfl rfl (sValid_c _ b _ _ (hnx'.ext E) (hac'.ext E)) ?_
    rintro _ w24 ⟨rfl, e25⟩
    have hs28 := Below.size E
    have hs29 := Below.size e25
    replace E := E.trans e25
    replace hB4 := hB4.ext e25
    replace hB11 := hB11.ext e25
    refine Sq.partB (fun hvb => ?_) (fun hvb => ?_)
    · refine Sq.pickT .plain rfl rfl rfl ?_
      refine Sq.move .plain rfl rfl ?_
      refine Sq.fieldAddr fld27_0 (.met rfl rfl rfl) rfl rfl ?_
      refine Sq.loadB one3 (.met rfl rfl rfl) rfl rfl hB4 rfl ?_
      refine Sq.fieldAddr fld27_0 (.met rfl rfl rfl) rfl rfl ?_
      refine Sq.loadB one3 (.met rfl rfl rfl) rfl rfl hB11 rfl ?_
      refine Sq.eql (.met rfl rfl rfl) rfl rfl rfl ?_
      refine Sq.pickT .plain rfl rfl rfl ?_
      refine Sq.assign .plain rfl rfl ?_
      refine Sq.nil ?_
      refine Eq.next ?_
      refine Cq.ret ?_
      refine Eq.ret1 rfl rfl ?_
      exact ⟨by simp [cmp2, hva, hvb], E⟩
    · refine Sq.pickT .plain rfl rfl rfl ?_
      refine Sq.move .plain rfl rfl ?_
      refine Sq.off rfl rfl rfl rfl rfl rfl ?_
      refine Sq.off rfl rfl rfl rfl rfl rfl ?_
      refine Sq.off rfl rfl rfl rfl rfl rfl ?_
      refine Sq.off rfl rfl rfl rfl rfl rfl ?_
      refine Sq.off rfl rfl rfl rfl rfl rfl ?_
      refine Sq.pickF .plain rfl rfl rfl ?_
      refine Sq.assign .plain rfl rfl ?_
      refine Sq.nil ?_
      refine Eq.next ?_
      refine Cq.ret ?_
      refine Eq.ret1 rfl rfl ?_
      exact ⟨by simp [cmp2, hva, hvb], E⟩
  · refine Sq.move .plain rfl rfl ?_
    refine Sq.off rfl rfl rfl rfl rfl rfl ?_
    refine Sq.off rfl rfl rfl rfl rfl rfl ?_
    refine Sq.pickF .plain rfl rfl rfl ?_
    refine Sq.move .plain rfl rfl ?_
    refine Sq.off rfl rfl rfl rfl rfl rfl ?_
    refine Sq.off rfl rfl rfl rfl rfl rfl ?_
    refine Sq.off rfl rfl rfl rfl rfl rfl ?_
    refine Sq.off rfl rfl rfl rfl rfl rfl ?_
    refine Sq.off rfl rfl rfl rfl rfl rfl ?_
    refine Sq.pickF .plain rfl rfl rfl ?_
    refine Sq.assign .plain rfl rfl ?_
    refine Sq.nil ?_
    refine Eq.next ?_
    refine Cq.ret ?_
    refine Eq.ret1 rfl rfl ?_
    exact ⟨by simp [cmp2, hva], E⟩

set_option maxRecDepth 100000 in
theorem sfAcc_c (w0 : World) (a : A) (nx ac : Value) (hnx : Rows w0 52 3 nx a.next) (hac : Bools w0 4 ac a.acc) : Ret Try.prog 22 #[Value.agg #[Value.int .i64 a.al, nx, ac]] w0 (fun v w => v = resW (fAcc a) ∧ Ext w0 w) := by
  have E := Ext.refl w0
  refine Ret.of (args := [Value.agg #[Value.int .i64 a.al, nx, ac]]) Try.func22 rfl rfl rfl ?_
  rintro _ rfl
  show Cq _ _ _ _ [(0, Value.agg #[Value.int .i64 a.al, nx, ac])] _
  refine Cq.seq ?_
  refine Cq.region ?_
  refine Sq.box .plain rfl rfl (fun b1 w2 e3 hB4 hlo5 => ?_)
  have hd6 := Nat.le_trans (Below.size E) hlo5
  have hs7 := Below.size e3
  replace E := E.trans e3
  refine Sq.assign .plain rfl rfl ?_
  refine Sq.assign .plain rfl rfl ?_
  refine Sq.nil ?_
  refine Eq.next ?_
  refine Cq.seq ?_
  refine Cq.seq ?_
  refine Cq.region ?_
  refine Sq.loadAgg agg27 .plain rfl rfl hB4 rfl ?_
  have hd11 := hB4.lt
  refine Sq.call fn40 .plain rfl rfl (sValid_c _ a _ _ (hnx.ext E) (hac.ext E)) ?_
  rintro _ w9 ⟨rfl, e10⟩
  have hs12 := Below.size E
  have hs13 := Below.size e10
  replace E := E.trans e10
  replace hB4 := hB4.ext e10
  refine Sq.partB (fun hv => ?_) (fun hv => ?_)
  · refine Sq.notT .plain rfl rfl ?_
    refine Sq.nil ?_
    refine Eq.next ?_
    refine Cq.els rfl ?_
    refine Cq.skip ?_
    refine Eq.next ?_
    refine Cq.seq ?_
    refine Cq.region ?_
    refine Sq.loadAgg agg27 .plain rfl rfl hB4 rfl ?_
    refine Sq.litW slw67 rfl rfl (by decide) .plain rfl (rows := [[Value.int .i64 a.al, nx, ac]]) rfl (fun r hr => by rw [List.mem_singleton.1 hr]; exact ⟨rfl, (one_cons rfl (one_cons (Rows.one (hnx.ext E)) (one_cons (Row.one (hac.ext E)) one_nil)))⟩) (fun b14 w15 e16 hlo17 ho18 _ => ?_)
    have hs20 := Below.size e16
    replace E := E.trans e16
    replace hB4 := hB4.ext e16
    have hN19 := NetA.of1 (ho18 _ (Nat.le_refl _)) (hnx.ext E) (hac.ext E)
    refine Sq.lit sl52 rfl rfl .plain rfl rfl (one_cons rfl one_nil) (fun b21 w22 e23 hlo24 ho25 _ => ?_)
    replace ho25 := ho25 w15.heap.size (Nat.le_refl _)
    have hs27 := Below.size e23
    replace E := E.trans e23
    replace hB4 := hB4.ext e23
    replace hN19 := hN19.ext e23
    refine Sq.fieldAddr fld27_0 .plain rfl rfl ?_
    refine Sq.loadB one3 .plain rfl rfl hB4 rfl ?_
    refine Sq.build st70 rfl rfl .plain rfl rfl (one_cons rfl (one_cons (Row.one (Own.row ho25)) (one_cons rfl (one_cons rfl one_nil)))) rfl ?_
    have hd30 := hB4.lt
    refine Sq.call fn60 .plain rfl rfl (Ret.resW (l4First_c _ [a] _ _ ([0] : List Int) a.al 0 0 hN19 (Own.row ho25) (netOk1 hv) (stOk1 (zero_in hv)) rfl (.inl rfl) (validA_spec.1 hv).1) (net1 hv (zero_in hv) (fun q => rfl))) ?_
    rintro _ w28 ⟨rfl, e29⟩
    have hs31 := Below.size E
    have hs32 := Below.size e29
    replace E := E.trans e29
    replace hB4 := hB4.ext e29
    replace hN19 := hN19.ext e29
    replace ho25 := ho25.ext e29
    refine Sq.extract .plain rfl rfl rfl ?_
    refine Sq.extract .plain rfl rfl rfl ?_
    refine Sq.assign .plain rfl rfl ?_
    refine Sq.assign .plain rfl rfl ?_
    refine Sq.nil ?_
    refine Eq.next ?_
    refine Cq.ret ?_
    refine Eq.ret2 rfl rfl rfl ?_
    exact ⟨by rw [fAcc, if_pos hv]; rfl, E⟩
  · refine Sq.notF .plain rfl rfl ?_
    refine Sq.nil ?_
    refine Eq.next ?_
    refine Cq.thn rfl ?_
    refine Cq.seq ?_
    refine Cq.region ?_
    refine Sq.assign .plain rfl rfl ?_
    refine Sq.assign .plain rfl rfl ?_
    refine Sq.nil ?_
    refine Eq.next ?_
    refine Cq.ret ?_
    refine Eq.pastRet ?_
    refine Eq.ret2 rfl rfl rfl ?_
    exact ⟨by rw [fAcc, if_neg (by rw [hv]; decide)]; rfl, E⟩

set_option maxRecDepth 100000 in
theorem l4Index_c (w0 : World) (a : A) (nx ac : Value) (hnx : Rows w0 52 3 nx a.next) (hac : Bools w0 4 ac a.acc) (i : Int) : Ret Try.prog 63 #[Value.agg #[Value.int .i64 a.al, nx, ac], Value.int .i64 i] w0 (fun v w => v = .bool (inA a i) ∧ Ext w0 w) := by
  have E := Ext.refl w0
  refine Ret.of (args := [Value.agg #[Value.int .i64 a.al, nx, ac], Value.int .i64 i]) Try.func63 rfl rfl rfl ?_
  rintro _ rfl
  show Cq _ _ _ _ [(0, Value.agg #[Value.int .i64 a.al, nx, ac]), (1, Value.int .i64 i)] _
  refine Cq.seq ?_
  refine Cq.region ?_
  refine Sq.box .plain rfl rfl (fun b1 w2 e3 hB4 hlo5 => ?_)
  have hd6 := Nat.le_trans (Below.size E) hlo5
  have hs7 := Below.size e3
  replace E := E.trans e3
  refine Sq.assign .plain rfl rfl ?_
  refine Sq.nil ?_
  refine Eq.next ?_
  refine Cq.seq ?_
  refine Cq.region ?_
  refine Sq.move .plain rfl rfl ?_
  refine Sq.geq .plain rfl rfl rfl ?_
  refine Sq.part (fun h0 => ?_) (fun h0 => ?_)
  · refine Sq.move .plain rfl rfl ?_
    refine Sq.move (.met rfl rfl rfl) rfl rfl ?_
    refine Sq.fieldAddr fld27_1 (.met rfl rfl rfl) rfl rfl ?_
    refine Sq.loadB one22 (.met rfl rfl rfl) rfl rfl hB4 rfl ?_
    refine Sq.lenRows (hnx.ext E) (.met rfl rfl rfl) rfl und22 rfl ?_
    refine Sq.lss (.met rfl rfl rfl) rfl rfl rfl ?_
    refine Sq.pickT .plain rfl rfl rfl ?_
    refine Sq.assign .plain rfl rfl ?_
    refine Sq.nil ?_
    refine Eq.next ?_
    refine Cq.ret ?_
    refine Eq.ret1 rfl rfl ?_
    exact ⟨by simp [inA]; omega, E⟩
  · refine Sq.move .plain rfl rfl ?_
    refine Sq.off rfl rfl rfl rfl rfl rfl ?_
    refine Sq.off rfl rfl rfl rfl rfl rfl ?_
    refine Sq.off rfl rfl rfl rfl rfl rfl ?_
    refine Sq.off rfl rfl rfl rfl rfl rfl ?_
    refine Sq.off rfl rfl rfl rfl rfl rfl ?_
    refine Sq.pickF .plain rfl rfl rfl ?_
    refine Sq.assign .plain rfl rfl ?_
    refine Sq.nil ?_
    refine Eq.next ?_
    refine Cq.ret ?_
    refine Eq.ret1 rfl rfl ?_
    exact ⟨by simp [inA]; omega, E⟩

set_option maxRecDepth 100000 in
theorem sfAt_c (w0 : World) (a : A) (nx ac : Value) (hnx : Rows w0 52 3 nx a.next) (hac : Bools w0 4 ac a.acc) (s0 : Int) : Ret Try.prog 24 #[Value.agg #[Value.int .i64 a.al, nx, ac], Value.int .i64 s0] w0 (fun v w => v = resW (fAt a s0) ∧ Ext w0 w) := by
  have E := Ext.refl w0
  refine Ret.of (args := [Value.agg #[Value.int .i64 a.al, nx, ac], Value.int .i64 s0]) Try.func24 rfl rfl rfl ?_
  rintro _ rfl
  show Cq _ _ _ _ [(0, Value.agg #[Value.int .i64 a.al, nx, ac]), (1, Value.int .i64 s0)] _
  refine Cq.seq ?_
  refine Cq.region ?_
  refine Sq.box .plain rfl rfl (fun b1 w2 e3 hB4 hlo5 => ?_)
  have hd6 := Nat.le_trans (Below.size E) hlo5
  have hs7 := Below.size e3
  replace E := E.trans e3
  refine Sq.assign .plain rfl rfl ?_
  refine Sq.assign .plain rfl rfl ?_
  refine Sq.nil ?_
  refine Eq.next ?_
  refine Cq.seq ?_
  refine Cq.seq ?_
  refine Cq.region ?_
  refine Sq.loadAgg agg27 .plain rfl rfl hB4 rfl ?_
  have hd11 := hB4.lt
  refine Sq.call fn40 .plain rfl rfl (sValid_c _ a _ _ (hnx.ext E) (hac.ext E)) ?_
  rintro _ w9 ⟨rfl, e10⟩
  have hs12 := Below.size E
  have hs13 := Below.size e10
  replace E := E.trans e10
  replace hB4 := hB4.ext e10
  refine Sq.partB (fun hv => ?_) (fun hv => ?_)
  · refine Sq.notT .plain rfl rfl ?_
    refine Sq.move .plain rfl rfl ?_
    refine Sq.loadAgg agg27 (.met rfl rfl rfl) rfl rfl hB4 rfl ?_
    refine Sq.move (.met rfl rfl rfl) rfl rfl ?_
    have hd17 := hB4.lt
    refine Sq.call fn63 (.met rfl rfl rfl) rfl rfl (l4Index_c _ a _ _ (hnx.ext E) (hac.ext E) s0) ?_
    rintro _ w15 ⟨rfl, e16⟩
    have hs18 := Below.size E
    have hs19 := Below.size e16
    replace E := E.trans e16
    replace hB4 := hB4.ext e16
    refine Sq.partB (fun hi => ?_) (fun hi => ?_)
    · refine Sq.notT (.met rfl rfl rfl) rfl rfl ?_
      refine Sq.pickF .plain rfl rfl rfl ?_
      refine Sq.nil ?_
      refine Eq.next ?_
      refine Cq.els rfl ?_
      refine Cq.skip ?_
      refine Eq.next ?_
      refine Cq.seq ?_
      refine Cq.region ?_
      refine Sq.loadAgg agg27 .plain rfl rfl hB4 rfl ?_
      refine Sq.litW slw67 rfl rfl (by decide) .plain rfl (rows := [[Value.int .i64 a.al, nx, ac]]) rfl (fun r hr => by rw [List.mem_singleton.1 hr]; exact ⟨rfl, (one_cons rfl (one_cons (Rows.one (hnx.ext E)) (one_cons (Row.one (hac.ext E)) one_nil)))⟩) (fun b20 w21 e22 hlo23 ho24 _ => ?_)
      have hs26 := Below.size e22
      replace E := E.trans e22
      replace hB4 := hB4.ext e22
      have hN25 := NetA.of1 (ho24 _ (Nat.le_refl _)) (hnx.ext E) (hac.ext E)
      refine Sq.lit sl52 rfl rfl .plain rfl rfl (one_cons rfl one_nil) (fun b27 w28 e29 hlo30 ho31 _ => ?_)
      replace ho31 := ho31 w21.heap.size (Nat.le_refl _)
      have hs33 := Below.size e29
      replace E := E.trans e29
      replace hB4 := hB4.ext e29
      replace hN25 := hN25.ext e29
      refine Sq.fieldAddr fld27_0 .plain rfl rfl ?_
      refine Sq.loadB one3 .plain rfl rfl hB4 rfl ?_
      refine Sq.move .plain rfl rfl ?_
      refine Sq.build st70 rfl rfl .plain rfl rfl (one_cons rfl (one_cons (Row.one (Own.row ho31)) (one_cons rfl (one_cons rfl (one_cons rfl one_nil))))) rfl ?_
      have hd36 := hB4.lt
      refine Sq.call fn60 .plain rfl rfl (Ret.resW (l4First_c _ [a] _ _ ([0] : List Int) a.al 5 s0 hN25 (Own.row ho31) (netOk1 hv) (stOk1 (zero_in hv)) rfl (.inr (.inl rfl)) (validA_spec.1 hv).1) (net1 hv (zero_in hv) (fun q => rfl))) ?_
      rintro _ w34 ⟨rfl, e35⟩
      have hs37 := Below.size E
      have hs38 := Below.size e35
      replace E := E.trans e35
      replace hB4 := hB4.ext e35
      replace hN25 := hN25.ext e35
      replace ho31 := ho31.ext e35
      refine Sq.extract .plain rfl rfl rfl ?_
      refine Sq.extract .plain rfl rfl rfl ?_
      refine Sq.assign .plain rfl rfl ?_
      refine Sq.assign .plain rfl rfl ?_
      refine Sq.nil ?_
      refine Eq.next ?_
      refine Cq.ret ?_
      refine Eq.ret2 rfl rfl rfl ?_
      exact ⟨by rw [fAt, if_pos hv]; rfl, E⟩
    · refine Sq.notF (.met rfl rfl rfl) rfl rfl ?_
      refine Sq.pickF .plain rfl rfl rfl ?_
      refine Sq.nil ?_
      refine Eq.next ?_
      refine Cq.thn rfl ?_
      refine Cq.seq ?_
      refine Cq.region ?_
      refine Sq.assign .plain rfl rfl ?_
      refine Sq.assign .plain rfl rfl ?_
      refine Sq.nil ?_
      refine Eq.next ?_
      refine Cq.ret ?_
      refine Eq.pastRet ?_
      refine Eq.ret2 rfl rfl rfl ?_
      exact ⟨by rw [fAt_out hi]; rfl, E⟩
  · refine Sq.notF .plain rfl rfl ?_
    refine Sq.move .plain rfl rfl ?_
    refine Sq.off rfl rfl rfl rfl rfl rfl ?_
    refine Sq.off rfl rfl rfl rfl rfl rfl ?_
    refine Sq.off rfl rfl rfl rfl rfl rfl ?_
    refine Sq.off rfl rfl rfl rfl rfl rfl ?_
    refine Sq.pickT .plain rfl rfl rfl ?_
    refine Sq.nil ?_
    refine Eq.next ?_
    refine Cq.thn rfl ?_
    refine Cq.seq ?_
    refine Cq.region ?_
    refine Sq.assign .plain rfl rfl ?_
    refine Sq.assign .plain rfl rfl ?_
    refine Sq.nil ?_
    refine Eq.next ?_
    refine Cq.ret ?_
    refine Eq.pastRet ?_
    refine Eq.ret2 rfl rfl rfl ?_
    exact ⟨by rw [fAt, if_neg (by rw [hv]; decide)]; rfl, E⟩

set_option maxRecDepth 100000 in
theorem sfDif_c (w0 : World) (a b : A) (nx ac nx' ac' : Value) (hnx : Rows w0 52 3 nx a.next) (hac : Bools w0 4 ac a.acc) (hnx' : Rows w0 52 3 nx' b.next) (hac' : Bools w0 4 ac' b.acc) : Ret Try.prog 28 #[Value.agg #[Value.int .i64 a.al, nx, ac], Value.agg #[Value.int .i64 b.al, nx', ac']] w0 (fun v w => v = resW (fDif a b) ∧ Ext w0 w) := by
  have E := Ext.refl w0
  refine Ret.of (args := [Value.agg #[Value.int .i64 a.al, nx, ac], Value.agg #[Value.int .i64 b.al, nx', ac']]) Try.func28 rfl rfl rfl ?_
  rintro _ rfl
  show Cq _ _ _ _ [(0, Value.agg #[Value.int .i64 a.al, nx, ac]), (1, Value.agg #[Value.int .i64 b.al, nx', ac'])] _
  refine Cq.seq ?_
  refine Cq.region ?_
  refine Sq.box .plain rfl rfl (fun b1 w2 e3 hB4 hlo5 => ?_)
  have hd6 := Nat.le_trans (Below.size E) hlo5
  have hs7 := Below.size e3
  replace E := E.trans e3
  refine Sq.box .plain rfl rfl (fun b8 w9 e10 hB11 hlo12 => ?_)
  have hd13 := Nat.le_trans (Below.size E) hlo12
  have hd14 := Nat.lt_of_lt_of_le hB4.lt hlo12
  have hs15 := Below.size e10
  replace E := E.trans e10
  replace hB4 := hB4.ext e10
  refine Sq.assign .plain rfl rfl ?_
  refine Sq.assign .plain rfl rfl ?_
  refine Sq.nil ?_
  refine Eq.next ?_
  refine Cq.seq ?_
  refine Cq.seq ?_
  refine Cq.region ?_
  refine Sq.loadAgg agg27 .plain rfl rfl hB4 rfl ?_
  refine Sq.loadAgg agg27 .plain rfl rfl hB11 rfl ?_
  have hd19 := hB4.lt
  have hd20 := hB11.lt
  refine Sq.call fn67 .plain rfl rfl (sCmp_c _ a b _ _ _ _ (hnx.ext E) (hac.ext E) (hnx'.ext E) (hac'.ext E)) ?_
  rintro _ w17 ⟨rfl, e18⟩
  have hs21 := Below.size E
  have hs22 := Below.size e18
  replace E := E.trans e18
  replace hB4 := hB4.ext e18
  replace hB11 := hB11.ext e18
  refine Sq.partB (fun hC => ?_) (fun hC => ?_)
  · refine Sq.notT .plain rfl rfl ?_
    refine Sq.nil ?_
    refine Eq.next ?_
    refine Cq.els rfl ?_
    refine Cq.skip ?_
    refine Eq.next ?_
    refine Cq.seq ?_
    refine Cq.region ?_
    refine Sq.loadAgg agg27 .plain rfl rfl hB4 rfl ?_
    refine Sq.loadAgg agg27 .plain rfl rfl hB11 rfl ?_
    refine Sq.litW slw67 rfl rfl (by decide) .plain rfl (rows := [[Value.int .i64 a.al, nx, ac], [Value.int .i64 b.al, nx', ac']]) rfl (fun r hr => (List.mem_cons.1 hr).elim (fun h => by rw [h]; exact ⟨rfl, (one_cons rfl (one_cons (Rows.one (hnx.ext E)) (one_cons (Row.one (hac.ext E)) one_nil)))⟩) (fun h => by rw [List.mem_singleton.1 h]; exact ⟨rfl, (one_cons rfl (one_cons (Rows.one (hnx'.ext E)) (one_cons (Row.one (hac'.ext E)) one_nil)))⟩)) (fun b23 w24 e25 hlo26 ho27 _ => ?_)
    have hs29 := Below.size e25
    replace E := E.trans e25
    replace hB4 := hB4.ext e25
    replace hB11 := hB11.ext e25
    have hN28 := NetA.of2 (ho27 _ (Nat.le_refl _)) (hnx.ext E) (hac.ext E) (hnx'.ext E) (hac'.ext E)
    refine Sq.lit sl52 rfl rfl .plain rfl rfl (one_cons rfl (one_cons rfl one_nil)) (fun b30 w31 e32 hlo33 ho34 _ => ?_)
    replace ho34 := ho34 w24.heap.size (Nat.le_refl _)
    have hs36 := Below.size e32
    replace E := E.trans e32
    replace hB4 := hB4.ext e32
    replace hB11 := hB11.ext e32
    replace hN28 := hN28.ext e32
    refine Sq.fieldAddr fld27_0 .plain rfl rfl ?_
    refine Sq.loadB one3 .plain rfl rfl hB4 rfl ?_
    refine Sq.build st70 rfl rfl .plain rfl rfl (one_cons rfl (one_cons (Row.one (Own.row ho34)) (one_cons rfl (one_cons rfl one_nil)))) rfl ?_
    have hd39 := hB4.lt
    have hd40 := hB11.lt
    refine Sq.call fn60 .plain rfl rfl (Ret.resW (l4First_c _ [a, b] _ _ ([0, 0] : List Int) a.al 1 0 hN28 (Own.row ho34) (netOk2 (cmp2_spec.1 hC).1 (cmp2_spec.1 hC).2.1) (stOk2 (zero_in (cmp2_spec.1 hC).1) (zero_in (cmp2_spec.1 hC).2.1)) rfl (.inr (.inr ⟨.inl rfl, rfl⟩)) (validA_spec.1 (cmp2_spec.1 hC).1).1) (net2 (g := (fun x y => x != y)) (cmp2_spec.1 hC).1 (cmp2_spec.1 hC).2.1 (in_zero (cmp2_spec.1 hC).1 (cmp2_spec.1 hC).2.1) (fun p q => rfl))) ?_
    rintro _ w37 ⟨rfl, e38⟩
    have hs41 := Below.size E
    have hs42 := Below.size e38
    replace E := E.trans e38
    replace hB4 := hB4.ext e38
    replace hB11 := hB11.ext e38
    replace hN28 := hN28.ext e38
    replace ho34 := ho34.ext e38
    refine Sq.extract .plain rfl rfl rfl ?_
    refine Sq.extract .plain rfl rfl rfl ?_
    refine Sq.assign .plain rfl rfl ?_
    refine Sq.assign .plain rfl rfl ?_
    refine Sq.nil ?_
    refine Eq.next ?_
    refine Cq.ret ?_
    refine Eq.ret2 rfl rfl rfl ?_
    exact ⟨by rw [fDif, fTwo, if_pos hC]; rfl, E⟩
  · refine Sq.notF .plain rfl rfl ?_
    refine Sq.nil ?_
    refine Eq.next ?_
    refine Cq.thn rfl ?_
    refine Cq.seq ?_
    refine Cq.region ?_
    refine Sq.assign .plain rfl rfl ?_
    refine Sq.assign .plain rfl rfl ?_
    refine Sq.nil ?_
    refine Eq.next ?_
    refine Cq.ret ?_
    refine Eq.pastRet ?_
    refine Eq.ret2 rfl rfl rfl ?_
    exact ⟨by rw [fDif, fTwo, if_neg (by rw [hC]; decide)]; rfl, E⟩

set_option maxRecDepth 100000 in
theorem sfOut_c (w0 : World) (a b : A) (nx ac nx' ac' : Value) (hnx : Rows w0 52 3 nx a.next) (hac : Bools w0 4 ac a.acc) (hnx' : Rows w0 52 3 nx' b.next) (hac' : Bools w0 4 ac' b.acc) : Ret Try.prog 30 #[Value.agg #[Value.int .i64 a.al, nx, ac], Value.agg #[Value.int .i64 b.al, nx', ac']] w0 (fun v w => v = resW (fOut a b) ∧ Ext w0 w) := by
  have E := Ext.refl w0
  refine Ret.of (args := [Value.agg #[Value.int .i64 a.al, nx, ac], Value.agg #[Value.int .i64 b.al, nx', ac']]) Try.func30 rfl rfl rfl ?_
  rintro _ rfl
  show Cq _ _ _ _ [(0, Value.agg #[Value.int .i64 a.al, nx, ac]), (1, Value.agg #[Value.int .i64 b.al, nx', ac'])] _
  refine Cq.seq ?_
  refine Cq.region ?_
  refine Sq.box .plain rfl rfl (fun b1 w2 e3 hB4 hlo5 => ?_)
  have hd6 := Nat.le_trans (Below.size E) hlo5
  have hs7 := Below.size e3
  replace E := E.trans e3
  refine Sq.box .plain rfl rfl (fun b8 w9 e10 hB11 hlo12 => ?_)
  have hd13 := Nat.le_trans (Below.size E) hlo12
  have hd14 := Nat.lt_of_lt_of_le hB4.lt hlo12
  have hs15 := Below.size e10
  replace E := E.trans e10
  replace hB4 := hB4.ext e10
  refine Sq.assign .plain rfl rfl ?_
  refine Sq.assign .plain rfl rfl ?_
  refine Sq.nil ?_
  refine Eq.next ?_
  refine Cq.seq ?_
  refine Cq.seq ?_
  refine Cq.region ?_
  refine Sq.loadAgg agg27 .plain rfl rfl hB4 rfl ?_
  refine Sq.loadAgg agg27 .plain rfl rfl hB11 rfl ?_
  have hd19 := hB4.lt
  have hd20 := hB11.lt
  refine Sq.call fn67 .plain rfl rfl (sCmp_c _ a b _ _ _ _ (hnx.ext E) (hac.ext E) (hnx'.ext E) (hac'.ext E)) ?_
  rintro _ w17 ⟨rfl, e18⟩
  have hs21 := Below.size E
  have hs22 := Below.size e18
  replace E := E.trans e18
  replace hB4 := hB4.ext e18
  replace hB11 := hB11.ext e18
  refine Sq.partB (fun hC => ?_) (fun hC => ?_)
  · refine Sq.notT .plain rfl rfl ?_
    refine Sq.nil ?_
    refine Eq.next ?_
    refine Cq.els rfl ?_
    refine Cq.skip ?_
    refine Eq.next ?_
    refine Cq.seq ?_
    refine Cq.region ?_
    refine Sq.loadAgg agg27 .plain rfl rfl hB4 rfl ?_
    refine Sq.loadAgg agg27 .plain rfl rfl hB11 rfl ?_
    refine Sq.litW slw67 rfl rfl (by decide) .plain rfl (rows := [[Value.int .i64 a.al, nx, ac], [Value.int .i64 b.al, nx', ac']]) rfl (fun r hr => (List.mem_cons.1 hr).elim (fun h => by rw [h]; exact ⟨rfl, (one_cons rfl (one_cons (Rows.one (hnx.ext E)) (one_cons (Row.one (hac.ext E)) one_nil)))⟩) (fun h => by rw [List.mem_singleton.1 h]; exact ⟨rfl, (one_cons rfl (one_cons (Rows.one (hnx'.ext E)) (one_cons (Row.one (hac'.ext E)) one_nil)))⟩)) (fun b23 w24 e25 hlo26 ho27 _ => ?_)
    have hs29 := Below.size e25
    replace E := E.trans e25
    replace hB4 := hB4.ext e25
    replace hB11 := hB11.ext e25
    have hN28 := NetA.of2 (ho27 _ (Nat.le_refl _)) (hnx.ext E) (hac.ext E) (hnx'.ext E) (hac'.ext E)
    refine Sq.lit sl52 rfl rfl .plain rfl rfl (one_cons rfl (one_cons rfl one_nil)) (fun b30 w31 e32 hlo33 ho34 _ => ?_)
    replace ho34 := ho34 w24.heap.size (Nat.le_refl _)
    have hs36 := Below.size e32
    replace E := E.trans e32
    replace hB4 := hB4.ext e32
    replace hB11 := hB11.ext e32
    replace hN28 := hN28.ext e32
    refine Sq.fieldAddr fld27_0 .plain rfl rfl ?_
    refine Sq.loadB one3 .plain rfl rfl hB4 rfl ?_
    refine Sq.build st70 rfl rfl .plain rfl rfl (one_cons rfl (one_cons (Row.one (Own.row ho34)) (one_cons rfl (one_cons rfl one_nil)))) rfl ?_
    have hd39 := hB4.lt
    have hd40 := hB11.lt
    refine Sq.call fn60 .plain rfl rfl (Ret.resW (l4First_c _ [a, b] _ _ ([0, 0] : List Int) a.al 2 0 hN28 (Own.row ho34) (netOk2 (cmp2_spec.1 hC).1 (cmp2_spec.1 hC).2.1) (stOk2 (zero_in (cmp2_spec.1 hC).1) (zero_in (cmp2_spec.1 hC).2.1)) rfl (.inr (.inr ⟨.inr rfl, rfl⟩)) (validA_spec.1 (cmp2_spec.1 hC).1).1) (net2 (g := (fun x y => x && !y)) (cmp2_spec.1 hC).1 (cmp2_spec.1 hC).2.1 (in_zero (cmp2_spec.1 hC).1 (cmp2_spec.1 hC).2.1) (fun p q => rfl))) ?_
    rintro _ w37 ⟨rfl, e38⟩
    have hs41 := Below.size E
    have hs42 := Below.size e38
    replace E := E.trans e38
    replace hB4 := hB4.ext e38
    replace hB11 := hB11.ext e38
    replace hN28 := hN28.ext e38
    replace ho34 := ho34.ext e38
    refine Sq.extract .plain rfl rfl rfl ?_
    refine Sq.extract .plain rfl rfl rfl ?_
    refine Sq.assign .plain rfl rfl ?_
    refine Sq.assign .plain rfl rfl ?_
    refine Sq.nil ?_
    refine Eq.next ?_
    refine Cq.ret ?_
    refine Eq.ret2 rfl rfl rfl ?_
    exact ⟨by rw [fOut, fTwo, if_pos hC]; rfl, E⟩
  · refine Sq.notF .plain rfl rfl ?_
    refine Sq.nil ?_
    refine Eq.next ?_
    refine Cq.thn rfl ?_
    refine Cq.seq ?_
    refine Cq.region ?_
    refine Sq.assign .plain rfl rfl ?_
    refine Sq.assign .plain rfl rfl ?_
    refine Sq.nil ?_
    refine Eq.next ?_
    refine Cq.ret ?_
    refine Eq.pastRet ?_
    refine Eq.ret2 rfl rfl rfl ?_
    exact ⟨by rw [fOut, fTwo, if_neg (by rw [hC]; decide)]; rfl, E⟩

set_option maxRecDepth 100000 in
theorem sSame_c (w0 : World) (a b : A) (nx ac nx' ac' : Value) (hnx : Rows w0 52 3 nx a.next) (hac : Bools w0 4 ac a.acc) (hnx' : Rows w0 52 3 nx' b.next) (hac' : Bools w0 4 ac' b.acc) : Ret Try.prog 34 #[Value.agg #[Value.int .i64 a.al, nx, ac], Value.agg #[Value.int .i64 b.al, nx', ac']] w0 (fun v w => v = .bool (sameL a b) ∧ Ext w0 w) := by
  have E := Ext.refl w0
  refine Ret.of (args := [Value.agg #[Value.int .i64 a.al, nx, ac], Value.agg #[Value.int .i64 b.al, nx', ac']]) Try.func34 rfl rfl rfl ?_
  rintro _ rfl
  show Cq _ _ _ _ [(0, Value.agg #[Value.int .i64 a.al, nx, ac]), (1, Value.agg #[Value.int .i64 b.al, nx', ac'])] _
  refine Cq.seq ?_
  refine Cq.region ?_
  refine Sq.box .plain rfl rfl (fun b1 w2 e3 hB4 hlo5 => ?_)
  have hd6 := Nat.le_trans (Below.size E) hlo5
  have hs7 := Below.size e3
  replace E := E.trans e3
  refine Sq.box .plain rfl rfl (fun b8 w9 e10 hB11 hlo12 => ?_)
  have hd13 := Nat.le_trans (Below.size E) hlo12
  have hd14 := Nat.lt_of_lt_of_le hB4.lt hlo12
  have hs15 := Below.size e10
  replace E := E.trans e10
  replace hB4 := hB4.ext e10
  refine Sq.assign .plain rfl rfl ?_
  refine Sq.nil ?_
  refine Eq.next ?_
  refine Cq.seq ?_
  refine Cq.region ?_
  refine Sq.loadAgg agg27 .plain rfl rfl hB4 rfl ?_
  refine Sq.loadAgg agg27 .plain rfl rfl hB11 rfl ?_
  have hd19 := hB4.lt
  have hd20 := hB11.lt
  refine Sq.call fn28 .plain rfl rfl (sfDif_c _ a b _ _ _ _ (hnx.ext E) (hac.ext E) (hnx'.ext E) (hac'.ext E)) ?_
  rintro _ w17 ⟨rfl, e18⟩
  have hs21 := Below.size E
  have hs22 := Below.size e18
  replace E := E.trans e18
  replace hB4 := hB4.ext e18
  replace hB11 := hB11.ext e18
  refine Sq.move .plain rfl rfl ?_
  refine Sq.extract .plain rfl rfl rfl ?_
  refine Sq.extract .plain rfl rfl rfl ?_
  refine Sq.assign .plain rfl rfl ?_
  refine Sq.assign .plain rfl rfl ?_
  refine Sq.nil ?_
  refine Eq.next ?_
  refine Cq.seq ?_
  refine Cq.region ?_
  refine Sq.loadAgg agg27 .plain rfl rfl hB4 rfl ?_
  refine Sq.loadAgg agg27 .plain rfl rfl hB11 rfl ?_
  have hd26 := hB4.lt
  have hd27 := hB11.lt
  refine Sq.call fn67 .plain rfl rfl (sCmp_c _ a b _ _ _ _ (hnx.ext E) (hac.ext E) (hnx'.ext E) (hac'.ext E)) ?_
  rintro _ w24 ⟨rfl, e25⟩
  have hs28 := Below.size E
  have hs29 := Below.size e25
  replace E := E.trans e25
  replace hB4 := hB4.ext e25
  replace hB11 := hB11.ext e25
  refine Sq.partB (fun hC => ?_) (fun hC => ?_)
  · refine Sq.move .plain rfl rfl ?_
    refine Sq.move (.met rfl rfl rfl) rfl rfl ?_
    refine Sq.not (.met rfl rfl rfl) rfl rfl ?_
    refine Sq.pickT .plain rfl rfl rfl ?_
    refine Sq.assign .plain rfl rfl ?_
    refine Sq.nil ?_
    refine Eq.next ?_
    refine Cq.ret ?_
    refine Eq.ret1 rfl rfl ?_
    exact ⟨by simp [sameL, hC], E⟩
  · refine Sq.move .plain rfl rfl ?_
    refine Sq.off rfl rfl rfl rfl rfl rfl ?_
    refine Sq.off rfl rfl rfl rfl rfl rfl ?_
    refine Sq.pickF .plain rfl rfl rfl ?_
    refine Sq.assign .plain rfl rfl ?_
    refine Sq.nil ?_
    refine Eq.next ?_
    refine Cq.ret ?_
    refine Eq.ret1 rfl rfl ?_
    exact ⟨by simp [sameL, hC], E⟩

set_option maxRecDepth 100000 in
theorem sWithin2_c (w0 : World) (a b : A) (nx ac nx' ac' : Value) (hnx : Rows w0 52 3 nx a.next) (hac : Bools w0 4 ac a.acc) (hnx' : Rows w0 52 3 nx' b.next) (hac' : Bools w0 4 ac' b.acc) : Ret Try.prog 32 #[Value.agg #[Value.int .i64 a.al, nx, ac], Value.agg #[Value.int .i64 b.al, nx', ac']] w0 (fun v w => v = .bool (withinL a b) ∧ Ext w0 w) := by
  have E := Ext.refl w0
  refine Ret.of (args := [Value.agg #[Value.int .i64 a.al, nx, ac], Value.agg #[Value.int .i64 b.al, nx', ac']]) Try.func32 rfl rfl rfl ?_
  rintro _ rfl
  show Cq _ _ _ _ [(0, Value.agg #[Value.int .i64 a.al, nx, ac]), (1, Value.agg #[Value.int .i64 b.al, nx', ac'])] _
  refine Cq.seq ?_
  refine Cq.region ?_
  refine Sq.box .plain rfl rfl (fun b1 w2 e3 hB4 hlo5 => ?_)
  have hd6 := Nat.le_trans (Below.size E) hlo5
  have hs7 := Below.size e3
  replace E := E.trans e3
  refine Sq.box .plain rfl rfl (fun b8 w9 e10 hB11 hlo12 => ?_)
  have hd13 := Nat.le_trans (Below.size E) hlo12
  have hd14 := Nat.lt_of_lt_of_le hB4.lt hlo12
  have hs15 := Below.size e10
  replace E := E.trans e10
  replace hB4 := hB4.ext e10
  refine Sq.assign .plain rfl rfl ?_
  refine Sq.nil ?_
  refine Eq.next ?_
  refine Cq.seq ?_
  refine Cq.region ?_
  refine Sq.loadAgg agg27 .plain rfl rfl hB4 rfl ?_
  refine Sq.loadAgg agg27 .plain rfl rfl hB11 rfl ?_
  have hd19 := hB4.lt
  have hd20 := hB11.lt
  refine Sq.call fn30 .plain rfl rfl (sfOut_c _ a b _ _ _ _ (hnx.ext E) (hac.ext E) (hnx'.ext E) (hac'.ext E)) ?_
  rintro _ w17 ⟨rfl, e18⟩
  have hs21 := Below.size E
  have hs22 := Below.size e18
  replace E := E.trans e18
  replace hB4 := hB4.ext e18
  replace hB11 := hB11.ext e18
  refine Sq.move .plain rfl rfl ?_
  refine Sq.extract .plain rfl rfl rfl ?_
  refine Sq.extract .plain rfl rfl rfl ?_
  refine Sq.assign .plain rfl rfl ?_
  refine Sq.assign .plain rfl rfl ?_
  refine Sq.nil ?_
  refine Eq.next ?_
  refine Cq.seq ?_
  refine Cq.region ?_
  refine Sq.loadAgg agg27 .plain rfl rfl hB4 rfl ?_
  refine Sq.loadAgg agg27 .plain rfl rfl hB11 rfl ?_
  have hd26 := hB4.lt
  have hd27 := hB11.lt
  refine Sq.call fn67 .plain rfl rfl (sCmp_c _ a b _ _ _ _ (hnx.ext E) (hac.ext E) (hnx'.ext E) (hac'.ext E)) ?_
  rintro _ w24 ⟨rfl, e25⟩
  have hs28 := Below.size E
  have hs29 := Below.size e25
  replace E := E.trans e25
  replace hB4 := hB4.ext e25
  replace hB11 := hB11.ext e25
  refine Sq.partB (fun hC => ?_) (fun hC => ?_)
  · refine Sq.move .plain rfl rfl ?_
    refine Sq.move (.met rfl rfl rfl) rfl rfl ?_
    refine Sq.not (.met rfl rfl rfl) rfl rfl ?_
    refine Sq.pickT .plain rfl rfl rfl ?_
    refine Sq.assign .plain rfl rfl ?_
    refine Sq.nil ?_
    refine Eq.next ?_
    refine Cq.ret ?_
    refine Eq.ret1 rfl rfl ?_
    exact ⟨by simp [withinL, hC], E⟩
  · refine Sq.move .plain rfl rfl ?_
    refine Sq.off rfl rfl rfl rfl rfl rfl ?_
    refine Sq.off rfl rfl rfl rfl rfl rfl ?_
    refine Sq.pickF .plain rfl rfl rfl ?_
    refine Sq.assign .plain rfl rfl ?_
    refine Sq.nil ?_
    refine Eq.next ?_
    refine Cq.ret ?_
    refine Eq.ret1 rfl rfl ?_
    exact ⟨by simp [withinL, hC], E⟩

set_option maxRecDepth 100000 in
theorem sfSplit_c (w0 : World) (a : A) (nx ac : Value) (hnx : Rows w0 52 3 nx a.next) (hac : Bools w0 4 ac a.acc) (i j : Int) : Ret Try.prog 26 #[Value.agg #[Value.int .i64 a.al, nx, ac], Value.int .i64 i, Value.int .i64 j] w0 (fun v w => v = resW (fSplit a i j) ∧ Ext w0 w) := by
  have E := Ext.refl w0
  refine Ret.of (args := [Value.agg #[Value.int .i64 a.al, nx, ac], Value.int .i64 i, Value.int .i64 j]) Try.func26 rfl rfl rfl ?_
  rintro _ rfl
  show Cq _ _ _ _ [(0, Value.agg #[Value.int .i64 a.al, nx, ac]), (1, Value.int .i64 i), (2, Value.int .i64 j)] _
  refine Cq.seq ?_
  refine Cq.region ?_
  refine Sq.box .plain rfl rfl (fun b1 w2 e3 hB4 hlo5 => ?_)
  have hd6 := Nat.le_trans (Below.size E) hlo5
  have hs7 := Below.size e3
  replace E := E.trans e3
  refine Sq.assign .plain rfl rfl ?_
  refine Sq.assign .plain rfl rfl ?_
  refine Sq.nil ?_
  refine Eq.next ?_
  refine Cq.seq ?_
  refine Cq.seq ?_
  refine Cq.region ?_
  refine Sq.loadAgg agg27 .plain rfl rfl hB4 rfl ?_
  have hd11 := hB4.lt
  refine Sq.call fn40 .plain rfl rfl (sValid_c _ a _ _ (hnx.ext E) (hac.ext E)) ?_
  rintro _ w9 ⟨rfl, e10⟩
  have hs12 := Below.size E
  have hs13 := Below.size e10
  replace E := E.trans e10
  replace hB4 := hB4.ext e10
  refine Sq.partB (fun hv => ?_) (fun hv => ?_)
  · refine Sq.notT .plain rfl rfl ?_
    refine Sq.move .plain rfl rfl ?_
    refine Sq.loadAgg agg27 (.met rfl rfl rfl) rfl rfl hB4 rfl ?_
    refine Sq.move (.met rfl rfl rfl) rfl rfl ?_
    have hd17 := hB4.lt
    refine Sq.call fn63 (.met rfl rfl rfl) rfl rfl (l4Index_c _ a _ _ (hnx.ext E) (hac.ext E) i) ?_
    rintro _ w15 ⟨rfl, e16⟩
    have hs18 := Below.size E
    have hs19 := Below.size e16
    replace E := E.trans e16
    replace hB4 := hB4.ext e16
    refine Sq.partB (fun hi => ?_) (fun hi => ?_)
    · refine Sq.notT (.met rfl rfl rfl) rfl rfl ?_
      refine Sq.pickF .plain rfl rfl rfl ?_
      refine Sq.move .plain rfl rfl ?_
      refine Sq.loadAgg agg27 (.met rfl rfl rfl) rfl rfl hB4 rfl ?_
      refine Sq.move (.met rfl rfl rfl) rfl rfl ?_
      have hd23 := hB4.lt
      refine Sq.call fn63 (.met rfl rfl rfl) rfl rfl (l4Index_c _ a _ _ (hnx.ext E) (hac.ext E) j) ?_
      rintro _ w21 ⟨rfl, e22⟩
      have hs24 := Below.size E
      have hs25 := Below.size e22
      replace E := E.trans e22
      replace hB4 := hB4.ext e22
      refine Sq.partB (fun hj => ?_) (fun hj => ?_)
      · refine Sq.notT (.met rfl rfl rfl) rfl rfl ?_
        refine Sq.pickF .plain rfl rfl rfl ?_
        refine Sq.nil ?_
        refine Eq.next ?_
        refine Cq.els rfl ?_
        refine Cq.skip ?_
        refine Eq.next ?_
        refine Cq.seq ?_
        refine Cq.region ?_
        refine Sq.loadAgg agg27 .plain rfl rfl hB4 rfl ?_
        refine Sq.loadAgg agg27 .plain rfl rfl hB4 rfl ?_
        refine Sq.litW slw67 rfl rfl (by decide) .plain rfl (rows := [[Value.int .i64 a.al, nx, ac], [Value.int .i64 a.al, nx, ac]]) rfl (fun r hr => (List.mem_cons.1 hr).elim (fun h => by rw [h]; exact ⟨rfl, (one_cons rfl (one_cons (Rows.one (hnx.ext E)) (one_cons (Row.one (hac.ext E)) one_nil)))⟩) (fun h => by rw [List.mem_singleton.1 h]; exact ⟨rfl, (one_cons rfl (one_cons (Rows.one (hnx.ext E)) (one_cons (Row.one (hac.ext E)) one_nil)))⟩)) (fun b26 w27 e28 hlo29 ho30 _ => ?_)
        have hs32 := Below.size e28
        replace E := E.trans e28
        replace hB4 := hB4.ext e28
        have hN31 := NetA.of2 (ho30 _ (Nat.le_refl _)) (hnx.ext E) (hac.ext E) (hnx.ext E) (hac.ext E)
        refine Sq.move .plain rfl rfl ?_
        refine Sq.move .plain rfl rfl ?_
        refine Sq.lit sl52 rfl rfl .plain rfl rfl (one_cons rfl (one_cons rfl one_nil)) (fun b33 w34 e35 hlo36 ho37 _ => ?_)
        replace ho37 := ho37 w27.heap.size (Nat.le_refl _)
        have hs39 := Below.size e35
        replace E := E.trans e35
        replace hB4 := hB4.ext e35
        replace hN31 := hN31.ext e35
        refine Sq.fieldAddr fld27_0 .plain rfl rfl ?_
        refine Sq.loadB one3 .plain rfl rfl hB4 rfl ?_
        refine Sq.build st70 rfl rfl .plain rfl rfl (one_cons rfl (one_cons (Row.one (Own.row ho37)) (one_cons rfl (one_cons rfl one_nil)))) rfl ?_
        have hd42 := hB4.lt
        refine Sq.call fn60 .plain rfl rfl (Ret.resW (l4First_c _ [a, a] _ _ ([i, j] : List Int) a.al 1 0 hN31 (Own.row ho37) (netOk2 hv hv) (stOk2 (of_decide_eq_true hi) (of_decide_eq_true hj)) rfl (.inr (.inr ⟨.inl rfl, rfl⟩)) (validA_spec.1 hv).1) (net2 (g := fun x y => x != y) hv hv ⟨of_decide_eq_true hi, of_decide_eq_true hj⟩ (fun p q => rfl))) ?_
        rintro _ w40 ⟨rfl, e41⟩
        have hs43 := Below.size E
        have hs44 := Below.size e41
        replace E := E.trans e41
        replace hB4 := hB4.ext e41
        replace hN31 := hN31.ext e41
        replace ho37 := ho37.ext e41
        refine Sq.extract .plain rfl rfl rfl ?_
        refine Sq.extract .plain rfl rfl rfl ?_
        refine Sq.assign .plain rfl rfl ?_
        refine Sq.assign .plain rfl rfl ?_
        refine Sq.nil ?_
        refine Eq.next ?_
        refine Cq.ret ?_
        refine Eq.ret2 rfl rfl rfl ?_
        exact ⟨by rw [fSplit, hv, hi, hj]; rfl, E⟩
      · refine Sq.notF (.met rfl rfl rfl) rfl rfl ?_
        refine Sq.pickF .plain rfl rfl rfl ?_
        refine Sq.nil ?_
        refine Eq.next ?_
        refine Cq.thn rfl ?_
        refine Cq.seq ?_
        refine Cq.region ?_
        refine Sq.assign .plain rfl rfl ?_
        refine Sq.assign .plain rfl rfl ?_
        refine Sq.nil ?_
        refine Eq.next ?_
        refine Cq.ret ?_
        refine Eq.pastRet ?_
        refine Eq.ret2 rfl rfl rfl ?_
        have hC : ¬ (validA a && (inA a i && inA a j)) = true := by simp [hv, hi, hj]
        exact ⟨by rw [fSplit, if_neg hC]; rfl, E⟩
    · refine Sq.notF (.met rfl rfl rfl) rfl rfl ?_
      refine Sq.pickF .plain rfl rfl rfl ?_
      refine Sq.move .plain rfl rfl ?_
      refine Sq.off rfl rfl rfl rfl rfl rfl ?_
      refine Sq.off rfl rfl rfl rfl rfl rfl ?_
      refine Sq.off rfl rfl rfl rfl rfl rfl ?_
      refine Sq.off rfl rfl rfl rfl rfl rfl ?_
      refine Sq.pickT .plain rfl rfl rfl ?_
      refine Sq.nil ?_
      refine Eq.next ?_
      refine Cq.thn rfl ?_
      refine Cq.seq ?_
      refine Cq.region ?_
      refine Sq.assign .plain rfl rfl ?_
      refine Sq.assign .plain rfl rfl ?_
      refine Sq.nil ?_
      refine Eq.next ?_
      refine Cq.ret ?_
      refine Eq.pastRet ?_
      refine Eq.ret2 rfl rfl rfl ?_
      have hC : ¬ (validA a && (inA a i && inA a j)) = true := by simp [hv, hi]
      exact ⟨by rw [fSplit, if_neg hC]; rfl, E⟩
  · refine Sq.notF .plain rfl rfl ?_
    refine Sq.move .plain rfl rfl ?_
    refine Sq.off rfl rfl rfl rfl rfl rfl ?_
    refine Sq.off rfl rfl rfl rfl rfl rfl ?_
    refine Sq.off rfl rfl rfl rfl rfl rfl ?_
    refine Sq.off rfl rfl rfl rfl rfl rfl ?_
    refine Sq.pickT .plain rfl rfl rfl ?_
    refine Sq.move .plain rfl rfl ?_
    refine Sq.off rfl rfl rfl rfl rfl rfl ?_
    refine Sq.off rfl rfl rfl rfl rfl rfl ?_
    refine Sq.off rfl rfl rfl rfl rfl rfl ?_
    refine Sq.off rfl rfl rfl rfl rfl rfl ?_
    refine Sq.pickT .plain rfl rfl rfl ?_
    refine Sq.nil ?_
    refine Eq.next ?_
    refine Cq.thn rfl ?_
    refine Cq.seq ?_
    refine Cq.region ?_
    refine Sq.assign .plain rfl rfl ?_
    refine Sq.assign .plain rfl rfl ?_
    refine Sq.nil ?_
    refine Eq.next ?_
    refine Cq.ret ?_
    refine Eq.pastRet ?_
    refine Eq.ret2 rfl rfl rfl ?_
    have hC : ¬ (validA a && (inA a i && inA a j)) = true := by simp [hv]
    exact ⟨by rw [fSplit, if_neg hC]; rfl, E⟩

end Go.Proofs.Ytdkdpmmfebdeaaa
