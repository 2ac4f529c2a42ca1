/-
  Walks, printed by a program out of the translation and a contract for each function; each step is one law.
-/
import Derived.Test.YtdkdpmmfebdeaaaPe
set_option linter.unusedSimpArgs false
set_option linter.unusedVariables false
namespace Go.Proofs.Ytdkdpmmfebdeaaa
open Go.RowKit

set_option maxRecDepth 100000 in
theorem fAcc_c (w0 : World) (a : A) (nx ac : Value) (hnx : Rows w0 52 3 nx a.next) (hac : Bools w0 4 ac a.acc) : Ret Try.prog 23 #[Value.agg #[Value.int .i64 a.al, nx, ac]] w0 (fun v w => v = resW (fAcc a) ∧ Ext w0 w) := by
  have E := Ext.refl w0
  refine Ret.of (args := [Value.agg #[Value.int .i64 a.al, nx, ac]]) Try.func23 rfl rfl rfl ?_
  rintro _ rfl
  show Cq _ _ _ _ [(0, Value.agg #[Value.int .i64 a.al, nx, ac])] _
  refine Cq.seq ?_
  refine Cq.region ?_
  refine Sq.box .plain rfl rfl (fun b1 w2 e3 hB4 hlo5 => ?_)
  have hd6 := Nat.le_trans (Below.size E) hlo5
  have hs7 := Below.size e3
  replace E := E.trans e3
  refine Sq.assign .plain rfl rfl ?_
  refine Sq.assign .plain rfl rfl ?_
  refine Sq.nil ?_
  refine Eq.next ?_
  refine Cq.seq ?_
  refine Cq.seq ?_
  refine Cq.region ?_
  refine Sq.loadAgg agg27 .plain rfl rfl hB4 rfl ?_
  have hd11 := hB4.lt
  refine Sq.call fn44 .plain rfl rfl (valid_c _ a _ _ (hnx.ext E) (hac.ext E)) ?_
  rintro _ w9 ⟨rfl, e10⟩
  have hs12 := Below.size E
  have hs13 := Below.size e10
  replace E := E.trans e10
  replace hB4 := hB4.ext e10
  refine Sq.partB (fun hv => ?_) (fun hv => ?_)
  · refine Sq.notT .plain rfl rfl ?_
    refine Sq.nil ?_
    refine Eq.next ?_
    refine Cq.els rfl ?_
    refine Cq.skip ?_
    refine Eq.next ?_
    refine Cq.seq ?_
    refine Cq.region ?_
    refine Sq.loadAgg agg27 .plain rfl rfl hB4 rfl ?_
    refine Sq.makeFunc .plain rfl rfl ?_
    have hd17 := hB4.lt
    refine Sq.call fn61 .plain rfl rfl (firstFrom_c _ a _ _ (hnx.ext E) (hac.ext E) hv _ (accA a) ⟨62, _, [Value.pointer (some ⟨b1, 0, none⟩)], rfl, fn62, fun w q hx hq => (fa1_c w q a _ _ _ (hB4.ext hx) ((hac.ext E).ext hx) (by have := (validA_spec.1 hv).2; omega)).mono fun v w' h => ⟨h.1, h.2 ▸ Ext.refl w⟩⟩) ?_
    rintro _ w15 ⟨rfl, e16⟩
    have hs18 := Below.size E
    have hs19 := Below.size e16
    replace E := E.trans e16
    replace hB4 := hB4.ext e16
    refine Sq.extract .plain rfl rfl rfl ?_
    refine Sq.extract .plain rfl rfl rfl ?_
    refine Sq.assign .plain rfl rfl ?_
    refine Sq.assign .plain rfl rfl ?_
    refine Sq.nil ?_
    refine Eq.next ?_
    refine Cq.ret ?_
    refine Eq.ret2 rfl rfl rfl ?_
    exact ⟨by rw [fAcc, if_pos hv]; rfl, E⟩
  · refine Sq.notF .plain rfl rfl ?_
    refine Sq.nil ?_
    refine Eq.next ?_
    refine Cq.thn rfl ?_
    refine Cq.seq ?_
    refine Cq.region ?_
    refine Sq.assign .plain rfl rfl ?_
    refine Sq.assign .plain rfl rfl ?_
    refine Sq.nil ?_
    refine Eq.next ?_
    refine Cq.ret ?_
    refine Eq.pastRet ?_
    refine Eq.ret2 rfl rfl rfl ?_
    exact ⟨by rw [fAcc, if_neg (by rw [hv]; decide)]; rfl, E⟩

set_option maxRecDepth 100000 in
theorem fAt_c (w0 : World) (a : A) (nx ac : Value) (hnx : Rows w0 52 3 nx a.next) (hac : Bools w0 4 ac a.acc) (s0 : Int) : Ret Try.prog 25 #[Value.agg #[Value.int .i64 a.al, nx, ac], Value.int .i64 s0] w0 (fun v w => v = resW (fAt a s0) ∧ Ext w0 w) := by
  have E := Ext.refl w0
  refine Ret.of (args := [Value.agg #[Value.int .i64 a.al, nx, ac], Value.int .i64 s0]) Try.func25 rfl rfl rfl ?_
  rintro _ rfl
  show Cq _ _ _ _ [(0, Value.agg #[Value.int .i64 a.al, nx, ac]), (1, Value.int .i64 s0)] _
  refine Cq.seq ?_
  refine Cq.region ?_
  refine Sq.box .plain rfl rfl (fun b1 w2 e3 hB4 hlo5 => ?_)
  have hd6 := Nat.le_trans (Below.size E) hlo5
  have hs7 := Below.size e3
  replace E := E.trans e3
  refine Sq.box1 .plain rfl rfl rfl (fun b8 w9 e10 hB11 hlo12 => ?_)
  have hd13 := Nat.le_trans (Below.size E) hlo12
  have hd14 := Nat.lt_of_lt_of_le hB4.lt hlo12
  have hs15 := Below.size e10
  replace E := E.trans e10
  replace hB4 := hB4.ext e10
  refine Sq.assign .plain rfl rfl ?_
  refine Sq.assign .plain rfl rfl ?_
  refine Sq.nil ?_
  refine Eq.next ?_
  refine Cq.seq ?_
  refine Cq.seq ?_
  refine Cq.region ?_
  refine Sq.loadAgg agg27 .plain rfl rfl hB4 rfl ?_
  have hd19 := hB4.lt
  have hd20 := hB11.lt
  refine Sq.call fn44 .plain rfl rfl (valid_c _ a _ _ (hnx.ext E) (hac.ext E)) ?_
  rintro _ w17 ⟨rfl, e18⟩
  have hs21 := Below.size E
  have hs22 := Below.size e18
  replace E := E.trans e18
  replace hB4 := hB4.ext e18
  replace hB11 := hB11.ext e18
  refine Sq.partB (fun hv => ?_) (fun hv => ?_)
  · refine Sq.notT .plain rfl rfl ?_
    refine Sq.nil ?_
    refine Eq.next ?_
    refine Cq.els rfl ?_
    refine Cq.skip ?_
    refine Eq.next ?_
    refine Cq.seq ?_
    refine Cq.region ?_
    refine Sq.loadAgg agg27 .plain rfl rfl hB4 rfl ?_
    refine Sq.makeFunc .plain rfl rfl ?_
    have hd26 := hB4.lt
    have hd27 := hB11.lt
    refine Sq.call fn61 .plain rfl rfl (firstFrom_c _ a _ _ (hnx.ext E) (hac.ext E) hv _ (fun x => decide (x = s0)) ⟨64, _, [Value.pointer (some ⟨b8, 0, none⟩)], rfl, fn64, fun w q hx hq => (aw1_c w q s0 _ (hB11.ext hx)).mono fun v w' h => ⟨h.1, h.2 ▸ Ext.refl w⟩⟩) ?_
    rintro _ w24 ⟨rfl, e25⟩
    have hs28 := Below.size E
    have hs29 := Below.size e25
    replace E := E.trans e25
    replace hB4 := hB4.ext e25
    replace hB11 := hB11.ext e25
    refine Sq.extract .plain rfl rfl rfl ?_
    refine Sq.extract .plain rfl rfl rfl ?_
    refine Sq.assign .plain rfl rfl ?_
    refine Sq.assign .plain rfl rfl ?_
    refine Sq.nil ?_
    refine Eq.next ?_
    refine Cq.ret ?_
    refine Eq.ret2 rfl rfl rfl ?_
    exact ⟨by rw [fAt, if_pos hv]; rfl, E⟩
  · refine Sq.notF .plain rfl rfl ?_
    refine Sq.nil ?_
    refine Eq.next ?_
    refine Cq.thn rfl ?_
    refine Cq.seq ?_
    refine Cq.region ?_
    refine Sq.assign .plain rfl rfl ?_
    refine Sq.assign .plain rfl rfl ?_
    refine Sq.nil ?_
    refine Eq.next ?_
    refine Cq.ret ?_
    refine Eq.pastRet ?_
    refine Eq.ret2 rfl rfl rfl ?_
    exact ⟨by rw [fAt, if_neg (by rw [hv]; decide)]; rfl, E⟩

set_option maxRecDepth 100000 in
theorem cmp_c (w0 : World) (a b : A) (nx ac nx' ac' : Value) (hnx : Rows w0 52 3 nx a.next) (hac : Bools w0 4 ac a.acc) (hnx' : Rows w0 52 3 nx' b.next) (hac' : Bools w0 4 ac' b.acc) : Ret Try.prog 68 #[Value.agg #[Value.int .i64 a.al, nx, ac], Value.agg #[Value.int .i64 b.al, nx', ac']] w0 (fun v w => v = .bool (cmp2 a b) ∧ Ext w0 w) := by
  have E := Ext.refl w0
  refine Ret.of (args := [Value.agg #[Value.int .i64 a.al, nx, ac], Value.agg #[Value.int .i64 b.al, nx', ac']]) Try.func68 rfl rfl rfl ?_
  rintro _ rfl
  show Cq _ _ _ _ [(0, Value.agg #[Value.int .i64 a.al, nx, ac]), (1, Value.agg #[Value.int .i64 b.al, nx', ac'])] _
  refine Cq.seq ?_
  refine Cq.region ?_
  refine Sq.box .plain rfl rfl (fun b1 w2 e3 hB4 hlo5 => ?_)
  have hd6 := Nat.le_trans (Below.size E) hlo5
  have hs7 := Below.size e3
  replace E := E.trans e3
  refine Sq.box .plain rfl rfl (fun b8 w9 e10 hB11 hlo12 => ?_)
  have hd13 := Nat.le_trans (Below.size E) hlo12
  have hd14 := Nat.lt_of_lt_of_le hB4.lt hlo12
  have hs15 := Below.size e10
  replace E := E.trans e10
  replace hB4 := hB4.ext e10
  refine Sq.assign .plain rfl rfl ?_
  refine Sq.nil ?_
  refine Eq.next ?_
  refine Cq.seq ?_
  refine Cq.region ?_
  refine Sq.loadAgg agg27 .plain rfl rfl hB4 rfl ?_
  have hd19 := hB4.lt
  have hd20 := hB11.lt
  refine Sq.call fn44 .plain rfl rfl (valid_c _ a _ _ (hnx.ext E) (hac.ext E)) ?_
  rintro _ w17 ⟨rfl, e18⟩
  have hs21 := Below.size E
  have hs22 := Below.size e18
  replace E := E.trans e18
  replace hB4 := hB4.ext e18
  replace hB11 := hB11.ext e18
  refine Sq.partB (fun hva => ?_) (fun hva => ?_)
  · refine Sq.move .plain rfl rfl ?_
    refine Sq.loadAgg agg27 (.met rfl rfl rfl) rfl rfl hB11 rfl ?_
    have hd26 := hB4.lt
    have hd27 := hB11.lt
    refine Sq.call fn44 (.met rfl rfl rfl) rfl rfl (valid_c _ b _ _ (hnx'.ext E) (hac'.ext E)) ?_
    rintro _ w24 ⟨rfl, e25⟩
    have hs28 := Below.size E
    have hs29 := Below.size e25
    replace E := E.trans e25
    replace hB4 := hB4.ext e25
    replace hB11 := hB11.ext e25
    refine Sq.partB (fun hvb => ?_) (fun hvb => ?_)
    · refine Sq.pickT .plain rfl rfl rfl ?_
      refine Sq.move .plain rfl rfl ?_
      refine Sq.fieldAddr fld27_0 (.met rfl rfl rfl) rfl rfl ?_
      refine Sq.loadB one3 (.met rfl rfl rfl) rfl rfl hB4 rfl ?_
      refine Sq.fieldAddr fld27_0 (.met rfl rfl rfl) rfl rfl ?_
      refine Sq.loadB one3 (.met rfl rfl rfl) rfl rfl hB11 rfl ?_
      refine Sq.eql (.met rfl rfl rfl) rfl rfl rfl ?_
      refine Sq.pickT .plain rfl rfl rfl ?_
      refine Sq.assign .plain rfl rfl ?_
      refine Sq.nil ?_
      refine Eq.next ?_
      refine Cq.ret ?_
      refine Eq.ret1 rfl rfl ?_
      exact ⟨by simp [cmp2, hva, hvb], E⟩
    · refine Sq.pickT .plain rfl rfl rfl ?_
      refine Sq.move .plain rfl rfl ?_
      refine Sq.off rfl rfl rfl rfl rfl rfl ?_
      refine Sq.off rfl rfl rfl rfl rfl rfl ?_
      refine Sq.off rfl rfl rfl rfl rfl rfl ?_
      refine Sq.off rfl rfl rfl rfl rfl rfl ?_
      refine Sq.off rfl rfl rfl rfl rfl rfl ?_
      refine Sq.pickF .plain rfl rfl rfl ?_
      refine Sq.assign .plain rfl rfl ?_
      refine Sq.nil ?_
      refine Eq.next ?_
      refine Cq.ret ?_
      refine Eq.ret1 rfl rfl ?_
      exact ⟨by simp [cmp2, hva, hvb], E⟩
  · refine Sq.move .plain rfl rfl ?_
    refine Sq.off rfl rfl rfl rfl rfl rfl ?_
    refine Sq.off rfl rfl rfl rfl rfl rfl ?_
    refine Sq.pickF .plain rfl rfl rfl ?_
    refine Sq.move .plain rfl rfl ?_
    refine Sq.off rfl rfl rfl rfl rfl rfl ?_
    refine Sq.off rfl rfl rfl rfl rfl rfl ?_
    refine Sq.off rfl rfl rfl rfl rfl rfl ?_
    refine Sq.off rfl rfl rfl rfl rfl rfl ?_
    refine Sq.off rfl rfl rfl rfl rfl rfl ?_
    refine Sq.pickF .plain rfl rfl rfl ?_
    refine Sq.assign .plain rfl rfl ?_
    refine Sq.nil ?_
    refine Eq.next ?_
    refine Cq.ret ?_
    refine Eq.ret1 rfl rfl ?_
    exact ⟨by simp [cmp2, hva], E⟩

set_option maxRecDepth 100000 in
theorem fDif_c (w0 : World) (a b : A) (nx ac nx' ac' : Value) (hnx : Rows w0 52 3 nx a.next) (hac : Bools w0 4 ac a.acc) (hnx' : Rows w0 52 3 nx' b.next) (hac' : Bools w0 4 ac' b.acc) : Ret Try.prog 29 #[Value.agg #[Value.int .i64 a.al, nx, ac], Value.agg #[Value.int .i64 b.al, nx', ac']] w0 (fun v w => v = resW (fDif a b) ∧ Ext w0 w) := by
  have E := Ext.refl w0
  refine Ret.of (args := [Value.agg #[Value.int .i64 a.al, nx, ac], Value.agg #[Value.int .i64 b.al, nx', ac']]) Try.func29 rfl rfl rfl ?_
  rintro _ rfl
  show Cq _ _ _ _ [(0, Value.agg #[Value.int .i64 a.al, nx, ac]), (1, Value.agg #[Value.int .i64 b.al, nx', ac'])] _
  refine Cq.seq ?_
  refine Cq.region ?_
  refine Sq.box .plain rfl rfl (fun b1 w2 e3 hB4 hlo5 => ?_)
  have hd6 := Nat.le_trans (Below.size E) hlo5
  have hs7 := Below.size e3
  replace E := E.trans e3
  refine Sq.box .plain rfl rfl (fun b8 w9 e10 hB11 hlo12 => ?_)
  have hd13 := Nat.le_trans (Below.size E) hlo12
  have hd14 := Nat.lt_of_lt_of_le hB4.lt hlo12
  have hs15 := Below.size e10
  replace E := E.trans e10
  replace hB4 := hB4.ext e10
  refine Sq.assign .plain rfl rfl ?_
  refine Sq.assign .plain rfl rfl ?_
  refine Sq.nil ?_
  refine Eq.next ?_
  refine Cq.seq ?_
  refine Cq.seq ?_
  refine Cq.region ?_
  refine Sq.loadAgg agg27 .plain rfl rfl hB4 rfl ?_
  refine Sq.loadAgg agg27 .plain rfl rfl hB11 rfl ?_
  have hd19 := hB4.lt
  have hd20 := hB11.lt
  refine Sq.call fn68 .plain rfl rfl (cmp_c _ a b _ _ _ _ (hnx.ext E) (hac.ext E) (hnx'.ext E) (hac'.ext E)) ?_
  rintro _ w17 ⟨rfl, e18⟩
  have hs21 := Below.size E
  have hs22 := Below.size e18
  replace E := E.trans e18
  replace hB4 := hB4.ext e18
  replace hB11 := hB11.ext e18
  refine Sq.partB (fun hC => ?_) (fun hC => ?_)
  · refine Sq.notT .plain rfl rfl ?_
    refine Sq.nil ?_
    refine Eq.next ?_
    refine Cq.els rfl ?_
    refine Cq.skip ?_
    refine Eq.next ?_
    refine Cq.seq ?_
    refine Cq.region ?_
    refine Sq.loadAgg agg27 .plain rfl rfl hB4 rfl ?_
    refine Sq.loadAgg agg27 .plain rfl rfl hB11 rfl ?_
    have hd26 := hB4.lt
    have hd27 := hB11.lt
    refine Sq.call fn65 .plain rfl rfl (firstOfBoth_c _ a b _ _ _ _ (hnx.ext E) (hac.ext E) (hnx'.ext E) (hac'.ext E) _ (fun x y => x != y) ⟨69, _, [], rfl, fn69, fun w x y hx => (do1_c w x y).mono fun v w' h => ⟨h.1, h.2 ▸ Ext.refl w⟩⟩ 0 0 (cmp2_spec.1 hC).1 (cmp2_spec.1 hC).2.1 (in_zero (cmp2_spec.1 hC).1 (cmp2_spec.1 hC).2.1)) ?_
    rintro _ w24 ⟨rfl, e25⟩
    have hs28 := Below.size E
    have hs29 := Below.size e25
    replace E := E.trans e25
    replace hB4 := hB4.ext e25
    replace hB11 := hB11.ext e25
    refine Sq.extract .plain rfl rfl rfl ?_
    refine Sq.extract .plain rfl rfl rfl ?_
    refine Sq.assign .plain rfl rfl ?_
    refine Sq.assign .plain rfl rfl ?_
    refine Sq.nil ?_
    refine Eq.next ?_
    refine Cq.ret ?_
    refine Eq.ret2 rfl rfl rfl ?_
    exact ⟨by rw [fDif, fTwo, if_pos hC]; rfl, E⟩
  · refine Sq.notF .plain rfl rfl ?_
    refine Sq.nil ?_
    refine Eq.next ?_
    refine Cq.thn rfl ?_
    refine Cq.seq ?_
    refine Cq.region ?_
    refine Sq.assign .plain rfl rfl ?_
    refine Sq.assign .plain rfl rfl ?_
    refine Sq.nil ?_
    refine Eq.next ?_
    refine Cq.ret ?_
    refine Eq.pastRet ?_
    refine Eq.ret2 rfl rfl rfl ?_
    exact ⟨by rw [fDif, fTwo, if_neg (by rw [hC]; decide)]; rfl, E⟩

set_option maxRecDepth 100000 in
theorem fOut_c (w0 : World) (a b : A) (nx ac nx' ac' : Value) (hnx : Rows w0 52 3 nx a.next) (hac : Bools w0 4 ac a.acc) (hnx' : Rows w0 52 3 nx' b.next) (hac' : Bools w0 4 ac' b.acc) : Ret Try.prog 31 #[Value.agg #[Value.int .i64 a.al, nx, ac], Value.agg #[Value.int .i64 b.al, nx', ac']] w0 (fun v w => v = resW (fOut a b) ∧ Ext w0 w) := by
  have E := Ext.refl w0
  refine Ret.of (args := [Value.agg #[Value.int .i64 a.al, nx, ac], Value.agg #[Value.int .i64 b.al, nx', ac']]) Try.func31 rfl rfl rfl ?_
  rintro _ rfl
  show Cq _ _ _ _ [(0, Value.agg #[Value.int .i64 a.al, nx, ac]), (1, Value.agg #[Value.int .i64 b.al, nx', ac'])] _
  refine Cq.seq ?_
  refine Cq.region ?_
  refine Sq.box .plain rfl rfl (fun b1 w2 e3 hB4 hlo5 => ?_)
  have hd6 := Nat.le_trans (Below.size E) hlo5
  have hs7 := Below.size e3
  replace E := E.trans e3
  refine Sq.box .plain rfl rfl (fun b8 w9 e10 hB11 hlo12 => ?_)
  have hd13 := Nat.le_trans (Below.size E) hlo12
  have hd14 := Nat.lt_of_lt_of_le hB4.lt hlo12
  have hs15 := Below.size e10
  replace E := E.trans e10
  replace hB4 := hB4.ext e10
  refine Sq.assign .plain rfl rfl ?_
  refine Sq.assign .plain rfl rfl ?_
  refine Sq.nil ?_
  refine Eq.next ?_
  refine Cq.seq ?_
  refine Cq.seq ?_
  refine Cq.region ?_
  refine Sq.loadAgg agg27 .plain rfl rfl hB4 rfl ?_
  refine Sq.loadAgg agg27 .plain rfl rfl hB11 rfl ?_
  have hd19 := hB4.lt
  have hd20 := hB11.lt
  refine Sq.call fn68 .plain rfl rfl (cmp_c _ a b _ _ _ _ (hnx.ext E) (hac.ext E) (hnx'.ext E) (hac'.ext E)) ?_
  rintro _ w17 ⟨rfl, e18⟩
  have hs21 := Below.size E
  have hs22 := Below.size e18
  replace E := E.trans e18
  replace hB4 := hB4.ext e18
  replace hB11 := hB11.ext e18
  refine Sq.partB (fun hC => ?_) (fun hC => ?_)
  · refine Sq.notT .plain rfl rfl ?_
    refine Sq.nil ?_
    refine Eq.next ?_
    refine Cq.els rfl ?_
    refine Cq.skip ?_
    refine Eq.next ?_
    refine Cq.seq ?_
    refine Cq.region ?_
    refine Sq.loadAgg agg27 .plain rfl rfl hB4 rfl ?_
    refine Sq.loadAgg agg27 .plain rfl rfl hB11 rfl ?_
    have hd26 := hB4.lt
    have hd27 := hB11.lt
    refine Sq.call fn65 .plain rfl rfl (firstOfBoth_c _ a b _ _ _ _ (hnx.ext E) (hac.ext E) (hnx'.ext E) (hac'.ext E) _ (fun x y => x && !y) ⟨70, _, [], rfl, fn70, fun w x y hx => (fo1_c w x y).mono fun v w' h => ⟨h.1, h.2 ▸ Ext.refl w⟩⟩ 0 0 (cmp2_spec.1 hC).1 (cmp2_spec.1 hC).2.1 (in_zero (cmp2_spec.1 hC).1 (cmp2_spec.1 hC).2.1)) ?_
    rintro _ w24 ⟨rfl, e25⟩
    have hs28 := Below.size E
    have hs29 := Below.size e25
    replace E := E.trans e25
    replace hB4 := hB4.ext e25
    replace hB11 := hB11.ext e25
    refine Sq.extract .plain rfl rfl rfl ?_
    refine Sq.extract .plain rfl rfl rfl ?_
    refine Sq.assign .plain rfl rfl ?_
    refine Sq.assign .plain rfl rfl ?_
    refine Sq.nil ?_
    refine Eq.next ?_
    refine Cq.ret ?_
    refine Eq.ret2 rfl rfl rfl ?_
    exact ⟨by rw [fOut, fTwo, if_pos hC]; rfl, E⟩
  · refine Sq.notF .plain rfl rfl ?_
    refine Sq.nil ?_
    refine Eq.next ?_
    refine Cq.thn rfl ?_
    refine Cq.seq ?_
    refine Cq.region ?_
    refine Sq.assign .plain rfl rfl ?_
    refine Sq.assign .plain rfl rfl ?_
    refine Sq.nil ?_
    refine Eq.next ?_
    refine Cq.ret ?_
    refine Eq.pastRet ?_
    refine Eq.ret2 rfl rfl rfl ?_
    exact ⟨by rw [fOut, fTwo, if_neg (by rw [hC]; decide)]; rfl, E⟩

set_option maxRecDepth 100000 in
theorem same_c (w0 : World) (a b : A) (nx ac nx' ac' : Value) (hnx : Rows w0 52 3 nx a.next) (hac : Bools w0 4 ac a.acc) (hnx' : Rows w0 52 3 nx' b.next) (hac' : Bools w0 4 ac' b.acc) : Ret Try.prog 35 #[Value.agg #[Value.int .i64 a.al, nx, ac], Value.agg #[Value.int .i64 b.al, nx', ac']] w0 (fun v w => v = .bool (sameL a b) ∧ Ext w0 w) := by
  have E := Ext.refl w0
  refine Ret.of (args := [Value.agg #[Value.int .i64 a.al, nx, ac], Value.agg #[Value.int .i64 b.al, nx', ac']]) Try.func35 rfl rfl rfl ?_
  rintro _ rfl
  show Cq _ _ _ _ [(0, Value.agg #[Value.int .i64 a.al, nx, ac]), (1, Value.agg #[Value.int .i64 b.al, nx', ac'])] _
  refine Cq.seq ?_
  refine Cq.region ?_
  refine Sq.box .plain rfl rfl (fun b1 w2 e3 hB4 hlo5 => ?_)
  have hd6 := Nat.le_trans (Below.size E) hlo5
  have hs7 := Below.size e3
  replace E := E.trans e3
  refine Sq.box .plain rfl rfl (fun b8 w9 e10 hB11 hlo12 => ?_)
  have hd13 := Nat.le_trans (Below.size E) hlo12
  have hd14 := Nat.lt_of_lt_of_le hB4.lt hlo12
  have hs15 := Below.size e10
  replace E := E.trans e10
  replace hB4 := hB4.ext e10
  refine Sq.assign .plain rfl rfl ?_
  refine Sq.nil ?_
  refine Eq.next ?_
  refine Cq.seq ?_
  refine Cq.region ?_
  refine Sq.loadAgg agg27 .plain rfl rfl hB4 rfl ?_
  refine Sq.loadAgg agg27 .plain rfl rfl hB11 rfl ?_
  have hd19 := hB4.lt
  have hd20 := hB11.lt
  refine Sq.call fn29 .plain rfl rfl (fDif_c _ a b _ _ _ _ (hnx.ext E) (hac.ext E) (hnx'.ext E) (hac'.ext E)) ?_
  rintro _ w17 ⟨rfl, e18⟩
  have hs21 := Below.size E
  have hs22 := Below.size e18
  replace E := E.trans e18
  replace hB4 := hB4.ext e18
  replace hB11 := hB11.ext e18
  refine Sq.move .plain rfl rfl ?_
  refine Sq.extract .plain rfl rfl rfl ?_
  refine Sq.extract .plain rfl rfl rfl ?_
  refine Sq.assign .plain rfl rfl ?_
  refine Sq.assign .plain rfl rfl ?_
  refine Sq.nil ?_
  refine Eq.next ?_
  refine Cq.seq ?_
  refine Cq.region ?_
  refine Sq.loadAgg agg27 .plain rfl rfl hB4 rfl ?_
  refine Sq.loadAgg agg27 .plain rfl rfl hB11 rfl ?_
  have hd26 := hB4.lt
  have hd27 := hB11.lt
  refine Sq.call fn68 .plain rfl rfl (cmp_c _ a b _ _ _ _ (hnx.ext E) (hac.ext E) (hnx'.ext E) (hac'.ext E)) ?_
  rintro _ w24 ⟨rfl, e25⟩
  have hs28 := Below.size E
  have hs29 := Below.size e25
  replace E := E.trans e25
  replace hB4 := hB4.ext e25
  replace hB11 := hB11.ext e25
  refine Sq.partB (fun hC => ?_) (fun hC => ?_)
  · refine Sq.move .plain rfl rfl ?_
    refine Sq.move (.met rfl rfl rfl) rfl rfl ?_
    refine Sq.not (.met rfl rfl rfl) rfl rfl ?_
    refine Sq.pickT .plain rfl rfl rfl ?_
    refine Sq.assign .plain rfl rfl ?_
    refine Sq.nil ?_
    refine Eq.next ?_
    refine Cq.ret ?_
    refine Eq.ret1 rfl rfl ?_
    exact ⟨by simp [sameL, hC], E⟩
  · refine Sq.move .plain rfl rfl ?_
    refine Sq.off rfl rfl rfl rfl rfl rfl ?_
    refine Sq.off rfl rfl rfl rfl rfl rfl ?_
    refine Sq.pickF .plain rfl rfl rfl ?_
    refine Sq.assign .plain rfl rfl ?_
    refine Sq.nil ?_
    refine Eq.next ?_
    refine Cq.ret ?_
    refine Eq.ret1 rfl rfl ?_
    exact ⟨by simp [sameL, hC], E⟩

set_option maxRecDepth 100000 in
theorem within2_c (w0 : World) (a b : A) (nx ac nx' ac' : Value) (hnx : Rows w0 52 3 nx a.next) (hac : Bools w0 4 ac a.acc) (hnx' : Rows w0 52 3 nx' b.next) (hac' : Bools w0 4 ac' b.acc) : Ret Try.prog 33 #[Value.agg #[Value.int .i64 a.al, nx, ac], Value.agg #[Value.int .i64 b.al, nx', ac']] w0 (fun v w => v = .bool (withinL a b) ∧ Ext w0 w) := by
  have E := Ext.refl w0
  refine Ret.of (args := [Value.agg #[Value.int .i64 a.al, nx, ac], Value.agg #[Value.int .i64 b.al, nx', ac']]) Try.func33 rfl rfl rfl ?_
  rintro _ rfl
  show Cq _ _ _ _ [(0, Value.agg #[Value.int .i64 a.al, nx, ac]), (1, Value.agg #[Value.int .i64 b.al, nx', ac'])] _
  refine Cq.seq ?_
  refine Cq.region ?_
  refine Sq.box .plain rfl rfl (fun b1 w2 e3 hB4 hlo5 => ?_)
  have hd6 := Nat.le_trans (Below.size E) hlo5
  have hs7 := Below.size e3
  replace E := E.trans e3
  refine Sq.box .plain rfl rfl (fun b8 w9 e10 hB11 hlo12 => ?_)
  have hd13 := Nat.le_trans (Below.size E) hlo12
  have hd14 := Nat.lt_of_lt_of_le hB4.lt hlo12
  have hs15 := Below.size e10
  replace E := E.trans e10
  replace hB4 := hB4.ext e10
  refine Sq.assign .plain rfl rfl ?_
  refine Sq.nil ?_
  refine Eq.next ?_
  refine Cq.seq ?_
  refine Cq.region ?_
  refine Sq.loadAgg agg27 .plain rfl rfl hB4 rfl ?_
  refine Sq.loadAgg agg27 .plain rfl rfl hB11 rfl ?_
  have hd19 := hB4.lt
  have hd20 := hB11.lt
  refine Sq.call fn31 .plain rfl rfl (fOut_c _ a b _ _ _ _ (hnx.ext E) (hac.ext E) (hnx'.ext E) (hac'.ext E)) ?_
  rintro _ w17 ⟨rfl, e18⟩
  have hs21 := Below.size E
  have hs22 := Below.size e18
  replace E := E.trans e18
  replace hB4 := hB4.ext e18
  replace hB11 := hB11.ext e18
  refine Sq.move .plain rfl rfl ?_
  refine Sq.extract .plain rfl rfl rfl ?_
  refine Sq.extract .plain rfl rfl rfl ?_
  refine Sq.assign .plain rfl rfl ?_
  refine Sq.assign .plain rfl rfl ?_
  refine Sq.nil ?_
  refine Eq.next ?_
  refine Cq.seq ?_
  refine Cq.region ?_
  refine Sq.loadAgg agg27 .plain rfl rfl hB4 rfl ?_
  refine Sq.loadAgg agg27 .plain rfl rfl hB11 rfl ?_
  have hd26 := hB4.lt
  have hd27 := hB11.lt
  refine Sq.call fn68 .plain rfl rfl (cmp_c _ a b _ _ _ _ (hnx.ext E) (hac.ext E) (hnx'.ext E) (hac'.ext E)) ?_
  rintro _ w24 ⟨rfl, e25⟩
  have hs28 := Below.size E
  have hs29 := Below.size e25
  replace E := E.trans e25
  replace hB4 := hB4.ext e25
  replace hB11 := hB11.ext e25
  refine Sq.partB (fun hC => ?_) (fun hC => ?_)
  · refine Sq.move .plain rfl rfl ?_
    refine Sq.move (.met rfl rfl rfl) rfl rfl ?_
    refine Sq.not (.met rfl rfl rfl) rfl rfl ?_
    refine Sq.pickT .plain rfl rfl rfl ?_
    refine Sq.assign .plain rfl rfl ?_
    refine Sq.nil ?_
    refine Eq.next ?_
    refine Cq.ret ?_
    refine Eq.ret1 rfl rfl ?_
    exact ⟨by simp [withinL, hC], E⟩
  · refine Sq.move .plain rfl rfl ?_
    refine Sq.off rfl rfl rfl rfl rfl rfl ?_
    refine Sq.off rfl rfl rfl rfl rfl rfl ?_
    refine Sq.pickF .plain rfl rfl rfl ?_
    refine Sq.assign .plain rfl rfl ?_
    refine Sq.nil ?_
    refine Eq.next ?_
    refine Cq.ret ?_
    refine Eq.ret1 rfl rfl ?_
    exact ⟨by simp [withinL, hC], E⟩

set_option maxRecDepth 100000 in
theorem fSplit_c (w0 : World) (a : A) (nx ac : Value) (hnx : Rows w0 52 3 nx a.next) (hac : Bools w0 4 ac a.acc) (i j : Int) : Ret Try.prog 27 #[Value.agg #[Value.int .i64 a.al, nx, ac], Value.int .i64 i, Value.int .i64 j] w0 (fun v w => v = resW (fSplit a i j) ∧ Ext w0 w) := by
  have E := Ext.refl w0
  refine Ret.of (args := [Value.agg #[Value.int .i64 a.al, nx, ac], Value.int .i64 i, Value.int .i64 j]) Try.func27 rfl rfl rfl ?_
  rintro _ rfl
  show Cq _ _ _ _ [(0, Value.agg #[Value.int .i64 a.al, nx, ac]), (1, Value.int .i64 i), (2, Value.int .i64 j)] _
  refine Cq.seq ?_
  refine Cq.region ?_
  refine Sq.box .plain rfl rfl (fun b1 w2 e3 hB4 hlo5 => ?_)
  have hd6 := Nat.le_trans (Below.size E) hlo5
  have hs7 := Below.size e3
  replace E := E.trans e3
  refine Sq.assign .plain rfl rfl ?_
  refine Sq.assign .plain rfl rfl ?_
  refine Sq.nil ?_
  refine Eq.next ?_
  refine Cq.seq ?_
  refine Cq.region ?_
  refine Sq.fieldAddr fld27_1 .plain rfl rfl ?_
  refine Sq.loadB one22 .plain rfl rfl hB4 rfl ?_
  refine Sq.lenRows (hnx.ext E) .plain rfl und22 rfl ?_
  refine Sq.assign .plain rfl rfl ?_
  refine Sq.nil ?_
  refine Eq.next ?_
  refine Cq.seq ?_
  refine Cq.seq ?_
  refine Cq.region ?_
  refine Sq.loadAgg agg27 .plain rfl rfl hB4 rfl ?_
  have hd11 := hB4.lt
  refine Sq.call fn44 .plain rfl rfl (valid_c _ a _ _ (hnx.ext E) (hac.ext E)) ?_
  rintro _ w9 ⟨rfl, e10⟩
  have hs12 := Below.size E
  have hs13 := Below.size e10
  replace E := E.trans e10
  replace hB4 := hB4.ext e10
  refine Sq.partB (fun hv => ?_) (fun hv => ?_)
  · refine Sq.notT .plain rfl rfl ?_
    refine Sq.move .plain rfl rfl ?_
    refine Sq.move (.met rfl rfl rfl) rfl rfl ?_
    refine Sq.lss (.met rfl rfl rfl) rfl rfl rfl ?_
    refine Sq.part (fun hi0 => ?_) (fun hi0 => ?_)
    · refine Sq.pickF .plain rfl rfl rfl ?_
      refine Sq.move .plain rfl rfl ?_
      refine Sq.off rfl rfl rfl rfl rfl rfl ?_
      refine Sq.off rfl rfl rfl rfl rfl rfl ?_
      refine Sq.off rfl rfl rfl rfl rfl rfl ?_
      refine Sq.pickT .plain rfl rfl rfl ?_
      refine Sq.move .plain rfl rfl ?_
      refine Sq.off rfl rfl rfl rfl rfl rfl ?_
      refine Sq.off rfl rfl rfl rfl rfl rfl ?_
      refine Sq.pickT .plain rfl rfl rfl ?_
      refine Sq.move .plain rfl rfl ?_
      refine Sq.off rfl rfl rfl rfl rfl rfl ?_
      refine Sq.off rfl rfl rfl rfl rfl rfl ?_
      refine Sq.off rfl rfl rfl rfl rfl rfl ?_
      refine Sq.pickT .plain rfl rfl rfl ?_
      refine Sq.nil ?_
      refine Eq.next ?_
      refine Cq.thn rfl ?_
      refine Cq.seq ?_
      refine Cq.region ?_
      refine Sq.assign .plain rfl rfl ?_
      refine Sq.assign .plain rfl rfl ?_
      refine Sq.nil ?_
      refine Eq.next ?_
      refine Cq.ret ?_
      refine Eq.pastRet ?_
      refine Eq.ret2 rfl rfl rfl ?_
      have hC : ¬ (validA a && (inA a i && inA a j)) = true := by simp [inA, hv] <;> omega
      exact ⟨by rw [fSplit, if_neg hC]; rfl, E⟩
    · refine Sq.pickF .plain rfl rfl rfl ?_
      refine Sq.move .plain rfl rfl ?_
      refine Sq.move (.met rfl rfl rfl) rfl rfl ?_
      refine Sq.move (.met rfl rfl rfl) rfl rfl ?_
      refine Sq.geq (.met rfl rfl rfl) rfl rfl rfl ?_
      refine Sq.part (fun hi1 => ?_) (fun hi1 => ?_)
      · refine Sq.pickF .plain rfl rfl rfl ?_
        refine Sq.move .plain rfl rfl ?_
        refine Sq.off rfl rfl rfl rfl rfl rfl ?_
        refine Sq.off rfl rfl rfl rfl rfl rfl ?_
        refine Sq.pickT .plain rfl rfl rfl ?_
        refine Sq.move .plain rfl rfl ?_
        refine Sq.off rfl rfl rfl rfl rfl rfl ?_
        refine Sq.off rfl rfl rfl rfl rfl rfl ?_
        refine Sq.off rfl rfl rfl rfl rfl rfl ?_
        refine Sq.pickT .plain rfl rfl rfl ?_
        refine Sq.nil ?_
        refine Eq.next ?_
        refine Cq.thn rfl ?_
        refine Cq.seq ?_
        refine Cq.region ?_
        refine Sq.assign .plain rfl rfl ?_
        refine Sq.assign .plain rfl rfl ?_
        refine Sq.nil ?_
        refine Eq.next ?_
        refine Cq.ret ?_
        refine Eq.pastRet ?_
        refine Eq.ret2 rfl rfl rfl ?_
        have hC : ¬ (validA a && (inA a i && inA a j)) = true := by simp [inA, hv] <;> omega
        exact ⟨by rw [fSplit, if_neg hC]; rfl, E⟩
      · refine Sq.pickF .plain rfl rfl rfl ?_
        refine Sq.move .plain rfl rfl ?_
        refine Sq.move (.met rfl rfl rfl) rfl rfl ?_
        refine Sq.lss (.met rfl rfl rfl) rfl rfl rfl ?_
        refine Sq.part (fun hj0 => ?_) (fun hj0 => ?_)
        · refine Sq.pickF .plain rfl rfl rfl ?_
          refine Sq.move .plain rfl rfl ?_
          refine Sq.off rfl rfl rfl rfl rfl rfl ?_
          refine Sq.off rfl rfl rfl rfl rfl rfl ?_
          refine Sq.off rfl rfl rfl rfl rfl rfl ?_
          refine Sq.pickT .plain rfl rfl rfl ?_
          refine Sq.nil ?_
          refine Eq.next ?_
          refine Cq.thn rfl ?_
          refine Cq.seq ?_
          refine Cq.region ?_
          refine Sq.assign .plain rfl rfl ?_
          refine Sq.assign .plain rfl rfl ?_
          refine Sq.nil ?_
          refine Eq.next ?_
          refine Cq.ret ?_
          refine Eq.pastRet ?_
          refine Eq.ret2 rfl rfl rfl ?_
          have hC : ¬ (validA a && (inA a i && inA a j)) = true := by simp [inA, hv] <;> omega
          exact ⟨by rw [fSplit, if_neg hC]; rfl, E⟩
        · refine Sq.pickF .plain rfl rfl rfl ?_
          refine Sq.move .plain rfl rfl ?_
          refine Sq.move (.met rfl rfl rfl) rfl rfl ?_
          refine Sq.move (.met rfl rfl rfl) rfl rfl ?_
          refine Sq.geq (.met rfl rfl rfl) rfl rfl rfl ?_
          refine Sq.part (fun hj1 => ?_) (fun hj1 => ?_)
          · refine Sq.pickF .plain rfl rfl rfl ?_
            refine Sq.nil ?_
            refine Eq.next ?_
            refine Cq.thn rfl ?_
            refine Cq.seq ?_
            refine Cq.region ?_
            refine Sq.assign .plain rfl rfl ?_
            refine Sq.assign .plain rfl rfl ?_
            refine Sq.nil ?_
            refine Eq.next ?_
            refine Cq.ret ?_
            refine Eq.pastRet ?_
            refine Eq.ret2 rfl rfl rfl ?_
            have hC : ¬ (validA a && (inA a i && inA a j)) = true := by simp [inA, hv] <;> omega
            exact ⟨by rw [fSplit, if_neg hC]; rfl, E⟩
          · refine Sq.pickF .plain rfl rfl rfl ?_
            refine Sq.nil ?_
            refine Eq.next ?_
            refine Cq.els rfl ?_
            refine Cq.skip ?_
            refine Eq.next ?_
            refine Cq.seq ?_
            refine Cq.region ?_
            refine Sq.loadAgg agg27 .plain rfl rfl hB4 rfl ?_
            refine Sq.loadAgg agg27 .plain rfl rfl hB4 rfl ?_
            refine Sq.move .plain rfl rfl ?_
            refine Sq.move .plain rfl rfl ?_
            have hd17 := hB4.lt
            refine Sq.call fn65 .plain rfl rfl (firstOfBoth_c _ a a _ _ _ _ (hnx.ext E) (hac.ext E) (hnx.ext E) (hac.ext E) _ (fun x y => x != y) ⟨66, _, [], rfl, fn66, fun w x y hx => (ss1_c w x y).mono fun v w' h => ⟨h.1, h.2 ▸ Ext.refl w⟩⟩ i j hv hv ⟨⟨by omega, by omega⟩, by omega, by omega⟩) ?_
            rintro _ w15 ⟨rfl, e16⟩
            have hs18 := Below.size E
            have hs19 := Below.size e16
            replace E := E.trans e16
            replace hB4 := hB4.ext e16
            refine Sq.extract .plain rfl rfl rfl ?_
            refine Sq.extract .plain rfl rfl rfl ?_
            refine Sq.assign .plain rfl rfl ?_
            refine Sq.assign .plain rfl rfl ?_
            refine Sq.nil ?_
            refine Eq.next ?_
            refine Cq.ret ?_
            refine Eq.ret2 rfl rfl rfl ?_
            have hC : (validA a && (inA a i && inA a j)) = true := by simp [inA, hv]; omega
            exact ⟨by rw [fSplit, if_pos hC]; rfl, E⟩
  · refine Sq.notF .plain rfl rfl ?_
    refine Sq.move .plain rfl rfl ?_
    refine Sq.off rfl rfl rfl rfl rfl rfl ?_
    refine Sq.off rfl rfl rfl rfl rfl rfl ?_
    refine Sq.pickT .plain rfl rfl rfl ?_
    refine Sq.move .plain rfl rfl ?_
    refine Sq.off rfl rfl rfl rfl rfl rfl ?_
    refine Sq.off rfl rfl rfl rfl rfl rfl ?_
    refine Sq.off rfl rfl rfl rfl rfl rfl ?_
    refine Sq.pickT .plain rfl rfl rfl ?_
    refine Sq.move .plain rfl rfl ?_
    refine Sq.off rfl rfl rfl rfl rfl rfl ?_
    refine Sq.off rfl rfl rfl rfl rfl rfl ?_
    refine Sq.pickT .plain rfl rfl rfl ?_
    refine Sq.move .plain rfl rfl ?_
    refine Sq.off rfl rfl rfl rfl rfl rfl ?_
    refine Sq.off rfl rfl rfl rfl rfl rfl ?_
    refine Sq.off rfl rfl rfl rfl rfl rfl ?_
    refine Sq.pickT .plain rfl rfl rfl ?_
    refine Sq.nil ?_
    refine Eq.next ?_
    refine Cq.thn rfl ?_
    refine Cq.seq ?_
    refine Cq.region ?_
    refine Sq.assign .plain rfl rfl ?_
    refine Sq.assign .plain rfl rfl ?_
    refine Sq.nil ?_
    refine Eq.next ?_
    refine Cq.ret ?_
    refine Eq.pastRet ?_
    refine Eq.ret2 rfl rfl rfl ?_
    have hC : ¬ (validA a && (inA a i && inA a j)) = true := by simp [inA, hv] <;> omega
    exact ⟨by rw [fSplit, if_neg hC]; rfl, E⟩

end Go.Proofs.Ytdkdpmmfebdeaaa
