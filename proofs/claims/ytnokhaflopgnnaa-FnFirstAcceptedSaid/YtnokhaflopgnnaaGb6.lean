/-
  The texts of this proof, joined (wip/merge.py): the calculus of slots, plain mathematics, walks.
-/
import Derived.Test.YtnokhaflopgnnaaGb5
set_option linter.unusedSimpArgs false
set_option linter.unusedVariables false
namespace Go.Proofs.Ytnokhaflopgnnaa
open Go.RowKit
set_option maxRecDepth 100000 in
theorem lAccessLeast (w0 : World) (e : TypeId) (a0 : Option Addr) (c0 : Nat) (cs : List UInt8) (hc : Bytes w0 e (.slice a0 cs.length c0) cs) (hcap : cs.length ≤ c0) : Ret Try.prog 4 #[Value.slice a0 cs.length c0] w0 (fun v w => v = .bool true ∧ Ext w0 w) := by
  have E := Ext.refl w0
  refine Ret.of (args := [Value.slice a0 cs.length c0]) Try.func4 rfl rfl rfl ?_
  rintro _ rfl
  show Cq _ _ _ _ [(0, Value.slice a0 cs.length c0)] _
  refine Cq.seq ?_
  refine Cq.region ?_
  refine Sq.assign .plain rfl rfl ?_
  refine Sq.nil ?_
  refine Eq.next ?_
  refine Cq.seq ?_
  refine Cq.seq ?_
  refine Cq.region ?_
  refine Sq.move .plain rfl rfl ?_
  refine Sq.lenBytes (hc.ext E) .plain rfl und22 rfl ?_
  refine Sq.gtr .plain rfl rfl rfl ?_
  refine Sq.part (fun c1 => ?_) (fun c1 => ?_)
  · refine Sq.nil ?_
    refine Eq.next ?_
    refine Cq.thn rfl ?_
    refine Cq.seq ?_
    refine Cq.region ?_
    refine Sq.assign .plain rfl rfl ?_
    refine Sq.nil ?_
    refine Eq.next ?_
    refine Cq.ret ?_
    refine Eq.pastRet ?_
    refine Eq.ret1 rfl rfl ?_
    exact ⟨rfl, E⟩
  refine Sq.nil ?_
  refine Eq.next ?_
  refine Cq.els rfl ?_
  refine Cq.skip ?_
  refine Eq.next ?_
  refine Cq.seq ?_
  refine Cq.region ?_
  refine Sq.move .plain rfl rfl ?_
  refine Sq.call fn18 .plain rfl rfl (drawAfter_c _ _ _ _ _ (hc.ext E) hcap) ?_
  rintro _ w3 ⟨⟨u5, s6, a7, rfl, ⟨nx8, ac9, rfl, hn10, ha11⟩, hsm12, hsz13⟩, e4⟩
  have hs14 := Below.size E
  have hs15 := Below.size e4
  replace E := E.trans e4
  refine Sq.move .plain rfl rfl ?_
  refine Sq.extract .plain rfl rfl rfl ?_
  refine Sq.extract .plain rfl rfl rfl ?_
  refine Sq.alloc zero26 .plain rfl (fun b16 w17 e18 hB19 hlo20 => ?_)
  have hd21 := Nat.le_trans (Below.size E) hlo20
  have hs22 := Below.size e18
  replace E := E.trans e18
  replace hn10 := hn10.ext e18
  replace ha11 := ha11.ext e18
  refine Sq.storeAgg agg26 .plain rfl rfl (one_cons rfl (one_cons (Rows.one hn10) (one_cons (Row.one ha11) one_nil))) hB19 rfl rfl (fun w23 g24 hB25 => ?_)
  have hs26 := World.grownBy.size g24
  replace E := E.grown g24 (fun k hk => by injection hk with hk; subst hk; omega)
  replace hn10 := hn10.stored g24 hB19 (by decide) (by decide)
  replace ha11 := ha11.stored g24 hB19 (by decide)
  replace hB19 := hB25
  refine Sq.assign .plain rfl rfl ?_
  refine Sq.nil ?_
  refine Eq.next ?_
  refine Cq.seq ?_
  refine Cq.region ?_
  refine Sq.loadAgg agg26 .plain rfl rfl hB19 rfl ?_
  refine Sq.move .plain rfl rfl ?_
  have hd30 := hB19.lt
  refine Sq.call fn23 .plain rfl rfl (after_c _ a7 _ _ hn10 ha11 s6 (by first | omega | exact Nat.le_trans at_size (by decide) | exact Nat.le_trans (size_cut _) (Nat.le_trans at_size (by decide)))) ?_
  rintro _ w28 ⟨rfl, e29⟩
  have hs31 := Below.size E
  have hs32 := Below.size e29
  replace E := E.trans e29
  replace hn10 := hn10.ext e29
  replace ha11 := ha11.ext e29
  replace hB19 := hB19.ext e29
  refine Sq.assign .plain rfl rfl ?_
  refine Sq.nil ?_
  refine Eq.next ?_
  refine Cq.seq ?_
  refine Cq.seq ?_
  refine Cq.region ?_
  refine Sq.move .plain rfl rfl ?_
  refine Sq.loadAgg agg26 .plain rfl rfl hB19 rfl ?_
  refine Sq.move .plain rfl rfl ?_
  have hd36 := hB19.lt
  refine Sq.call fn24 .plain rfl rfl (sAfter_c _ a7 _ _ hn10 ha11 s6 (by first | omega | exact Nat.le_trans at_size (by decide) | exact Nat.le_trans (size_cut _) (Nat.le_trans at_size (by decide)))) ?_
  rintro _ w34 ⟨rfl, e35⟩
  have hs37 := Below.size E
  have hs38 := Below.size e35
  replace E := E.trans e35
  replace hn10 := hn10.ext e35
  replace ha11 := ha11.ext e35
  replace hB19 := hB19.ext e35
  refine Sq.neq .plain rfl rfl rfl ?_
  refine Sq.isF (by omega) ?_
  refine Sq.move .plain rfl rfl ?_
  refine Sq.move (.met rfl rfl rfl) rfl rfl ?_
  refine Sq.lss (.met rfl rfl rfl) rfl rfl rfl ?_
  refine Sq.part (fun hlt => ?_) (fun hlt => ?_)
  · refine Sq.pickF .plain rfl rfl rfl ?_
    refine Sq.nil ?_
    refine Eq.next ?_
    refine Cq.thn rfl ?_
    refine Cq.seq ?_
    refine Cq.region ?_
    refine Sq.move .plain rfl rfl ?_
    refine Sq.loadAgg agg26 .plain rfl rfl hB19 rfl ?_
    refine Sq.move .plain rfl rfl ?_
    have hd42 := hB19.lt
    refine Sq.call fn24 .plain rfl rfl (sAfter_c _ a7 _ _ hn10 ha11 s6 (by first | omega | exact Nat.le_trans at_size (by decide) | exact Nat.le_trans (size_cut _) (Nat.le_trans at_size (by decide)))) ?_
    rintro _ w40 ⟨rfl, e41⟩
    have hs43 := Below.size E
    have hs44 := Below.size e41
    replace E := E.trans e41
    refine Sq.eql .plain rfl rfl rfl ?_
    refine Sq.isT (rfl) ?_
    refine Sq.assign .plain rfl rfl ?_
    refine Sq.nil ?_
    refine Eq.next ?_
    refine Cq.ret ?_
    refine Eq.pastRet ?_
    refine Eq.ret1 rfl rfl ?_
    exact ⟨rfl, E⟩
  refine Sq.pickF .plain rfl rfl rfl ?_
  refine Sq.nil ?_
  refine Eq.next ?_
  refine Cq.els rfl ?_
  refine Cq.skip ?_
  refine Eq.next ?_
  refine Cq.seq ?_
  refine Cq.region ?_
  refine Sq.loadAgg agg26 .plain rfl rfl hB19 rfl ?_
  refine Sq.move .plain rfl rfl ?_
  have hd48 := hB19.lt
  refine Sq.call fn25 .plain rfl rfl (fAt_c _ a7 _ _ hn10 ha11 (after a7 s6)) ?_
  rintro _ w46 ⟨rfl, e47⟩
  have hs49 := Below.size E
  have hs50 := Below.size e47
  replace E := E.trans e47
  replace hn10 := hn10.ext e47
  replace ha11 := ha11.ext e47
  replace hB19 := hB19.ext e47
  refine Sq.move .plain rfl rfl ?_
  refine Sq.extract .plain rfl rfl rfl ?_
  refine Sq.extract .plain rfl rfl rfl ?_
  refine Sq.assign .plain rfl rfl ?_
  refine Sq.assign .plain rfl rfl ?_
  refine Sq.nil ?_
  refine Eq.next ?_
  refine Cq.seq ?_
  refine Cq.region ?_
  refine Sq.move .plain rfl rfl ?_
  refine Sq.beT ((at_least (by omega)).1) ?_
  refine Sq.move .plain rfl rfl ?_
  refine Sq.move (.met rfl rfl rfl) rfl rfl ?_
  refine Sq.move (.met rfl rfl rfl) rfl rfl ?_
  have hd54 := hB19.lt
  refine Sq.call fn22 (.met rfl rfl rfl) rfl rfl (before_c s6 ((txt ((fAt a7 (after a7 s6)).getD []))) _) ?_
  rintro _ w52 ⟨rfl, e53⟩
  have hs55 := Below.size E
  have hs56 := Below.size e53
  replace E := E.trans e53
  replace hn10 := hn10.ext e53
  replace ha11 := ha11.ext e53
  replace hB19 := hB19.ext e53
  refine Sq.beF ((at_least (by omega)).2.1) ?_
  refine Sq.notF (.met rfl rfl rfl) rfl rfl ?_
  refine Sq.pickT .plain rfl rfl rfl ?_
  refine Sq.move .plain rfl rfl ?_
  refine Sq.loadAgg agg26 (.met rfl rfl rfl) rfl rfl hB19 rfl ?_
  refine Sq.move (.met rfl rfl rfl) rfl rfl ?_
  have hd60 := hB19.lt
  refine Sq.call fn23 (.met rfl rfl rfl) rfl rfl (after_c _ a7 _ _ hn10 ha11 ((txt ((fAt a7 (after a7 s6)).getD []))) (by first | omega | exact Nat.le_trans at_size (by decide) | exact Nat.le_trans (size_cut _) (Nat.le_trans at_size (by decide)))) ?_
  rintro _ w58 ⟨rfl, e59⟩
  have hs61 := Below.size E
  have hs62 := Below.size e59
  replace E := E.trans e59
  refine Sq.move (.met rfl rfl rfl) rfl rfl ?_
  refine Sq.eql (.met rfl rfl rfl) rfl rfl rfl ?_
  refine Sq.isT ((at_least (by omega)).2.2) ?_
  refine Sq.pickT .plain rfl rfl rfl ?_
  refine Sq.assign .plain rfl rfl ?_
  refine Sq.nil ?_
  refine Eq.next ?_
  refine Cq.ret ?_
  refine Eq.ret1 rfl rfl ?_
  exact ⟨rfl, E⟩
set_option maxRecDepth 100000 in
theorem lAccessWord (w0 : World) (e : TypeId) (a0 : Option Addr) (c0 : Nat) (cs : List UInt8) (hc : Bytes w0 e (.slice a0 cs.length c0) cs) (hcap : cs.length ≤ c0) : Ret Try.prog 6 #[Value.slice a0 cs.length c0] w0 (fun v w => v = .bool true ∧ Ext w0 w) := by
  have E := Ext.refl w0
  refine Ret.of (args := [Value.slice a0 cs.length c0]) Try.func6 rfl rfl rfl ?_
  rintro _ rfl
  show Cq _ _ _ _ [(0, Value.slice a0 cs.length c0)] _
  refine Cq.seq ?_
  refine Cq.region ?_
  refine Sq.assign .plain rfl rfl ?_
  refine Sq.nil ?_
  refine Eq.next ?_
  refine Cq.seq ?_
  refine Cq.seq ?_
  refine Cq.region ?_
  refine Sq.move .plain rfl rfl ?_
  refine Sq.lenBytes (hc.ext E) .plain rfl und22 rfl ?_
  refine Sq.gtr .plain rfl rfl rfl ?_
  refine Sq.part (fun c1 => ?_) (fun c1 => ?_)
  · refine Sq.nil ?_
    refine Eq.next ?_
    refine Cq.thn rfl ?_
    refine Cq.seq ?_
    refine Cq.region ?_
    refine Sq.assign .plain rfl rfl ?_
    refine Sq.nil ?_
    refine Eq.next ?_
    refine Cq.ret ?_
    refine Eq.pastRet ?_
    refine Eq.ret1 rfl rfl ?_
    exact ⟨rfl, E⟩
  refine Sq.nil ?_
  refine Eq.next ?_
  refine Cq.els rfl ?_
  refine Cq.skip ?_
  refine Eq.next ?_
  refine Cq.seq ?_
  refine Cq.region ?_
  refine Sq.move .plain rfl rfl ?_
  refine Sq.call fn26 .plain rfl rfl (drawAt_c _ _ _ _ _ (hc.ext E) hcap) ?_
  rintro _ w3 ⟨⟨u5, k6, a7, rfl, ⟨nx8, ac9, rfl, hn10, ha11⟩, hsm12, hk13⟩, e4⟩
  have hs14 := Below.size E
  have hs15 := Below.size e4
  replace E := E.trans e4
  refine Sq.move .plain rfl rfl ?_
  refine Sq.extract .plain rfl rfl rfl ?_
  refine Sq.extract .plain rfl rfl rfl ?_
  refine Sq.alloc zero26 .plain rfl (fun b16 w17 e18 hB19 hlo20 => ?_)
  have hd21 := Nat.le_trans (Below.size E) hlo20
  have hs22 := Below.size e18
  replace E := E.trans e18
  replace hn10 := hn10.ext e18
  replace ha11 := ha11.ext e18
  refine Sq.storeAgg agg26 .plain rfl rfl (one_cons rfl (one_cons (Rows.one hn10) (one_cons (Row.one ha11) one_nil))) hB19 rfl rfl (fun w23 g24 hB25 => ?_)
  have hs26 := World.grownBy.size g24
  replace E := E.grown g24 (fun k hk => by injection hk with hk; subst hk; omega)
  replace hn10 := hn10.stored g24 hB19 (by decide) (by decide)
  replace ha11 := ha11.stored g24 hB19 (by decide)
  replace hB19 := hB25
  refine Sq.assign .plain rfl rfl ?_
  refine Sq.nil ?_
  refine Eq.next ?_
  refine Cq.seq ?_
  refine Cq.region ?_
  refine Sq.loadAgg agg26 .plain rfl rfl hB19 rfl ?_
  refine Sq.move .plain rfl rfl ?_
  have hd30 := hB19.lt
  refine Sq.call fn25 .plain rfl rfl (fAt_c _ a7 _ _ hn10 ha11 k6) ?_
  rintro _ w28 ⟨rfl, e29⟩
  have hs31 := Below.size E
  have hs32 := Below.size e29
  replace E := E.trans e29
  replace hn10 := hn10.ext e29
  replace ha11 := ha11.ext e29
  replace hB19 := hB19.ext e29
  refine Sq.move .plain rfl rfl ?_
  refine Sq.extract .plain rfl rfl rfl ?_
  refine Sq.extract .plain rfl rfl rfl ?_
  refine Sq.assign .plain rfl rfl ?_
  refine Sq.assign .plain rfl rfl ?_
  refine Sq.nil ?_
  refine Eq.next ?_
  refine Cq.seq ?_
  refine Cq.region ?_
  refine Sq.loadAgg agg26 .plain rfl rfl hB19 rfl ?_
  refine Sq.move .plain rfl rfl ?_
  have hd36 := hB19.lt
  refine Sq.call fn27 .plain rfl rfl (sfAt_c _ a7 _ _ hn10 ha11 k6) ?_
  rintro _ w34 ⟨rfl, e35⟩
  have hs37 := Below.size E
  have hs38 := Below.size e35
  replace E := E.trans e35
  replace hn10 := hn10.ext e35
  replace ha11 := ha11.ext e35
  replace hB19 := hB19.ext e35
  refine Sq.move .plain rfl rfl ?_
  refine Sq.extract .plain rfl rfl rfl ?_
  refine Sq.extract .plain rfl rfl rfl ?_
  refine Sq.assign .plain rfl rfl ?_
  refine Sq.assign .plain rfl rfl ?_
  refine Sq.nil ?_
  refine Eq.next ?_
  refine Cq.seq ?_
  refine Cq.seq ?_
  refine Cq.region ?_
  refine Sq.move .plain rfl rfl ?_
  refine Sq.move .plain rfl rfl ?_
  refine Sq.neqS .plain rfl rfl rfl ?_
  refine Sq.isF (fun h => h rfl) ?_
  refine Sq.move .plain rfl rfl ?_
  refine Sq.move (.met rfl rfl rfl) rfl rfl ?_
  refine Sq.move (.met rfl rfl rfl) rfl rfl ?_
  refine Sq.neqB und4 (.met rfl rfl rfl) rfl rfl rfl ?_
  refine Sq.beF (by simp) ?_
  refine Sq.pickF .plain rfl rfl rfl ?_
  refine Sq.move .plain rfl rfl ?_
  refine Sq.move (.met rfl rfl rfl) rfl rfl ?_
  refine Sq.partB (fun hd => ?_) (fun hd => ?_)
  · refine Sq.notT (.met rfl rfl rfl) rfl rfl ?_
    refine Sq.pickF .plain rfl rfl rfl ?_
    refine Sq.nil ?_
    refine Eq.next ?_
    refine Cq.els rfl ?_
    refine Cq.skip ?_
    refine Eq.next ?_
    refine Cq.seq ?_
    refine Cq.region ?_
    refine Sq.loadAgg agg26 .plain rfl rfl hB19 rfl ?_
    refine Sq.move .plain rfl rfl ?_
    have hd42 := hB19.lt
    refine Sq.call fn23 .plain rfl rfl (after_c _ a7 _ _ hn10 ha11 ((txt ((fAt a7 k6).getD []))) (by first | omega | exact Nat.le_trans at_size (by decide) | exact Nat.le_trans (size_cut _) (Nat.le_trans at_size (by decide)))) ?_
    rintro _ w40 ⟨rfl, e41⟩
    have hs43 := Below.size E
    have hs44 := Below.size e41
    replace E := E.trans e41
    replace hn10 := hn10.ext e41
    replace hB19 := hB19.ext e41
    refine Sq.move .plain rfl rfl ?_
    refine Sq.eql .plain rfl rfl rfl ?_
    refine Sq.isT ((at_after hd).1) ?_
    refine Sq.move .plain rfl rfl ?_
    refine Sq.move (.met rfl rfl rfl) rfl rfl ?_
    refine Sq.lenStr (.met rfl rfl rfl) rfl und9 rfl ?_
    refine Sq.fieldAddr fld26_1 (.met rfl rfl rfl) rfl rfl ?_
    refine Sq.loadB one23 (.met rfl rfl rfl) rfl rfl hB19 rfl ?_
    refine Sq.lenRows hn10 (.met rfl rfl rfl) rfl und23 rfl ?_
    refine Sq.lss (.met rfl rfl rfl) rfl rfl rfl ?_
    refine Sq.isT ((at_after hd).2) ?_
    refine Sq.pickT .plain rfl rfl rfl ?_
    refine Sq.assign .plain rfl rfl ?_
    refine Sq.nil ?_
    refine Eq.next ?_
    refine Cq.ret ?_
    refine Eq.ret1 rfl rfl ?_
    exact ⟨rfl, E⟩
  refine Sq.notF (.met rfl rfl rfl) rfl rfl ?_
  refine Sq.pickF .plain rfl rfl rfl ?_
  refine Sq.nil ?_
  refine Eq.next ?_
  refine Cq.thn rfl ?_
  refine Cq.seq ?_
  refine Cq.region ?_
  refine Sq.move .plain rfl rfl ?_
  refine Sq.move .plain rfl rfl ?_
  refine Sq.eqlS .plain rfl rfl rfl ?_
  refine Sq.isT (rfl) ?_
  refine Sq.move .plain rfl rfl ?_
  refine Sq.move (.met rfl rfl rfl) rfl rfl ?_
  refine Sq.beF (hd) ?_
  refine Sq.move (.met rfl rfl rfl) rfl rfl ?_
  refine Sq.beF (hd) ?_
  refine Sq.eqlB und4 (.met rfl rfl rfl) rfl rfl rfl ?_
  refine Sq.pickT .plain rfl rfl rfl ?_
  refine Sq.move .plain rfl rfl ?_
  refine Sq.move (.met rfl rfl rfl) rfl rfl ?_
  refine Sq.eqlS (.met rfl rfl rfl) rfl rfl rfl ?_
  refine Sq.isT (bytes_same (at_none hd)) ?_
  refine Sq.pickT .plain rfl rfl rfl ?_
  refine Sq.assign .plain rfl rfl ?_
  refine Sq.nil ?_
  refine Eq.next ?_
  refine Cq.ret ?_
  refine Eq.pastRet ?_
  refine Eq.ret1 rfl rfl ?_
  exact ⟨rfl, E⟩
set_option maxRecDepth 100000 in
theorem lAccessPrefix (w0 : World) (e : TypeId) (a0 : Option Addr) (c0 : Nat) (cs : List UInt8) (hc : Bytes w0 e (.slice a0 cs.length c0) cs) (hcap : cs.length ≤ c0) : Ret Try.prog 5 #[Value.slice a0 cs.length c0] w0 (fun v w => v = .bool true ∧ Ext w0 w) := by
  have E := Ext.refl w0
  refine Ret.of (args := [Value.slice a0 cs.length c0]) Try.func5 rfl rfl rfl ?_
  rintro _ rfl
  show Cq _ _ _ _ [(0, Value.slice a0 cs.length c0)] _
  refine Cq.seq ?_
  refine Cq.region ?_
  refine Sq.assign .plain rfl rfl ?_
  refine Sq.nil ?_
  refine Eq.next ?_
  refine Cq.seq ?_
  refine Cq.seq ?_
  refine Cq.region ?_
  refine Sq.move .plain rfl rfl ?_
  refine Sq.lenBytes (hc.ext E) .plain rfl und22 rfl ?_
  refine Sq.gtr .plain rfl rfl rfl ?_
  refine Sq.part (fun c1 => ?_) (fun c1 => ?_)
  · refine Sq.nil ?_
    refine Eq.next ?_
    refine Cq.thn rfl ?_
    refine Cq.seq ?_
    refine Cq.region ?_
    refine Sq.assign .plain rfl rfl ?_
    refine Sq.nil ?_
    refine Eq.next ?_
    refine Cq.ret ?_
    refine Eq.pastRet ?_
    refine Eq.ret1 rfl rfl ?_
    exact ⟨rfl, E⟩
  refine Sq.nil ?_
  refine Eq.next ?_
  refine Cq.els rfl ?_
  refine Cq.skip ?_
  refine Eq.next ?_
  refine Cq.seq ?_
  refine Cq.region ?_
  refine Sq.move .plain rfl rfl ?_
  refine Sq.call fn26 .plain rfl rfl (drawAt_c _ _ _ _ _ (hc.ext E) hcap) ?_
  rintro _ w3 ⟨⟨u5, k6, a7, rfl, ⟨nx8, ac9, rfl, hn10, ha11⟩, hsm12, hk13⟩, e4⟩
  have hs14 := Below.size E
  have hs15 := Below.size e4
  replace E := E.trans e4
  refine Sq.move .plain rfl rfl ?_
  refine Sq.extract .plain rfl rfl rfl ?_
  refine Sq.extract .plain rfl rfl rfl ?_
  refine Sq.alloc zero26 .plain rfl (fun b16 w17 e18 hB19 hlo20 => ?_)
  have hd21 := Nat.le_trans (Below.size E) hlo20
  have hs22 := Below.size e18
  replace E := E.trans e18
  replace hn10 := hn10.ext e18
  replace ha11 := ha11.ext e18
  refine Sq.storeAgg agg26 .plain rfl rfl (one_cons rfl (one_cons (Rows.one hn10) (one_cons (Row.one ha11) one_nil))) hB19 rfl rfl (fun w23 g24 hB25 => ?_)
  have hs26 := World.grownBy.size g24
  replace E := E.grown g24 (fun k hk => by injection hk with hk; subst hk; omega)
  replace hn10 := hn10.stored g24 hB19 (by decide) (by decide)
  replace ha11 := ha11.stored g24 hB19 (by decide)
  replace hB19 := hB25
  refine Sq.assign .plain rfl rfl ?_
  refine Sq.nil ?_
  refine Eq.next ?_
  refine Cq.seq ?_
  refine Cq.region ?_
  refine Sq.loadAgg agg26 .plain rfl rfl hB19 rfl ?_
  refine Sq.move .plain rfl rfl ?_
  have hd30 := hB19.lt
  refine Sq.call fn25 .plain rfl rfl (fAt_c _ a7 _ _ hn10 ha11 k6) ?_
  rintro _ w28 ⟨rfl, e29⟩
  have hs31 := Below.size E
  have hs32 := Below.size e29
  replace E := E.trans e29
  replace hn10 := hn10.ext e29
  replace ha11 := ha11.ext e29
  replace hB19 := hB19.ext e29
  refine Sq.move .plain rfl rfl ?_
  refine Sq.extract .plain rfl rfl rfl ?_
  refine Sq.extract .plain rfl rfl rfl ?_
  refine Sq.assign .plain rfl rfl ?_
  refine Sq.assign .plain rfl rfl ?_
  refine Sq.nil ?_
  refine Eq.next ?_
  refine Cq.seq ?_
  refine Cq.region ?_
  refine Sq.loadAgg agg26 .plain rfl rfl hB19 rfl ?_
  refine Sq.move .plain rfl rfl ?_
  have hd36 := hB19.lt
  refine Sq.call fn27 .plain rfl rfl (sfAt_c _ a7 _ _ hn10 ha11 k6) ?_
  rintro _ w34 ⟨rfl, e35⟩
  have hs37 := Below.size E
  have hs38 := Below.size e35
  replace E := E.trans e35
  replace hn10 := hn10.ext e35
  replace ha11 := ha11.ext e35
  replace hB19 := hB19.ext e35
  refine Sq.move .plain rfl rfl ?_
  refine Sq.extract .plain rfl rfl rfl ?_
  refine Sq.extract .plain rfl rfl rfl ?_
  refine Sq.assign .plain rfl rfl ?_
  refine Sq.assign .plain rfl rfl ?_
  refine Sq.nil ?_
  refine Eq.next ?_
  refine Cq.seq ?_
  refine Cq.seq ?_
  refine Cq.region ?_
  refine Sq.move .plain rfl rfl ?_
  refine Sq.move .plain rfl rfl ?_
  refine Sq.neqS .plain rfl rfl rfl ?_
  refine Sq.isF (fun h => h rfl) ?_
  refine Sq.move .plain rfl rfl ?_
  refine Sq.move (.met rfl rfl rfl) rfl rfl ?_
  refine Sq.move (.met rfl rfl rfl) rfl rfl ?_
  refine Sq.neqB und4 (.met rfl rfl rfl) rfl rfl rfl ?_
  refine Sq.beF (by simp) ?_
  refine Sq.pickF .plain rfl rfl rfl ?_
  refine Sq.move .plain rfl rfl ?_
  refine Sq.move (.met rfl rfl rfl) rfl rfl ?_
  refine Sq.partB (fun hd => ?_) (fun hd => ?_)
  · refine Sq.notT (.met rfl rfl rfl) rfl rfl ?_
    refine Sq.pickF .plain rfl rfl rfl ?_
    refine Sq.nil ?_
    refine Eq.next ?_
    refine Cq.els rfl ?_
    refine Cq.skip ?_
    refine Eq.next ?_
    refine Cq.seq ?_
    refine Cq.seq ?_
    refine Cq.region ?_
    refine Sq.assign .plain rfl rfl ?_
    refine Sq.nil ?_
    refine Eq.next ?_
    refine Cq.block ?_
    have hz0 := @at_size a7 k6
    refine Cq.loop (fun nn w ls => ∃ (i : Int), ls = [(3, Value.pointer (some ⟨b16, 0, none⟩)), (4, Value.int .i64 k6), (5, Value.string ((txt ((fAt a7 k6).getD [])))), (6, Value.bool (fAt a7 k6).isSome), (9, Value.int .i64 i)] ∧ (0 ≤ i ∧ i ≤ ((txt ((fAt a7 k6).getD [])).size : Int) + 1) ∧ Ext w0 w ∧ Blk w b16 26 [Value.int .i64 a7.al, nx8, ac9] ∧ Rows w 60 3 nx8 a7.next ∧ Bools w 4 ac9 a7.acc ∧ nn = (((txt ((fAt a7 k6).getD [])).size : Int) + 1 - i).toNat) _ _ ⟨0, rfl, by omega, E, hB19, hn10, ha11, rfl⟩ (.cons rfl (.cons rfl (.cons rfl (.cons rfl (.cons rfl (.nil)))))) ?_
    rintro nn wl1 ls ⟨i, rfl, hi, E, hB19, hn10, ha11, rfl⟩
    have hs39 := Below.size E
    refine Cq.seq ?_
    refine Cq.seq ?_
    refine Cq.region ?_
    refine Sq.move .plain rfl rfl ?_
    refine Sq.move .plain rfl rfl ?_
    refine Sq.lenStr .plain rfl und9 rfl ?_
    refine Sq.leq .plain rfl rfl rfl ?_
    refine Sq.part (fun c40 => ?_) (fun c40 => ?_)
    · refine Sq.nil ?_
      refine Eq.next ?_
      refine Cq.thn rfl ?_
      refine Cq.skip ?_
      refine Eq.next ?_
      refine Cq.seq ?_
      refine Cq.block ?_
      refine Cq.seq ?_
      refine Cq.drawS 11 (fun w' => Blk w' b16 26 [Value.int .i64 a7.al, nx8, ac9]) mixed (hB19) (fun w41 e42 hS => ?_)
      clear hS
      have hs43 := Below.size e42
      replace E := E.trans e42
      replace hB19 := hB19.ext e42
      replace hn10 := hn10.ext e42
      replace ha11 := ha11.ext e42
      refine Gq.st 0 rfl (by kernel_rfl) rfl .plain rfl (fun _ _ _ h => h) hB19 (fun w' x => Still.loadAgg agg26 rfl x rfl) ?_
      refine Gq.st 1 rfl (by kernel_rfl) rfl .plain rfl (fun _ _ _ h => h) hB19 (fun w' x => Still.loadAgg agg26 rfl x rfl) ?_
      refine Gq.st 2 rfl (by kernel_rfl) rfl .plain rfl (fun _ _ _ h => h) hB19 (fun w' x => Still.move rfl) ?_
      refine Gq.st 3 rfl (by kernel_rfl) rfl .plain rfl (fun _ _ _ h => h) hB19 (fun w' x => Still.move rfl) ?_
      refine Gq.st 4 rfl (by kernel_rfl) rfl .plain rfl (fun _ _ _ h => h) hB19 (fun w' x => Still.cutH und9 rfl rfl (by omega)) ?_
      refine Gq.one 5 rfl (by kernel_rfl) ?_
      have hd47 := hB19.lt
      refine Sq.call fn23 .plain rfl rfl (after_c _ a7 _ _ hn10 ha11 (((txt ((fAt a7 k6).getD [])).extract 0 i.toNat)) (by first | omega | exact Nat.le_trans (size_cut _) (Nat.le_trans at_size (by decide)))) ?_
      rintro _ w45 ⟨rfl, e46⟩
      have hs48 := Below.size E
      have hs49 := Below.size e46
      replace E := E.trans e46
      replace hB19 := hB19.ext e46
      replace hn10 := hn10.ext e46
      replace ha11 := ha11.ext e46
      refine Sq.nil ?_
      refine Eq.goes (fun _ => hB19) ?_
      refine Gq.one 6 rfl (by kernel_rfl) ?_
      have hd53 := hB19.lt
      refine Sq.call fn25 .plain rfl rfl (fAt_c _ a7 _ _ hn10 ha11 ((after a7 (((txt ((fAt a7 k6).getD [])).extract 0 i.toNat))))) ?_
      rintro _ w51 ⟨rfl, e52⟩
      have hs54 := Below.size E
      have hs55 := Below.size e52
      replace E := E.trans e52
      replace hB19 := hB19.ext e52
      replace hn10 := hn10.ext e52
      replace ha11 := ha11.ext e52
      refine Sq.nil ?_
      refine Eq.goes (fun _ => hB19) ?_
      refine Gq.st 7 rfl (by kernel_rfl) rfl .plain rfl (fun _ _ _ h => h) hB19 (fun w' x => Still.move rfl) ?_
      refine Gq.st 8 rfl (by kernel_rfl) rfl .plain rfl (fun _ _ _ h => h) hB19 (fun w' x => Still.extract rfl rfl) ?_
      refine Gq.st 9 rfl (by kernel_rfl) rfl .plain rfl (fun _ _ _ h => h) hB19 (fun w' x => Still.extract rfl rfl) ?_
      refine Gq.st 10 rfl (by kernel_rfl) rfl .plain rfl (fun _ _ _ h => h) hB19 (fun w' x => Still.assign rfl) ?_
      refine Gq.one 11 rfl (by kernel_rfl) ?_
      refine Sq.assign .plain rfl rfl ?_
      refine Sq.nil ?_
      refine Eq.goes (fun h => absurd h (by decide)) ?_
      refine Gq.done (by kernel_rfl) ?_
      refine Eq.next ?_
      refine Cq.seq ?_
      refine Cq.region ?_
      refine Sq.move .plain rfl rfl ?_
      refine Sq.beT ((at_prefix hd i.toNat).1) ?_
      refine Sq.notT .plain rfl rfl ?_
      refine Sq.move .plain rfl rfl ?_
      refine Sq.move (.met rfl rfl rfl) rfl rfl ?_
      refine Sq.move (.met rfl rfl rfl) rfl rfl ?_
      refine Sq.move (.met rfl rfl rfl) rfl rfl ?_
      refine Sq.val (.met rfl rfl rfl) rfl rfl (Still.cutH und9 rfl rfl (by omega)) ?_
      refine Sq.neqS (.met rfl rfl rfl) rfl rfl rfl ?_
      refine Sq.isF (fun h => h (bytes_same (at_prefix hd i.toNat).2)) ?_
      refine Sq.pickF .plain rfl rfl rfl ?_
      refine Sq.nil ?_
      refine Eq.next ?_
      refine Cq.els rfl ?_
      refine Cq.skip ?_
      refine Eq.end ?_
      refine Eq.next ?_
      refine Cq.region ?_
      refine Sq.move .plain rfl rfl ?_
      refine Sq.add .plain rfl rfl rfl (by omega) ?_
      refine Sq.assign .plain rfl rfl ?_
      refine Sq.nil ?_
      refine Eq.round _ _ ⟨i + 1, rfl, by omega, E, hB19, hn10, ha11, rfl⟩ (by omega) (.cons rfl (.cons rfl (.cons rfl (.cons rfl (.cons rfl (.nil))))))
    refine Sq.nil ?_
    refine Eq.next ?_
    refine Cq.els rfl ?_
    refine Cq.exit ?_
    refine Eq.past ?_
    refine Eq.past ?_
    refine Eq.hit ?_
    refine Eq.next ?_
    refine Cq.seq ?_
    refine Cq.region ?_
    refine Sq.assign .plain rfl rfl ?_
    refine Sq.nil ?_
    refine Eq.next ?_
    refine Cq.ret ?_
    refine Eq.ret1 rfl rfl ?_
    exact ⟨rfl, E⟩
  refine Sq.notF (.met rfl rfl rfl) rfl rfl ?_
  refine Sq.pickF .plain rfl rfl rfl ?_
  refine Sq.nil ?_
  refine Eq.next ?_
  refine Cq.thn rfl ?_
  refine Cq.seq ?_
  refine Cq.region ?_
  refine Sq.move .plain rfl rfl ?_
  refine Sq.move .plain rfl rfl ?_
  refine Sq.eqlS .plain rfl rfl rfl ?_
  refine Sq.isT (rfl) ?_
  refine Sq.move .plain rfl rfl ?_
  refine Sq.move (.met rfl rfl rfl) rfl rfl ?_
  refine Sq.beF (hd) ?_
  refine Sq.move (.met rfl rfl rfl) rfl rfl ?_
  refine Sq.beF (hd) ?_
  refine Sq.eqlB und4 (.met rfl rfl rfl) rfl rfl rfl ?_
  refine Sq.pickT .plain rfl rfl rfl ?_
  refine Sq.assign .plain rfl rfl ?_
  refine Sq.nil ?_
  refine Eq.next ?_
  refine Cq.ret ?_
  refine Eq.pastRet ?_
  refine Eq.ret1 rfl rfl ?_
  exact ⟨rfl, E⟩
set_option maxRecDepth 100000 in
theorem lSplitNone (w0 : World) (e : TypeId) (a0 : Option Addr) (c0 : Nat) (cs : List UInt8) (hc : Bytes w0 e (.slice a0 cs.length c0) cs) (hcap : cs.length ≤ c0) : Ret Try.prog 8 #[Value.slice a0 cs.length c0] w0 (fun v w => v = .bool true ∧ Ext w0 w) := by
  have E := Ext.refl w0
  refine Ret.of (args := [Value.slice a0 cs.length c0]) Try.func8 rfl rfl rfl ?_
  rintro _ rfl
  show Cq _ _ _ _ [(0, Value.slice a0 cs.length c0)] _
  refine Cq.seq ?_
  refine Cq.region ?_
  refine Sq.assign .plain rfl rfl ?_
  refine Sq.nil ?_
  refine Eq.next ?_
  refine Cq.seq ?_
  refine Cq.seq ?_
  refine Cq.region ?_
  refine Sq.move .plain rfl rfl ?_
  refine Sq.lenBytes (hc.ext E) .plain rfl und22 rfl ?_
  refine Sq.gtr .plain rfl rfl rfl ?_
  refine Sq.part (fun c1 => ?_) (fun c1 => ?_)
  · refine Sq.nil ?_
    refine Eq.next ?_
    refine Cq.thn rfl ?_
    refine Cq.seq ?_
    refine Cq.region ?_
    refine Sq.assign .plain rfl rfl ?_
    refine Sq.nil ?_
    refine Eq.next ?_
    refine Cq.ret ?_
    refine Eq.pastRet ?_
    refine Eq.ret1 rfl rfl ?_
    exact ⟨rfl, E⟩
  refine Sq.nil ?_
  refine Eq.next ?_
  refine Cq.els rfl ?_
  refine Cq.skip ?_
  refine Eq.next ?_
  refine Cq.seq ?_
  refine Cq.region ?_
  refine Sq.move .plain rfl rfl ?_
  refine Sq.call fn28 .plain rfl rfl (drawSplit_c _ _ _ _ _ (hc.ext E) hcap) ?_
  rintro _ w3 ⟨⟨u5, i6, j7, a8, rfl, ⟨nx9, ac10, rfl, hn11, ha12⟩, hsm13⟩, e4⟩
  have hs14 := Below.size E
  have hs15 := Below.size e4
  replace E := E.trans e4
  refine Sq.move .plain rfl rfl ?_
  refine Sq.extract .plain rfl rfl rfl ?_
  refine Sq.extract .plain rfl rfl rfl ?_
  refine Sq.extract .plain rfl rfl rfl ?_
  refine Sq.alloc zero26 .plain rfl (fun b16 w17 e18 hB19 hlo20 => ?_)
  have hd21 := Nat.le_trans (Below.size E) hlo20
  have hs22 := Below.size e18
  replace E := E.trans e18
  replace hn11 := hn11.ext e18
  replace ha12 := ha12.ext e18
  refine Sq.storeAgg agg26 .plain rfl rfl (one_cons rfl (one_cons (Rows.one hn11) (one_cons (Row.one ha12) one_nil))) hB19 rfl rfl (fun w23 g24 hB25 => ?_)
  have hs26 := World.grownBy.size g24
  replace E := E.grown g24 (fun k hk => by injection hk with hk; subst hk; omega)
  replace hn11 := hn11.stored g24 hB19 (by decide) (by decide)
  replace ha12 := ha12.stored g24 hB19 (by decide)
  replace hB19 := hB25
  refine Sq.assign .plain rfl rfl ?_
  refine Sq.assign .plain rfl rfl ?_
  refine Sq.nil ?_
  refine Eq.next ?_
  refine Cq.seq ?_
  refine Cq.region ?_
  refine Sq.loadAgg agg26 .plain rfl rfl hB19 rfl ?_
  refine Sq.move .plain rfl rfl ?_
  refine Sq.move .plain rfl rfl ?_
  have hd30 := hB19.lt
  refine Sq.call fn29 .plain rfl rfl (fSplit_c _ a8 _ _ hn11 ha12 i6 j7) ?_
  rintro _ w28 ⟨rfl, e29⟩
  have hs31 := Below.size E
  have hs32 := Below.size e29
  replace E := E.trans e29
  replace hn11 := hn11.ext e29
  replace ha12 := ha12.ext e29
  replace hB19 := hB19.ext e29
  refine Sq.move .plain rfl rfl ?_
  refine Sq.extract .plain rfl rfl rfl ?_
  refine Sq.extract .plain rfl rfl rfl ?_
  refine Sq.assign .plain rfl rfl ?_
  refine Sq.assign .plain rfl rfl ?_
  refine Sq.nil ?_
  refine Eq.next ?_
  refine Cq.seq ?_
  refine Cq.region ?_
  refine Sq.loadAgg agg26 .plain rfl rfl hB19 rfl ?_
  refine Sq.move .plain rfl rfl ?_
  refine Sq.move .plain rfl rfl ?_
  have hd36 := hB19.lt
  refine Sq.call fn30 .plain rfl rfl (sfSplit_c _ a8 _ _ hn11 ha12 i6 j7) ?_
  rintro _ w34 ⟨rfl, e35⟩
  have hs37 := Below.size E
  have hs38 := Below.size e35
  replace E := E.trans e35
  replace hn11 := hn11.ext e35
  replace ha12 := ha12.ext e35
  replace hB19 := hB19.ext e35
  refine Sq.move .plain rfl rfl ?_
  refine Sq.extract .plain rfl rfl rfl ?_
  refine Sq.extract .plain rfl rfl rfl ?_
  refine Sq.assign .plain rfl rfl ?_
  refine Sq.assign .plain rfl rfl ?_
  refine Sq.nil ?_
  refine Eq.next ?_
  refine Cq.seq ?_
  refine Cq.seq ?_
  refine Cq.region ?_
  refine Sq.move .plain rfl rfl ?_
  refine Sq.move .plain rfl rfl ?_
  refine Sq.neqS .plain rfl rfl rfl ?_
  refine Sq.isF (fun h => h rfl) ?_
  refine Sq.move .plain rfl rfl ?_
  refine Sq.move (.met rfl rfl rfl) rfl rfl ?_
  refine Sq.move (.met rfl rfl rfl) rfl rfl ?_
  refine Sq.neqB und4 (.met rfl rfl rfl) rfl rfl rfl ?_
  refine Sq.beF (by simp) ?_
  refine Sq.pickF .plain rfl rfl rfl ?_
  refine Sq.move .plain rfl rfl ?_
  refine Sq.move (.met rfl rfl rfl) rfl rfl ?_
  refine Sq.partB (fun hd => ?_) (fun hd => ?_)
  · refine Sq.notT (.met rfl rfl rfl) rfl rfl ?_
    refine Sq.pickF .plain rfl rfl rfl ?_
    refine Sq.nil ?_
    refine Eq.next ?_
    refine Cq.els rfl ?_
    refine Cq.skip ?_
    refine Eq.next ?_
    refine Cq.seq ?_
    refine Cq.seq ?_
    refine Cq.region ?_
    refine Sq.assign .plain rfl rfl ?_
    refine Sq.nil ?_
    refine Eq.next ?_
    refine Cq.block ?_
    have hz0 := @split_size a8 i6 j7
    refine Cq.loop (fun nn w ls => ∃ (k : Int), ls = [(3, Value.pointer (some ⟨b16, 0, none⟩)), (4, Value.int .i64 i6), (5, Value.int .i64 j7), (6, Value.string ((txt ((fSplit a8 i6 j7).getD [])))), (7, Value.bool (fSplit a8 i6 j7).isSome), (10, Value.int .i64 k)] ∧ (0 ≤ k ∧ k ≤ ((txt ((fSplit a8 i6 j7).getD [])).size : Int) + 1) ∧ Ext w0 w ∧ Blk w b16 26 [Value.int .i64 a8.al, nx9, ac10] ∧ Rows w 60 3 nx9 a8.next ∧ Bools w 4 ac10 a8.acc ∧ nn = (((txt ((fSplit a8 i6 j7).getD [])).size : Int) + 1 - k).toNat) _ _ ⟨0, rfl, by omega, E, hB19, hn11, ha12, rfl⟩ (.cons rfl (.cons rfl (.cons rfl (.cons rfl (.cons rfl (.cons rfl (.nil))))))) ?_
    rintro nn wl1 ls ⟨k, rfl, hk, E, hB19, hn11, ha12, rfl⟩
    have hs39 := Below.size E
    refine Cq.seq ?_
    refine Cq.seq ?_
    refine Cq.region ?_
    refine Sq.move .plain rfl rfl ?_
    refine Sq.move .plain rfl rfl ?_
    refine Sq.lenStr .plain rfl und9 rfl ?_
    refine Sq.leq .plain rfl rfl rfl ?_
    refine Sq.part (fun c40 => ?_) (fun c40 => ?_)
    · refine Sq.nil ?_
      refine Eq.next ?_
      refine Cq.thn rfl ?_
      refine Cq.skip ?_
      refine Eq.next ?_
      refine Cq.seq ?_
      refine Cq.block ?_
      refine Cq.seq ?_
      refine Cq.drawS 18 (fun w' => Blk w' b16 26 [Value.int .i64 a8.al, nx9, ac10]) mixed (hB19) (fun w41 e42 hS => ?_)
      clear hS
      have hs43 := Below.size e42
      replace E := E.trans e42
      replace hB19 := hB19.ext e42
      replace hn11 := hn11.ext e42
      replace ha12 := ha12.ext e42
      refine Gq.st 0 rfl (by kernel_rfl) rfl .plain rfl (fun _ _ _ h => h) hB19 (fun w' x => Still.loadAgg agg26 rfl x rfl) ?_
      refine Gq.st 1 rfl (by kernel_rfl) rfl .plain rfl (fun _ _ _ h => h) hB19 (fun w' x => Still.loadAgg agg26 rfl x rfl) ?_
      refine Gq.st 2 rfl (by kernel_rfl) rfl .plain rfl (fun _ _ _ h => h) hB19 (fun w' x => Still.move rfl) ?_
      refine Gq.st 3 rfl (by kernel_rfl) rfl .plain rfl (fun _ _ _ h => h) hB19 (fun w' x => Still.move rfl) ?_
      refine Gq.st 4 rfl (by kernel_rfl) rfl .plain rfl (fun _ _ _ h => h) hB19 (fun w' x => Still.move rfl) ?_
      refine Gq.st 5 rfl (by kernel_rfl) rfl .plain rfl (fun _ _ _ h => h) hB19 (fun w' x => Still.cutH und9 rfl rfl (by omega)) ?_
      refine Gq.st 7 rfl (by kernel_rfl) rfl .plain rfl (fun _ _ _ h => h) hB19 (fun w' x => Still.loadAgg agg26 rfl x rfl) ?_
      refine Gq.st 8 rfl (by kernel_rfl) rfl .plain rfl (fun _ _ _ h => h) hB19 (fun w' x => Still.move rfl) ?_
      refine Gq.st 9 rfl (by kernel_rfl) rfl .plain rfl (fun _ _ _ h => h) hB19 (fun w' x => Still.move rfl) ?_
      refine Gq.st 10 rfl (by kernel_rfl) rfl .plain rfl (fun _ _ _ h => h) hB19 (fun w' x => Still.move rfl) ?_
      refine Gq.st 11 rfl (by kernel_rfl) rfl .plain rfl (fun _ _ _ h => h) hB19 (fun w' x => Still.cutH und9 rfl rfl (by omega)) ?_
      refine Gq.one 6 rfl (by kernel_rfl) ?_
      have hd47 := hB19.lt
      refine Sq.call fn31 .plain rfl rfl (agFrom_c _ a8 _ _ hn11 ha12 i6 (((txt ((fSplit a8 i6 j7).getD [])).extract 0 k.toNat)) (by first | omega | exact Nat.le_trans (size_cut _) (Nat.le_trans split_size (by decide))) (split_cond hd).1 (split_cond hd).2.1 (within_cut (split_word hd).2.1 _)) ?_
      rintro _ w45 ⟨rfl, e46⟩
      have hs48 := Below.size E
      have hs49 := Below.size e46
      replace E := E.trans e46
      replace hB19 := hB19.ext e46
      replace hn11 := hn11.ext e46
      replace ha12 := ha12.ext e46
      refine Sq.nil ?_
      refine Eq.goes (fun _ => hB19) ?_
      refine Gq.one 12 rfl (by kernel_rfl) ?_
      have hd53 := hB19.lt
      refine Sq.call fn31 .plain rfl rfl (agFrom_c _ a8 _ _ hn11 ha12 j7 (((txt ((fSplit a8 i6 j7).getD [])).extract 0 k.toNat)) (by first | omega | exact Nat.le_trans (size_cut _) (Nat.le_trans split_size (by decide))) (split_cond hd).1 (split_cond hd).2.2 (within_cut (split_word hd).2.1 _)) ?_
      rintro _ w51 ⟨rfl, e52⟩
      have hs54 := Below.size E
      have hs55 := Below.size e52
      replace E := E.trans e52
      replace hB19 := hB19.ext e52
      replace hn11 := hn11.ext e52
      replace ha12 := ha12.ext e52
      refine Sq.nil ?_
      refine Eq.goes (fun _ => hB19) ?_
      refine Gq.one 13 rfl (by kernel_rfl) ?_
      have hd59 := hB19.lt
      refine Sq.call fn29 .plain rfl rfl (fSplit_c _ a8 _ _ hn11 ha12 ((fromA a8 i6 (((txt ((fSplit a8 i6 j7).getD [])).extract 0 k.toNat)))) ((fromA a8 j7 (((txt ((fSplit a8 i6 j7).getD [])).extract 0 k.toNat))))) ?_
      rintro _ w57 ⟨rfl, e58⟩
      have hs60 := Below.size E
      have hs61 := Below.size e58
      replace E := E.trans e58
      replace hB19 := hB19.ext e58
      replace hn11 := hn11.ext e58
      replace ha12 := ha12.ext e58
      refine Sq.nil ?_
      refine Eq.goes (fun _ => hB19) ?_
      refine Gq.st 14 rfl (by kernel_rfl) rfl .plain rfl (fun _ _ _ h => h) hB19 (fun w' x => Still.move rfl) ?_
      refine Gq.st 15 rfl (by kernel_rfl) rfl .plain rfl (fun _ _ _ h => h) hB19 (fun w' x => Still.extract rfl rfl) ?_
      refine Gq.st 16 rfl (by kernel_rfl) rfl .plain rfl (fun _ _ _ h => h) hB19 (fun w' x => Still.extract rfl rfl) ?_
      refine Gq.st 17 rfl (by kernel_rfl) rfl .plain rfl (fun _ _ _ h => h) hB19 (fun w' x => Still.assign rfl) ?_
      refine Gq.one 18 rfl (by kernel_rfl) ?_
      refine Sq.assign .plain rfl rfl ?_
      refine Sq.nil ?_
      refine Eq.goes (fun h => absurd h (by decide)) ?_
      refine Gq.done (by kernel_rfl) ?_
      refine Eq.next ?_
      refine Cq.seq ?_
      refine Cq.region ?_
      refine Sq.move .plain rfl rfl ?_
      refine Sq.beT ((split_rest hd k.toNat).1) ?_
      refine Sq.notT .plain rfl rfl ?_
      refine Sq.move .plain rfl rfl ?_
      refine Sq.move (.met rfl rfl rfl) rfl rfl ?_
      refine Sq.move (.met rfl rfl rfl) rfl rfl ?_
      refine Sq.move (.met rfl rfl rfl) rfl rfl ?_
      refine Sq.val (.met rfl rfl rfl) rfl rfl (Still.cutL und9 rfl rfl (by omega)) ?_
      refine Sq.neqS (.met rfl rfl rfl) rfl rfl rfl ?_
      refine Sq.isF (fun h => h (bytes_same (split_rest hd k.toNat).2)) ?_
      refine Sq.pickF .plain rfl rfl rfl ?_
      refine Sq.nil ?_
      refine Eq.next ?_
      refine Cq.els rfl ?_
      refine Cq.skip ?_
      refine Eq.end ?_
      refine Eq.next ?_
      refine Cq.region ?_
      refine Sq.move .plain rfl rfl ?_
      refine Sq.add .plain rfl rfl rfl (by omega) ?_
      refine Sq.assign .plain rfl rfl ?_
      refine Sq.nil ?_
      refine Eq.round _ _ ⟨k + 1, rfl, by omega, E, hB19, hn11, ha12, rfl⟩ (by omega) (.cons rfl (.cons rfl (.cons rfl (.cons rfl (.cons rfl (.cons rfl (.nil)))))))
    refine Sq.nil ?_
    refine Eq.next ?_
    refine Cq.els rfl ?_
    refine Cq.exit ?_
    refine Eq.past ?_
    refine Eq.past ?_
    refine Eq.hit ?_
    refine Eq.next ?_
    refine Cq.seq ?_
    refine Cq.region ?_
    refine Sq.assign .plain rfl rfl ?_
    refine Sq.nil ?_
    refine Eq.next ?_
    refine Cq.ret ?_
    refine Eq.ret1 rfl rfl ?_
    exact ⟨rfl, E⟩
  refine Sq.notF (.met rfl rfl rfl) rfl rfl ?_
  refine Sq.pickF .plain rfl rfl rfl ?_
  refine Sq.nil ?_
  refine Eq.next ?_
  refine Cq.thn rfl ?_
  refine Cq.seq ?_
  refine Cq.region ?_
  refine Sq.move .plain rfl rfl ?_
  refine Sq.move .plain rfl rfl ?_
  refine Sq.eqlS .plain rfl rfl rfl ?_
  refine Sq.isT (rfl) ?_
  refine Sq.move .plain rfl rfl ?_
  refine Sq.move (.met rfl rfl rfl) rfl rfl ?_
  refine Sq.beF (hd) ?_
  refine Sq.move (.met rfl rfl rfl) rfl rfl ?_
  refine Sq.beF (hd) ?_
  refine Sq.eqlB und4 (.met rfl rfl rfl) rfl rfl rfl ?_
  refine Sq.pickT .plain rfl rfl rfl ?_
  refine Sq.assign .plain rfl rfl ?_
  refine Sq.nil ?_
  refine Eq.next ?_
  refine Cq.ret ?_
  refine Eq.pastRet ?_
  refine Eq.ret1 rfl rfl ?_
  exact ⟨rfl, E⟩
set_option maxRecDepth 100000 in
theorem lSplitStates (w0 : World) (e : TypeId) (a0 : Option Addr) (c0 : Nat) (cs : List UInt8) (hc : Bytes w0 e (.slice a0 cs.length c0) cs) (hcap : cs.length ≤ c0) : Ret Try.prog 11 #[Value.slice a0 cs.length c0] w0 (fun v w => v = .bool true ∧ Ext w0 w) := by
  have E := Ext.refl w0
  refine Ret.of (args := [Value.slice a0 cs.length c0]) Try.func11 rfl rfl rfl ?_
  rintro _ rfl
  show Cq _ _ _ _ [(0, Value.slice a0 cs.length c0)] _
  refine Cq.seq ?_
  refine Cq.region ?_
  refine Sq.assign .plain rfl rfl ?_
  refine Sq.nil ?_
  refine Eq.next ?_
  refine Cq.seq ?_
  refine Cq.seq ?_
  refine Cq.region ?_
  refine Sq.move .plain rfl rfl ?_
  refine Sq.lenBytes (hc.ext E) .plain rfl und22 rfl ?_
  refine Sq.gtr .plain rfl rfl rfl ?_
  refine Sq.part (fun c1 => ?_) (fun c1 => ?_)
  · refine Sq.nil ?_
    refine Eq.next ?_
    refine Cq.thn rfl ?_
    refine Cq.seq ?_
    refine Cq.region ?_
    refine Sq.assign .plain rfl rfl ?_
    refine Sq.nil ?_
    refine Eq.next ?_
    refine Cq.ret ?_
    refine Eq.pastRet ?_
    refine Eq.ret1 rfl rfl ?_
    exact ⟨rfl, E⟩
  refine Sq.nil ?_
  refine Eq.next ?_
  refine Cq.els rfl ?_
  refine Cq.skip ?_
  refine Eq.next ?_
  refine Cq.seq ?_
  refine Cq.region ?_
  refine Sq.move .plain rfl rfl ?_
  refine Sq.call fn28 .plain rfl rfl (drawSplit_c _ _ _ _ _ (hc.ext E) hcap) ?_
  rintro _ w3 ⟨⟨u5, i6, j7, a8, rfl, ⟨nx9, ac10, rfl, hn11, ha12⟩, hsm13⟩, e4⟩
  have hs14 := Below.size E
  have hs15 := Below.size e4
  replace E := E.trans e4
  refine Sq.move .plain rfl rfl ?_
  refine Sq.extract .plain rfl rfl rfl ?_
  refine Sq.extract .plain rfl rfl rfl ?_
  refine Sq.extract .plain rfl rfl rfl ?_
  refine Sq.alloc zero26 .plain rfl (fun b16 w17 e18 hB19 hlo20 => ?_)
  have hd21 := Nat.le_trans (Below.size E) hlo20
  have hs22 := Below.size e18
  replace E := E.trans e18
  replace hn11 := hn11.ext e18
  replace ha12 := ha12.ext e18
  refine Sq.storeAgg agg26 .plain rfl rfl (one_cons rfl (one_cons (Rows.one hn11) (one_cons (Row.one ha12) one_nil))) hB19 rfl rfl (fun w23 g24 hB25 => ?_)
  have hs26 := World.grownBy.size g24
  replace E := E.grown g24 (fun k hk => by injection hk with hk; subst hk; omega)
  replace hn11 := hn11.stored g24 hB19 (by decide) (by decide)
  replace ha12 := ha12.stored g24 hB19 (by decide)
  replace hB19 := hB25
  refine Sq.assign .plain rfl rfl ?_
  refine Sq.assign .plain rfl rfl ?_
  refine Sq.nil ?_
  refine Eq.next ?_
  refine Cq.seq ?_
  refine Cq.region ?_
  refine Sq.loadAgg agg26 .plain rfl rfl hB19 rfl ?_
  refine Sq.move .plain rfl rfl ?_
  refine Sq.move .plain rfl rfl ?_
  have hd30 := hB19.lt
  refine Sq.call fn29 .plain rfl rfl (fSplit_c _ a8 _ _ hn11 ha12 i6 j7) ?_
  rintro _ w28 ⟨rfl, e29⟩
  have hs31 := Below.size E
  have hs32 := Below.size e29
  replace E := E.trans e29
  replace hn11 := hn11.ext e29
  replace ha12 := ha12.ext e29
  replace hB19 := hB19.ext e29
  refine Sq.move .plain rfl rfl ?_
  refine Sq.extract .plain rfl rfl rfl ?_
  refine Sq.extract .plain rfl rfl rfl ?_
  refine Sq.assign .plain rfl rfl ?_
  refine Sq.assign .plain rfl rfl ?_
  refine Sq.nil ?_
  refine Eq.next ?_
  refine Cq.seq ?_
  refine Cq.region ?_
  refine Sq.loadAgg agg26 .plain rfl rfl hB19 rfl ?_
  refine Sq.move .plain rfl rfl ?_
  refine Sq.move .plain rfl rfl ?_
  have hd36 := hB19.lt
  refine Sq.call fn30 .plain rfl rfl (sfSplit_c _ a8 _ _ hn11 ha12 i6 j7) ?_
  rintro _ w34 ⟨rfl, e35⟩
  have hs37 := Below.size E
  have hs38 := Below.size e35
  replace E := E.trans e35
  replace hn11 := hn11.ext e35
  replace ha12 := ha12.ext e35
  replace hB19 := hB19.ext e35
  refine Sq.move .plain rfl rfl ?_
  refine Sq.extract .plain rfl rfl rfl ?_
  refine Sq.extract .plain rfl rfl rfl ?_
  refine Sq.assign .plain rfl rfl ?_
  refine Sq.assign .plain rfl rfl ?_
  refine Sq.nil ?_
  refine Eq.next ?_
  refine Cq.seq ?_
  refine Cq.seq ?_
  refine Cq.region ?_
  refine Sq.move .plain rfl rfl ?_
  refine Sq.move .plain rfl rfl ?_
  refine Sq.neqS .plain rfl rfl rfl ?_
  refine Sq.isF (fun h => h rfl) ?_
  refine Sq.move .plain rfl rfl ?_
  refine Sq.move (.met rfl rfl rfl) rfl rfl ?_
  refine Sq.move (.met rfl rfl rfl) rfl rfl ?_
  refine Sq.neqB und4 (.met rfl rfl rfl) rfl rfl rfl ?_
  refine Sq.beF (by simp) ?_
  refine Sq.pickF .plain rfl rfl rfl ?_
  refine Sq.move .plain rfl rfl ?_
  refine Sq.move (.met rfl rfl rfl) rfl rfl ?_
  refine Sq.partB (fun hd => ?_) (fun hd => ?_)
  · refine Sq.notT (.met rfl rfl rfl) rfl rfl ?_
    refine Sq.pickF .plain rfl rfl rfl ?_
    refine Sq.nil ?_
    refine Eq.next ?_
    refine Cq.els rfl ?_
    refine Cq.skip ?_
    refine Eq.next ?_
    refine Cq.seq ?_
    refine Cq.region ?_
    refine Sq.loadAgg agg26 .plain rfl rfl hB19 rfl ?_
    refine Sq.move .plain rfl rfl ?_
    refine Sq.move .plain rfl rfl ?_
    have hd42 := hB19.lt
    refine Sq.call fn29 .plain rfl rfl (fSplit_c _ a8 _ _ hn11 ha12 j7 i6) ?_
    rintro _ w40 ⟨rfl, e41⟩
    have hs43 := Below.size E
    have hs44 := Below.size e41
    replace E := E.trans e41
    replace hn11 := hn11.ext e41
    replace ha12 := ha12.ext e41
    replace hB19 := hB19.ext e41
    refine Sq.move .plain rfl rfl ?_
    refine Sq.extract .plain rfl rfl rfl ?_
    refine Sq.extract .plain rfl rfl rfl ?_
    refine Sq.assign .plain rfl rfl ?_
    refine Sq.assign .plain rfl rfl ?_
    refine Sq.nil ?_
    refine Eq.next ?_
    refine Cq.seq ?_
    have hvs := validA_spec.1 (split_cond hd).1
    have hinX : 0 ≤ (fromA a8 i6 (txt ((fSplit a8 i6 j7).getD []))) ∧ (fromA a8 i6 (txt ((fSplit a8 i6 j7).getD []))) < a8.next.length := fromA_in (split_cond hd).1 (split_cond hd).2.1 (split_word hd).2.1
    obtain ⟨pX, hpX⟩ := Bools.at ha12 (i := (fromA a8 i6 (txt ((fSplit a8 i6 j7).getD [])))) (by omega) (by omega)
    have hinY : 0 ≤ (fromA a8 j7 (txt ((fSplit a8 i6 j7).getD []))) ∧ (fromA a8 j7 (txt ((fSplit a8 i6 j7).getD []))) < a8.next.length := fromA_in (split_cond hd).1 (split_cond hd).2.2 (split_word hd).2.1
    obtain ⟨pY, hpY⟩ := Bools.at ha12 (i := (fromA a8 j7 (txt ((fSplit a8 i6 j7).getD [])))) (by omega) (by omega)
    refine Cq.drawS 44 (fun w' => Blk w' b16 26 [Value.int .i64 a8.al, nx9, ac10] ∧ Rows w' 60 3 nx9 a8.next ∧ At w' 4 ac10 (fromA a8 i6 (txt ((fSplit a8 i6 j7).getD []))) pX (.bool (a8.acc.getD (fromA a8 i6 (txt ((fSplit a8 i6 j7).getD []))).toNat false)) ∧ At w' 4 ac10 (fromA a8 j7 (txt ((fSplit a8 i6 j7).getD []))) pY (.bool (a8.acc.getD (fromA a8 j7 (txt ((fSplit a8 i6 j7).getD []))).toNat false))) mixed (⟨hB19, hn11, hpX, hpY⟩) (fun w45 e46 hS => ?_)
    clear hS
    have hs47 := Below.size e46
    replace E := E.trans e46
    replace hn11 := hn11.ext e46
    replace ha12 := ha12.ext e46
    replace hB19 := hB19.ext e46
    replace hpX := hpX.ext e46
    replace hpY := hpY.ext e46
    refine Gq.st 0 rfl (by kernel_rfl) rfl .plain rfl (fun _ _ _ h => h) ⟨hB19, hn11, hpX, hpY⟩ (fun w' x => Still.move rfl) ?_
    refine Gq.st 1 rfl (by kernel_rfl) rfl .plain rfl (fun _ _ _ h => h) ⟨hB19, hn11, hpX, hpY⟩ (fun w' x => Still.move rfl) ?_
    refine Gq.st 2 rfl (by kernel_rfl) rfl .plain rfl (fun _ _ _ h => h) ⟨hB19, hn11, hpX, hpY⟩ (fun w' x => Still.neq rfl rfl) ?_
    refine Gq.isT ((split_word hd).1) ?_
    refine Gq.st 3 rfl (by kernel_rfl) rfl .plain rfl (fun _ _ _ h => h) ⟨hB19, hn11, hpX, hpY⟩ (fun w' x => Still.move rfl) ?_
    refine Gq.st 4 rfl (by kernel_rfl) rfl (.met rfl rfl rfl) rfl (fun _ _ _ h => h) ⟨hB19, hn11, hpX, hpY⟩ (fun w' x => Still.move rfl) ?_
    refine Gq.st 5 rfl (by kernel_rfl) rfl (.met rfl rfl rfl) rfl (fun _ _ _ h => h) ⟨hB19, hn11, hpX, hpY⟩ (fun w' x => Still.fieldAddr fld26_0 rfl) ?_
    refine Gq.st 6 rfl (by kernel_rfl) rfl (.met rfl rfl rfl) rfl (fun _ _ _ h => h) ⟨hB19, hn11, hpX, hpY⟩ (fun w' x => Still.loadB one3 rfl x.1 rfl) ?_
    refine Gq.one 7 rfl (by kernel_rfl) ?_
    refine Sq.call fn20 (.met rfl rfl rfl) rfl rfl (within_c ((txt ((fSplit a8 i6 j7).getD []))) a8.al _) ?_
    rintro _ _ ⟨rfl, rfl⟩
    refine Sq.beT ((split_word hd).2.1) ?_
    refine Sq.nil ?_
    refine Eq.goes (fun _ => ⟨hB19, hn11, hpX, hpY⟩) ?_
    refine Gq.st 8 rfl (by kernel_rfl) rfl .plain rfl (fun _ _ _ h => h) ⟨hB19, hn11, hpX, hpY⟩ (fun w' x => Still.pickT rfl rfl) ?_
    refine Gq.st 9 rfl (by kernel_rfl) rfl .plain rfl (fun _ _ _ h => h) ⟨hB19, hn11, hpX, hpY⟩ (fun w' x => Still.move rfl) ?_
    refine Gq.st 10 rfl (by kernel_rfl) rfl (.met rfl rfl rfl) rfl (fun _ _ _ h => h) ⟨hB19, hn11, hpX, hpY⟩ (fun w' x => Still.fieldAddr fld26_2 rfl) ?_
    refine Gq.st 11 rfl (by kernel_rfl) rfl (.met rfl rfl rfl) rfl (fun _ _ _ h => h) ⟨hB19, hn11, hpX, hpY⟩ (fun w' x => Still.loadB one24 rfl x.1 rfl) ?_
    refine Gq.st 12 rfl (by kernel_rfl) rfl (.met rfl rfl rfl) rfl (fun _ _ _ h => h) ⟨hB19, hn11, hpX, hpY⟩ (fun w' x => Still.loadAgg agg26 rfl x.1 rfl) ?_
    refine Gq.st 13 rfl (by kernel_rfl) rfl (.met rfl rfl rfl) rfl (fun _ _ _ h => h) ⟨hB19, hn11, hpX, hpY⟩ (fun w' x => Still.move rfl) ?_
    refine Gq.st 14 rfl (by kernel_rfl) rfl (.met rfl rfl rfl) rfl (fun _ _ _ h => h) ⟨hB19, hn11, hpX, hpY⟩ (fun w' x => Still.move rfl) ?_
    refine Gq.st 18 rfl (by kernel_rfl) rfl (.met rfl rfl rfl) rfl (fun _ _ _ h => h) ⟨hB19, hn11, hpX, hpY⟩ (fun w' x => Still.fieldAddr fld26_2 rfl) ?_
    refine Gq.st 19 rfl (by kernel_rfl) rfl (.met rfl rfl rfl) rfl (fun _ _ _ h => h) ⟨hB19, hn11, hpX, hpY⟩ (fun w' x => Still.loadB one24 rfl x.1 rfl) ?_
    refine Gq.st 20 rfl (by kernel_rfl) rfl (.met rfl rfl rfl) rfl (fun _ _ _ h => h) ⟨hB19, hn11, hpX, hpY⟩ (fun w' x => Still.loadAgg agg26 rfl x.1 rfl) ?_
    refine Gq.st 21 rfl (by kernel_rfl) rfl (.met rfl rfl rfl) rfl (fun _ _ _ h => h) ⟨hB19, hn11, hpX, hpY⟩ (fun w' x => Still.move rfl) ?_
    refine Gq.st 22 rfl (by kernel_rfl) rfl (.met rfl rfl rfl) rfl (fun _ _ _ h => h) ⟨hB19, hn11, hpX, hpY⟩ (fun w' x => Still.move rfl) ?_
    refine Gq.one 15 rfl (by kernel_rfl) ?_
    have hd51 := hB19.lt
    refine Sq.call fn31 (.met rfl rfl rfl) rfl rfl (agFrom_c _ a8 _ _ hn11 ha12 i6 ((txt ((fSplit a8 i6 j7).getD []))) (by first | omega | exact Nat.le_trans split_size (by decide) | exact Nat.le_trans (size_cut _) (Nat.le_trans split_size (by decide))) (split_cond hd).1 (split_cond hd).2.1 (split_word hd).2.1) ?_
    rintro _ w49 ⟨rfl, e50⟩
    have hs52 := Below.size E
    have hs53 := Below.size e50
    replace E := E.trans e50
    replace hn11 := hn11.ext e50
    replace ha12 := ha12.ext e50
    replace hB19 := hB19.ext e50
    replace hpX := hpX.ext e50
    replace hpY := hpY.ext e50
    refine Sq.nil ?_
    refine Eq.goes (fun _ => ⟨hB19, hn11, hpX, hpY⟩) ?_
    refine Gq.st 16 rfl (by kernel_rfl) rfl (.met rfl rfl rfl) rfl (fun _ _ _ h => h) ⟨hB19, hn11, hpX, hpY⟩ (fun w' x => Still.at' sl24 hpX rfl rfl) ?_
    refine Gq.st 17 rfl (by kernel_rfl) rfl (.met rfl rfl rfl) rfl (fun _ _ _ h => h) ⟨hB19, hn11, hpX, hpY⟩ (fun w' x => Still.loadA one4 rfl (x.2.2.1).1) ?_
    refine Gq.one 23 rfl (by kernel_rfl) ?_
    have hd57 := hB19.lt
    refine Sq.call fn31 (.met rfl rfl rfl) rfl rfl (agFrom_c _ a8 _ _ hn11 ha12 j7 ((txt ((fSplit a8 i6 j7).getD []))) (by first | omega | exact Nat.le_trans split_size (by decide) | exact Nat.le_trans (size_cut _) (Nat.le_trans split_size (by decide))) (split_cond hd).1 (split_cond hd).2.2 (split_word hd).2.1) ?_
    rintro _ w55 ⟨rfl, e56⟩
    have hs58 := Below.size E
    have hs59 := Below.size e56
    replace E := E.trans e56
    replace hn11 := hn11.ext e56
    replace hB19 := hB19.ext e56
    replace hpX := hpX.ext e56
    replace hpY := hpY.ext e56
    refine Sq.nil ?_
    refine Eq.goes (fun _ => ⟨hB19, hn11, hpX, hpY⟩) ?_
    refine Gq.st 24 rfl (by kernel_rfl) rfl (.met rfl rfl rfl) rfl (fun _ _ _ h => h) ⟨hB19, hn11, hpX, hpY⟩ (fun w' x => Still.at' sl24 hpY rfl rfl) ?_
    refine Gq.st 25 rfl (by kernel_rfl) rfl (.met rfl rfl rfl) rfl (fun _ _ _ h => h) ⟨hB19, hn11, hpX, hpY⟩ (fun w' x => Still.loadA one4 rfl (x.2.2.2).1) ?_
    refine Gq.st 26 rfl (by kernel_rfl) rfl (.met rfl rfl rfl) rfl (fun _ _ _ h => h) ⟨hB19, hn11, hpX, hpY⟩ (fun w' x => Still.neqB und4 rfl rfl) ?_
    refine Gq.beT ((split_word hd).2.2.1) ?_
    refine Gq.st 27 rfl (by kernel_rfl) rfl .plain rfl (fun _ _ _ h => h) ⟨hB19, hn11, hpX, hpY⟩ (fun w' x => Still.pickT rfl rfl) ?_
    refine Gq.st 28 rfl (by kernel_rfl) rfl .plain rfl (fun _ _ _ h => h) ⟨hB19, hn11, hpX, hpY⟩ (fun w' x => Still.move rfl) ?_
    refine Gq.st 29 rfl (by kernel_rfl) rfl (.met rfl rfl rfl) rfl (fun _ _ _ h => h) ⟨hB19, hn11, hpX, hpY⟩ (fun w' x => Still.move rfl) ?_
    refine Gq.beT (by rw [split_turn]; exact hd) ?_
    refine Gq.st 30 rfl (by kernel_rfl) rfl .plain rfl (fun _ _ _ h => h) ⟨hB19, hn11, hpX, hpY⟩ (fun w' x => Still.pickT rfl rfl) ?_
    refine Gq.st 31 rfl (by kernel_rfl) rfl .plain rfl (fun _ _ _ h => h) ⟨hB19, hn11, hpX, hpY⟩ (fun w' x => Still.move rfl) ?_
    refine Gq.st 32 rfl (by kernel_rfl) rfl (.met rfl rfl rfl) rfl (fun _ _ _ h => h) ⟨hB19, hn11, hpX, hpY⟩ (fun w' x => Still.move rfl) ?_
    refine Gq.st 33 rfl (by kernel_rfl) rfl (.met rfl rfl rfl) rfl (fun _ _ _ h => h) ⟨hB19, hn11, hpX, hpY⟩ (fun w' x => Still.move rfl) ?_
    refine Gq.st 34 rfl (by kernel_rfl) rfl (.met rfl rfl rfl) rfl (fun _ _ _ h => h) ⟨hB19, hn11, hpX, hpY⟩ (fun w' x => Still.eqlS rfl rfl) ?_
    refine Gq.isT (by rw [split_turn]) ?_
    refine Gq.st 35 rfl (by kernel_rfl) rfl .plain rfl (fun _ _ _ h => h) ⟨hB19, hn11, hpX, hpY⟩ (fun w' x => Still.pickT rfl rfl) ?_
    refine Gq.st 36 rfl (by kernel_rfl) rfl .plain rfl (fun _ _ _ h => h) ⟨hB19, hn11, hpX, hpY⟩ (fun w' x => Still.move rfl) ?_
    refine Gq.st 37 rfl (by kernel_rfl) rfl (.met rfl rfl rfl) rfl (fun _ _ _ h => h) ⟨hB19, hn11, hpX, hpY⟩ (fun w' x => Still.move rfl) ?_
    refine Gq.st 38 rfl (by kernel_rfl) rfl (.met rfl rfl rfl) rfl (fun _ _ _ h => h) ⟨hB19, hn11, hpX, hpY⟩ (fun w' x => Still.lenStr und9 rfl) ?_
    refine Gq.st 39 rfl (by kernel_rfl) rfl (.met rfl rfl rfl) rfl (fun _ _ _ h => h) ⟨hB19, hn11, hpX, hpY⟩ (fun w' x => Still.fieldAddr fld26_1 rfl) ?_
    refine Gq.st 40 rfl (by kernel_rfl) rfl (.met rfl rfl rfl) rfl (fun _ _ _ h => h) ⟨hB19, hn11, hpX, hpY⟩ (fun w' x => Still.loadB one23 rfl x.1 rfl) ?_
    refine Gq.st 41 rfl (by kernel_rfl) rfl (.met rfl rfl rfl) rfl (fun _ _ _ h => h) ⟨hB19, hn11, hpX, hpY⟩ (fun w' x => Still.lenRows x.2.1 und23 rfl) ?_
    refine Gq.st 42 rfl (by kernel_rfl) rfl (.met rfl rfl rfl) rfl (fun _ _ _ h => h) ⟨hB19, hn11, hpX, hpY⟩ (fun w' x => Still.lss rfl rfl) ?_
    refine Gq.isT ((split_word hd).2.2.2) ?_
    refine Gq.st 43 rfl (by kernel_rfl) rfl .plain rfl (fun _ _ _ h => h) ⟨hB19, hn11, hpX, hpY⟩ (fun w' x => Still.pickT rfl rfl) ?_
    refine Gq.one 44 rfl (by kernel_rfl) ?_
    refine Sq.assign .plain rfl rfl ?_
    refine Sq.nil ?_
    refine Eq.goes (fun h => absurd h (by decide)) ?_
    refine Gq.done (by kernel_rfl) ?_
    refine Eq.next ?_
    refine Cq.ret ?_
    refine Eq.ret1 rfl rfl ?_
    exact ⟨rfl, E⟩
  refine Sq.notF (.met rfl rfl rfl) rfl rfl ?_
  refine Sq.pickF .plain rfl rfl rfl ?_
  refine Sq.nil ?_
  refine Eq.next ?_
  refine Cq.thn rfl ?_
  refine Cq.seq ?_
  refine Cq.region ?_
  refine Sq.move .plain rfl rfl ?_
  refine Sq.move .plain rfl rfl ?_
  refine Sq.eqlS .plain rfl rfl rfl ?_
  refine Sq.isT (rfl) ?_
  refine Sq.move .plain rfl rfl ?_
  refine Sq.move (.met rfl rfl rfl) rfl rfl ?_
  refine Sq.beF (hd) ?_
  refine Sq.move (.met rfl rfl rfl) rfl rfl ?_
  refine Sq.beF (hd) ?_
  refine Sq.eqlB und4 (.met rfl rfl rfl) rfl rfl rfl ?_
  refine Sq.pickT .plain rfl rfl rfl ?_
  refine Sq.move .plain rfl rfl ?_
  refine Sq.move (.met rfl rfl rfl) rfl rfl ?_
  refine Sq.eqlS (.met rfl rfl rfl) rfl rfl rfl ?_
  refine Sq.isT (bytes_same (split_none hd)) ?_
  refine Sq.pickT .plain rfl rfl rfl ?_
  refine Sq.assign .plain rfl rfl ?_
  refine Sq.nil ?_
  refine Eq.next ?_
  refine Cq.ret ?_
  refine Eq.pastRet ?_
  refine Eq.ret1 rfl rfl ?_
  exact ⟨rfl, E⟩
set_option maxRecDepth 100000 in
theorem lFirstAccepted (w0 : World) (e : TypeId) (a0 : Option Addr) (c0 : Nat) (cs : List UInt8) (hc : Bytes w0 e (.slice a0 cs.length c0) cs) (hcap : cs.length ≤ c0) : Ret Try.prog 9 #[Value.slice a0 cs.length c0] w0 (fun v w => v = .bool true ∧ Ext w0 w) := by
  have E := Ext.refl w0
  refine Ret.of (args := [Value.slice a0 cs.length c0]) Try.func9 rfl rfl rfl ?_
  rintro _ rfl
  show Cq _ _ _ _ [(0, Value.slice a0 cs.length c0)] _
  refine Cq.seq ?_
  refine Cq.region ?_
  refine Sq.assign .plain rfl rfl ?_
  refine Sq.nil ?_
  refine Eq.next ?_
  refine Cq.seq ?_
  refine Cq.seq ?_
  refine Cq.region ?_
  refine Sq.move .plain rfl rfl ?_
  refine Sq.lenBytes (hc.ext E) .plain rfl und22 rfl ?_
  refine Sq.gtr .plain rfl rfl rfl ?_
  refine Sq.part (fun c1 => ?_) (fun c1 => ?_)
  · refine Sq.nil ?_
    refine Eq.next ?_
    refine Cq.thn rfl ?_
    refine Cq.seq ?_
    refine Cq.region ?_
    refine Sq.assign .plain rfl rfl ?_
    refine Sq.nil ?_
    refine Eq.next ?_
    refine Cq.ret ?_
    refine Eq.pastRet ?_
    refine Eq.ret1 rfl rfl ?_
    exact ⟨rfl, E⟩
  refine Sq.nil ?_
  refine Eq.next ?_
  refine Cq.els rfl ?_
  refine Cq.skip ?_
  refine Eq.next ?_
  refine Cq.seq ?_
  refine Cq.region ?_
  refine Sq.move .plain rfl rfl ?_
  refine Sq.call fn32 .plain rfl rfl (drawAcc_c _ _ _ _ _ (hc.ext E) hcap) ?_
  rintro _ w3 ⟨⟨a5, ⟨nx6, ac7, rfl, hn8, ha9⟩, hsm10⟩, e4⟩
  have hs11 := Below.size E
  have hs12 := Below.size e4
  replace E := E.trans e4
  refine Sq.alloc zero26 .plain rfl (fun b13 w14 e15 hB16 hlo17 => ?_)
  have hd18 := Nat.le_trans (Below.size E) hlo17
  have hs19 := Below.size e15
  replace E := E.trans e15
  replace hn8 := hn8.ext e15
  replace ha9 := ha9.ext e15
  refine Sq.storeAgg agg26 .plain rfl rfl (one_cons rfl (one_cons (Rows.one hn8) (one_cons (Row.one ha9) one_nil))) hB16 rfl rfl (fun w20 g21 hB22 => ?_)
  have hs23 := World.grownBy.size g21
  replace E := E.grown g21 (fun k hk => by injection hk with hk; subst hk; omega)
  replace hn8 := hn8.stored g21 hB16 (by decide) (by decide)
  replace ha9 := ha9.stored g21 hB16 (by decide)
  replace hB16 := hB22
  refine Sq.nil ?_
  refine Eq.next ?_
  refine Cq.seq ?_
  refine Cq.region ?_
  refine Sq.loadAgg agg26 .plain rfl rfl hB16 rfl ?_
  have hd27 := hB16.lt
  refine Sq.call fn33 .plain rfl rfl (fAcc_c _ a5 _ _ hn8 ha9) ?_
  rintro _ w25 ⟨rfl, e26⟩
  have hs28 := Below.size E
  have hs29 := Below.size e26
  replace E := E.trans e26
  replace hn8 := hn8.ext e26
  replace ha9 := ha9.ext e26
  replace hB16 := hB16.ext e26
  refine Sq.move .plain rfl rfl ?_
  refine Sq.extract .plain rfl rfl rfl ?_
  refine Sq.extract .plain rfl rfl rfl ?_
  refine Sq.assign .plain rfl rfl ?_
  refine Sq.assign .plain rfl rfl ?_
  refine Sq.nil ?_
  refine Eq.next ?_
  refine Cq.seq ?_
  refine Cq.region ?_
  refine Sq.loadAgg agg26 .plain rfl rfl hB16 rfl ?_
  have hd33 := hB16.lt
  refine Sq.call fn34 .plain rfl rfl (sfAcc_c _ a5 _ _ hn8 ha9) ?_
  rintro _ w31 ⟨rfl, e32⟩
  have hs34 := Below.size E
  have hs35 := Below.size e32
  replace E := E.trans e32
  replace hn8 := hn8.ext e32
  replace ha9 := ha9.ext e32
  replace hB16 := hB16.ext e32
  refine Sq.move .plain rfl rfl ?_
  refine Sq.extract .plain rfl rfl rfl ?_
  refine Sq.extract .plain rfl rfl rfl ?_
  refine Sq.assign .plain rfl rfl ?_
  refine Sq.assign .plain rfl rfl ?_
  refine Sq.nil ?_
  refine Eq.next ?_
  refine Cq.seq ?_
  refine Cq.seq ?_
  refine Cq.region ?_
  refine Sq.move .plain rfl rfl ?_
  refine Sq.move .plain rfl rfl ?_
  refine Sq.neqS .plain rfl rfl rfl ?_
  refine Sq.isF (fun h => h rfl) ?_
  refine Sq.move .plain rfl rfl ?_
  refine Sq.move (.met rfl rfl rfl) rfl rfl ?_
  refine Sq.move (.met rfl rfl rfl) rfl rfl ?_
  refine Sq.neqB und4 (.met rfl rfl rfl) rfl rfl rfl ?_
  refine Sq.beF (by simp) ?_
  refine Sq.pickF .plain rfl rfl rfl ?_
  refine Sq.move .plain rfl rfl ?_
  refine Sq.loadAgg agg26 (.met rfl rfl rfl) rfl rfl hB16 rfl ?_
  have hd39 := hB16.lt
  refine Sq.call fn35 (.met rfl rfl rfl) rfl rfl (valid_c _ a5 _ _ hn8 ha9) ?_
  rintro _ w37 ⟨rfl, e38⟩
  have hs40 := Below.size E
  have hs41 := Below.size e38
  replace E := E.trans e38
  replace hn8 := hn8.ext e38
  replace ha9 := ha9.ext e38
  replace hB16 := hB16.ext e38
  refine Sq.partB (fun hv => ?_) (fun hv => ?_)
  · refine Sq.notT (.met rfl rfl rfl) rfl rfl ?_
    refine Sq.pickF .plain rfl rfl rfl ?_
    refine Sq.nil ?_
    refine Eq.next ?_
    refine Cq.els rfl ?_
    refine Cq.skip ?_
    refine Eq.next ?_
    refine Cq.seq ?_
    refine Cq.seq ?_
    refine Cq.region ?_
    refine Sq.move .plain rfl rfl ?_
    refine Sq.partB (fun hd => ?_) (fun hd => ?_)
    · refine Sq.notT .plain rfl rfl ?_
      refine Sq.nil ?_
      refine Eq.next ?_
      refine Cq.els rfl ?_
      refine Cq.skip ?_
      refine Eq.next ?_
      refine Cq.seq ?_
      refine Cq.region ?_
      have hz0 := @acc_size a5
      refine Sq.loadAgg agg26 .plain rfl rfl hB16 rfl ?_
      refine Sq.move .plain rfl rfl ?_
      have hd45 := hB16.lt
      refine Sq.call fn21 .plain rfl rfl (accepts_c _ a5 _ _ hn8 ha9 ((txt ((fAcc a5).getD []))) (by first | omega | exact Nat.le_trans acc_size (by decide) | exact Nat.le_trans (size_cut _) (Nat.le_trans acc_size (by decide)))) ?_
      rintro _ w43 ⟨rfl, e44⟩
      have hs46 := Below.size E
      have hs47 := Below.size e44
      replace E := E.trans e44
      replace hn8 := hn8.ext e44
      replace ha9 := ha9.ext e44
      replace hB16 := hB16.ext e44
      refine Sq.beT ((acc_word hd).1) ?_
      refine Sq.move .plain rfl rfl ?_
      refine Sq.move (.met rfl rfl rfl) rfl rfl ?_
      refine Sq.lenStr (.met rfl rfl rfl) rfl und9 rfl ?_
      refine Sq.fieldAddr fld26_1 (.met rfl rfl rfl) rfl rfl ?_
      refine Sq.loadB one23 (.met rfl rfl rfl) rfl rfl hB16 rfl ?_
      refine Sq.lenRows hn8 (.met rfl rfl rfl) rfl und23 rfl ?_
      refine Sq.lss (.met rfl rfl rfl) rfl rfl rfl ?_
      refine Sq.isT ((acc_word hd).2.1) ?_
      refine Sq.pickT .plain rfl rfl rfl ?_
      refine Sq.move .plain rfl rfl ?_
      refine Sq.move (.met rfl rfl rfl) rfl rfl ?_
      refine Sq.lenStr (.met rfl rfl rfl) rfl und9 rfl ?_
      refine Sq.eql (.met rfl rfl rfl) rfl rfl rfl ?_
      refine Sq.part (fun hz => ?_) (fun hz => ?_)
      · refine Sq.move (.met rfl rfl rfl) rfl rfl ?_
        refine Sq.off rfl rfl rfl rfl rfl rfl ?_
        refine Sq.off rfl rfl rfl rfl rfl rfl ?_
        refine Sq.off rfl rfl rfl rfl rfl rfl ?_
        refine Sq.pickT (.met rfl rfl rfl) rfl rfl rfl ?_
        refine Sq.move (.met rfl rfl rfl) rfl rfl ?_
        refine Sq.off rfl rfl rfl rfl rfl rfl ?_
        refine Sq.off rfl rfl rfl rfl rfl rfl ?_
        refine Sq.off rfl rfl rfl rfl rfl rfl ?_
        refine Sq.off rfl rfl rfl rfl rfl rfl ?_
        refine Sq.off rfl rfl rfl rfl rfl rfl ?_
        refine Sq.off rfl rfl rfl rfl rfl rfl ?_
        refine Sq.pickT (.met rfl rfl rfl) rfl rfl rfl ?_
        refine Sq.pickT .plain rfl rfl rfl ?_
        refine Sq.assign .plain rfl rfl ?_
        refine Sq.nil ?_
        refine Eq.next ?_
        refine Cq.ret ?_
        refine Eq.ret1 rfl rfl ?_
        exact ⟨rfl, E⟩
      refine Sq.move (.met rfl rfl rfl) rfl rfl ?_
      refine Sq.move (.met rfl rfl rfl) rfl rfl ?_
      refine Sq.lenStr (.met rfl rfl rfl) rfl und9 rfl ?_
      refine Sq.gtr (.met rfl rfl rfl) rfl rfl rfl ?_
      refine Sq.part (fun h7 => ?_) (fun h7 => ?_)
      · refine Sq.pickF (.met rfl rfl rfl) rfl rfl rfl ?_
        refine Sq.move (.met rfl rfl rfl) rfl rfl ?_
        refine Sq.off rfl rfl rfl rfl rfl rfl ?_
        refine Sq.off rfl rfl rfl rfl rfl rfl ?_
        refine Sq.off rfl rfl rfl rfl rfl rfl ?_
        refine Sq.off rfl rfl rfl rfl rfl rfl ?_
        refine Sq.off rfl rfl rfl rfl rfl rfl ?_
        refine Sq.off rfl rfl rfl rfl rfl rfl ?_
        refine Sq.pickT (.met rfl rfl rfl) rfl rfl rfl ?_
        refine Sq.pickT .plain rfl rfl rfl ?_
        refine Sq.assign .plain rfl rfl ?_
        refine Sq.nil ?_
        refine Eq.next ?_
        refine Cq.ret ?_
        refine Eq.ret1 rfl rfl ?_
        exact ⟨rfl, E⟩
      refine Sq.pickF (.met rfl rfl rfl) rfl rfl rfl ?_
      refine Sq.move (.met rfl rfl rfl) rfl rfl ?_
      refine Sq.loadAgg agg26 (.met rfl rfl rfl) rfl rfl hB16 rfl ?_
      refine Sq.move (.met rfl rfl rfl) rfl rfl ?_
      refine Sq.lenStr (.met rfl rfl rfl) rfl und9 rfl ?_
      refine Sq.sub (.met rfl rfl rfl) rfl rfl rfl (by omega) ?_
      have hd51 := hB16.lt
      refine Sq.call fn36 (.met rfl rfl rfl) rfl rfl (count_c _ a5 _ _ hn8 ha9 (((ByteArray.size (txt ((fAcc a5).getD [])) : Int)) - 1) (by omega)) ?_
      rintro _ w49 ⟨rfl, e50⟩
      have hs52 := Below.size E
      have hs53 := Below.size e50
      replace E := E.trans e50
      refine Sq.eql (.met rfl rfl rfl) rfl rfl rfl ?_
      refine Sq.isT (by rcases (acc_word hd).2.2 with h | h | h; exact absurd h hz; exact absurd h h7; exact h) ?_
      refine Sq.pickF (.met rfl rfl rfl) rfl rfl rfl ?_
      refine Sq.pickT .plain rfl rfl rfl ?_
      refine Sq.assign .plain rfl rfl ?_
      refine Sq.nil ?_
      refine Eq.next ?_
      refine Cq.ret ?_
      refine Eq.ret1 rfl rfl ?_
      exact ⟨rfl, E⟩
    refine Sq.notF .plain rfl rfl ?_
    refine Sq.nil ?_
    refine Eq.next ?_
    refine Cq.thn rfl ?_
    refine Cq.seq ?_
    refine Cq.region ?_
    refine Sq.move .plain rfl rfl ?_
    refine Sq.eqlS .plain rfl rfl rfl ?_
    refine Sq.isT (bytes_same (acc_none hv hd).1) ?_
    refine Sq.move .plain rfl rfl ?_
    refine Sq.loadAgg agg26 (.met rfl rfl rfl) rfl rfl hB16 rfl ?_
    have hd57 := hB16.lt
    refine Sq.call fn36 (.met rfl rfl rfl) rfl rfl (count_c _ a5 _ _ hn8 ha9 7 (by omega)) ?_
    rintro _ w55 ⟨rfl, e56⟩
    have hs58 := Below.size E
    have hs59 := Below.size e56
    replace E := E.trans e56
    refine Sq.eql (.met rfl rfl rfl) rfl rfl rfl ?_
    refine Sq.isT ((acc_none hv hd).2) ?_
    refine Sq.pickT .plain rfl rfl rfl ?_
    refine Sq.assign .plain rfl rfl ?_
    refine Sq.nil ?_
    refine Eq.next ?_
    refine Cq.ret ?_
    refine Eq.pastRet ?_
    refine Eq.ret1 rfl rfl ?_
    exact ⟨rfl, E⟩
  refine Sq.notF (.met rfl rfl rfl) rfl rfl ?_
  refine Sq.pickF .plain rfl rfl rfl ?_
  refine Sq.nil ?_
  refine Eq.next ?_
  refine Cq.thn rfl ?_
  refine Cq.seq ?_
  refine Cq.region ?_
  refine Sq.move .plain rfl rfl ?_
  refine Sq.move .plain rfl rfl ?_
  refine Sq.eqlS .plain rfl rfl rfl ?_
  refine Sq.isT (rfl) ?_
  refine Sq.move .plain rfl rfl ?_
  refine Sq.move (.met rfl rfl rfl) rfl rfl ?_
  refine Sq.move (.met rfl rfl rfl) rfl rfl ?_
  refine Sq.eqlB und4 (.met rfl rfl rfl) rfl rfl rfl ?_
  refine Sq.beT (beq_self_eq_true _) ?_
  refine Sq.pickT .plain rfl rfl rfl ?_
  refine Sq.move .plain rfl rfl ?_
  refine Sq.move (.met rfl rfl rfl) rfl rfl ?_
  refine Sq.beF (by rw [acc_no hv]; rfl) ?_
  refine Sq.notF (.met rfl rfl rfl) rfl rfl ?_
  refine Sq.pickT .plain rfl rfl rfl ?_
  refine Sq.assign .plain rfl rfl ?_
  refine Sq.nil ?_
  refine Eq.next ?_
  refine Cq.ret ?_
  refine Eq.pastRet ?_
  refine Eq.ret1 rfl rfl ?_
  exact ⟨rfl, E⟩
end Go.Proofs.Ytnokhaflopgnnaa
set_option linter.unusedSimpArgs false
set_option linter.unusedVariables false
namespace Go.Proofs.Ytnokhaflopgnnaa
open Go.RowKit
def IsRow (k : IntKind) (w : World) (a : Option Addr) (len cap : Nat) (zs : List Int) : Prop :=
  (a = none ∧ len = 0 ∧ cap = 0 ∧ zs = []) ∨
  ∃ x, a = some x ∧ len ≤ cap ∧ cap ≤ maxLen ∧ zs.length = cap ∧ (∀ i, i < zs.length → w.cell? (x.add i) = some (.int k (zs.getD i 0))) ∧ ∀ n ∈ zs, (Lit.int k n).wf = true
theorem wf8 {n : Int} (h : (Lit.int .u8 n).wf = true) : 0 ≤ n ∧ n ≤ 255 := by
  simp [Lit.wf, IntKind.min, IntKind.max, IntKind.signed, IntKind.bits] at h
  omega
theorem bytes_of {w : World} {a : Option Addr} {len cap : Nat} {zs : List Int} (h : IsRow .u8 w a len cap zs) : ∃ e xs, len = List.length xs ∧ Bytes w e (.slice a xs.length cap) xs ∧ xs.length ≤ cap := by
  rcases h with ⟨rfl, rfl, rfl, rfl⟩ | ⟨x, rfl, hl, hm, hz, hcell, hwz⟩
  · exact ⟨0, [], rfl, .inl ⟨rfl, none, 0, rfl, fun _ => rfl⟩, Nat.le_refl _⟩
  · rcases Nat.eq_zero_or_pos len with h0 | h0
    · subst h0
      exact ⟨0, [], rfl, .inl ⟨rfl, some x, cap, rfl, fun h => by cases h⟩, Nat.zero_le _⟩
    · obtain ⟨b, o, s⟩ := x
      have hc := hcell 0 (by omega)
      have hs : s = none := by simpa [Addr.add] using World.cell?_spot hc
      subst hs
      have hb : ∃ cur e fr, w.heap[b]? = some (.cells cur e fr) := by
        rw [addr_add] at hc
        unfold World.cell? at hc
        simp only at hc
        cases hw : w.heap[b]? with
        | none => rw [hw] at hc; simp at hc
        | some ob =>
          rw [hw] at hc
          cases ob <;> simp at hc
          rename_i cur e fr
          exact ⟨cur, e, fr, rfl⟩
      obtain ⟨cur, e, fr, hb⟩ := hb
      have hlen : ((zs.take len).map fun z => UInt8.ofNat z.toNat).length = len := by simp; omega
      refine ⟨e, (zs.take len).map fun z => UInt8.ofNat z.toNat, hlen.symm, .inr ⟨b, o, cap, cur, fr, by simp, hb, fun i y hy => ?_⟩, by omega⟩
      have hi : i < len := by
        have := (List.getElem?_eq_some_iff.1 hy).1
        simp at this; omega
      have hi2 : i < zs.length := by omega
      have h1 := hcell i hi2
      rw [addr_add] at h1
      have h2 : y = .int .u8 (zs.getD i 0) := by
        have hw := wf8 (hwz _ (List.getElem_mem hi2))
        have e2 := u8_of hw
        simp [List.getElem?_take, hi, hi2] at hy
        rw [← hy]
        simp [hi2]
        omega
      rw [h2]
      simpa [World.cell?, hb] using h1
end Go.Proofs.Ytnokhaflopgnnaa
