/-
  Walks, printed by a program out of the translation and a contract for each function; each step is one law.
-/
import Derived.Test.YtdkdpmmfebdeaaaXa
import Derived.Test.YtdkdpmmfebdeaaaQh
import Derived.Test.YtdkdpmmfebdeaaaPf
set_option linter.unusedSimpArgs false
set_option linter.unusedVariables false
namespace Go.Proofs.Ytdkdpmmfebdeaaa
open Go.RowKit

set_option maxRecDepth 100000 in
theorem lExFirstAccepted (w0 : World) (a : A) (nx ac : Value) (hnx : RowsX w0 nx a.next) (hac : BoolsX w0 ac a.acc) : Ret Try.prog 5 #[Value.agg #[Value.int .i64 a.al, nx, ac]] w0 (fun v w => v = .bool true ∧ Ext w0 w) := by
  have E := Ext.refl w0
  refine Ret.of (args := [Value.agg #[Value.int .i64 a.al, nx, ac]]) Try.func5 rfl rfl rfl ?_
  rintro _ rfl
  show Cq _ _ _ _ [(0, Value.agg #[Value.int .i64 a.al, nx, ac])] _
  refine Cq.seq ?_
  refine Cq.region ?_
  refine Sq.box .plain rfl rfl (fun b1 w2 e3 hB4 hlo5 => ?_)
  have hd6 := Nat.le_trans (Below.size E) hlo5
  have hs7 := Below.size e3
  replace E := E.trans e3
  refine Sq.assign .plain rfl rfl ?_
  refine Sq.nil ?_
  refine Eq.next ?_
  refine Cq.seq ?_
  refine Cq.region ?_
  refine Sq.assign .plain rfl rfl ?_
  refine Sq.nil ?_
  refine Eq.next ?_
  refine Cq.seq ?_
  refine Cq.region ?_
  refine Sq.loadAgg agg25 .plain rfl rfl hB4 rfl ?_
  refine Sq.move .plain rfl rfl ?_
  have hd14 := hB4.lt
  refine Sq.call fn13 .plain rfl rfl (szA_c _ a _ _ (hnx.ext E) (hac.ext E) 1048576 (by omega)) ?_
  rintro _ w9 ⟨⟨z11, rfl, hz12, hsm13⟩, e10⟩
  have hs15 := Below.size E
  have hs16 := Below.size e10
  replace E := E.trans e10
  replace hB4 := hB4.ext e10
  refine Sq.assign .plain rfl rfl ?_
  refine Sq.nil ?_
  refine Eq.next ?_
  refine Cq.seq ?_
  refine Cq.seq ?_
  refine Cq.region ?_
  refine Sq.move .plain rfl rfl ?_
  refine Sq.lss .plain rfl rfl rfl ?_
  refine Sq.part (fun c17 => ?_) (fun c17 => ?_)
  · refine Sq.nil ?_
    refine Eq.next ?_
    refine Cq.thn rfl ?_
    refine Cq.seq ?_
    refine Cq.region ?_
    refine Sq.assign .plain rfl rfl ?_
    refine Sq.nil ?_
    refine Eq.next ?_
    refine Cq.ret ?_
    refine Eq.pastRet ?_
    refine Eq.ret1 rfl rfl ?_
    exact ⟨rfl, E⟩
  · refine Sq.nil ?_
    refine Eq.next ?_
    refine Cq.els rfl ?_
    refine Cq.skip ?_
    refine Eq.next ?_
    refine Cq.seq ?_
    refine Cq.region ?_
    refine Sq.loadAgg agg25 .plain rfl rfl hB4 rfl ?_
    have hd25 := hB4.lt
    refine Sq.call fn15 .plain rfl rfl (toA_c _ a _ _ (hnx.ext E) (hac.ext E) (hsm13 (by omega)).2) ?_
    rintro _ w19 ⟨⟨nx21, ac22, rfl, hn23, ha24⟩, e20⟩
    have hs26 := Below.size E
    have hs27 := Below.size e20
    replace E := E.trans e20
    replace hB4 := hB4.ext e20
    have hd31 := hB4.lt
    refine Sq.call fn22 .plain rfl rfl (sfAcc_c _ a _ _ (OwnRows.rows hn23) (Own.row ha24)) ?_
    rintro _ w29 ⟨rfl, e30⟩
    have hs32 := Below.size E
    have hs33 := Below.size e30
    replace E := E.trans e30
    replace hB4 := hB4.ext e30
    replace hn23 := hn23.ext e30
    replace ha24 := ha24.ext e30
    refine Sq.move .plain rfl rfl ?_
    refine Sq.extract .plain rfl rfl rfl ?_
    refine Sq.extract .plain rfl rfl rfl ?_
    refine Sq.assign .plain rfl rfl ?_
    refine Sq.assign .plain rfl rfl ?_
    refine Sq.nil ?_
    refine Eq.next ?_
    refine Cq.seq ?_
    refine Cq.region ?_
    refine Sq.loadAgg agg25 .plain rfl rfl hB4 rfl ?_
    have hd41 := hB4.lt
    refine Sq.call fn15 .plain rfl rfl (toA_c _ a _ _ (hnx.ext E) (hac.ext E) (hsm13 (by omega)).2) ?_
    rintro _ w35 ⟨⟨nx37, ac38, rfl, hn39, ha40⟩, e36⟩
    have hs42 := Below.size E
    have hs43 := Below.size e36
    replace E := E.trans e36
    replace hB4 := hB4.ext e36
    replace hn23 := hn23.ext e36
    replace ha24 := ha24.ext e36
    refine Sq.alloc zero27 .plain rfl (fun b44 w45 e46 hB47 hlo48 => ?_)
    have hd49 := Nat.le_trans (Below.size E) hlo48
    have hd50 := Nat.lt_of_lt_of_le hB4.lt hlo48
    have hs51 := Below.size e46
    replace E := E.trans e46
    replace hB4 := hB4.ext e46
    replace hn23 := hn23.ext e46
    replace ha24 := ha24.ext e46
    replace hn39 := hn39.ext e46
    replace ha40 := ha40.ext e46
    refine Sq.storeAgg agg27 .plain rfl rfl (one_cons rfl (one_cons (Rows.one (OwnRows.rows hn39)) (one_cons (Row.one (Own.row ha40)) one_nil))) hB47 rfl rfl (fun w52 g53 hB54 => ?_)
    have hs55 := World.grownBy.size g53
    replace E := E.grown g53 (fun k hk => by injection hk with hk; subst hk; omega)
    replace hB4 := hB4.grown g53 (by intro h; injection h with h; omega)
    replace hn23 := hn23.stored g53 hB47 (by decide) (by decide)
    replace ha24 := ha24.stored g53 hB47 (by decide)
    replace hn39 := hn39.stored g53 hB47 (by decide) (by decide)
    replace ha40 := ha40.stored g53 hB47 (by decide)
    replace hB47 := hB54
    refine Sq.nil ?_
    refine Eq.next ?_
    refine Cq.seq ?_
    refine Cq.region ?_
    refine Sq.loadAgg agg27 .plain rfl rfl hB47 rfl ?_
    have hd59 := hB4.lt
    have hd60 := hB47.lt
    refine Sq.call fn23 .plain rfl rfl (fAcc_c _ a _ _ (OwnRows.rows hn39) (Own.row ha40)) ?_
    rintro _ w57 ⟨rfl, e58⟩
    have hs61 := Below.size E
    have hs62 := Below.size e58
    replace E := E.trans e58
    replace hB4 := hB4.ext e58
    replace hn23 := hn23.ext e58
    replace ha24 := ha24.ext e58
    replace hn39 := hn39.ext e58
    replace ha40 := ha40.ext e58
    replace hB47 := hB47.ext e58
    refine Sq.move .plain rfl rfl ?_
    refine Sq.extract .plain rfl rfl rfl ?_
    refine Sq.extract .plain rfl rfl rfl ?_
    refine Sq.assign .plain rfl rfl ?_
    refine Sq.assign .plain rfl rfl ?_
    refine Sq.nil ?_
    refine Eq.next ?_
    refine Cq.seq ?_
    refine Cq.seq ?_
    refine Cq.region ?_
    refine Sq.move .plain rfl rfl ?_
    refine Sq.move .plain rfl rfl ?_
    refine Sq.neqS .plain rfl rfl rfl ?_
    refine Sq.isF (fun h => h rfl) ?_
    refine Sq.move .plain rfl rfl ?_
    refine Sq.move (.met rfl rfl rfl) rfl rfl ?_
    refine Sq.move (.met rfl rfl rfl) rfl rfl ?_
    refine Sq.neqB und4 (.met rfl rfl rfl) rfl rfl rfl ?_
    refine Sq.beF (by simp) ?_
    refine Sq.pickF .plain rfl rfl rfl ?_
    refine Sq.nil ?_
    refine Eq.next ?_
    refine Cq.els rfl ?_
    refine Cq.skip ?_
    refine Eq.next ?_
    refine Cq.seq ?_
    refine Cq.seq ?_
    refine Cq.draw 5 none mixed (fun w63 e64 => ?_)
    have hs65 := Below.size e64
    replace E := E.trans e64
    replace hB4 := hB4.ext e64
    replace hn23 := hn23.ext e64
    replace ha24 := ha24.ext e64
    replace hn39 := hn39.ext e64
    replace ha40 := ha40.ext e64
    replace hB47 := hB47.ext e64
    have E_w63 := E
    have hB4_w63 := hB4
    have hn23_w63 := hn23
    have ha24_w63 := ha24
    have hn39_w63 := hn39
    have ha40_w63 := ha40
    have hB47_w63 := hB47
    refine Gq.st 0 rfl (by kernel_rfl) rfl .plain rfl (fun _ _ _ h => h) (World.grownBy.refl w63 _) (fun w' x => Still.loadAgg agg27 rfl (hB47_w63.ext (Ext.of_grown x)) rfl) ?_
    refine Gq.st 1 rfl (by kernel_rfl) rfl .plain rfl (fun _ _ _ h => h) (World.grownBy.refl w63 _) (fun w' x => Still.loadAgg agg25 rfl (hB4_w63.ext (Ext.of_grown x)) rfl) ?_
    refine Gq.one 2 rfl (by kernel_rfl) ?_
    have hd73 := hB4.lt
    have hd74 := hB47.lt
    refine Sq.call fn15 .plain rfl rfl (toA_c _ a _ _ (hnx.ext E) (hac.ext E) (hsm13 (by omega)).2) ?_
    rintro _ w67 ⟨⟨nx69, ac70, rfl, hn71, ha72⟩, e68⟩
    have hs75 := Below.size E
    have hs76 := Below.size e68
    replace E := E.trans e68
    replace hB4 := hB4.ext e68
    replace hn23 := hn23.ext e68
    replace ha24 := ha24.ext e68
    replace hn39 := hn39.ext e68
    replace ha40 := ha40.ext e68
    replace hB47 := hB47.ext e68
    refine Sq.nil ?_
    refine Eq.goes (fun _ => (grown_trans (World.grownBy.refl w63 _) (Ext.to_grown e68 _))) ?_
    refine Gq.one 3 rfl (by kernel_rfl) ?_
    have hd80 := hB4.lt
    have hd81 := hB47.lt
    refine Sq.call fn17 .plain rfl rfl (eqAut_c _ a a _ _ _ _ (OwnRows.rows hn39) (Own.row ha40) (OwnRows.rows hn71) (Own.row ha72) ((hsm13 (by omega)).2)) ?_
    rintro _ w78 ⟨rfl, e79⟩
    have hs82 := Below.size E
    have hs83 := Below.size e79
    replace E := E.trans e79
    replace hB4 := hB4.ext e79
    replace hn23 := hn23.ext e79
    replace ha24 := ha24.ext e79
    replace hn39 := hn39.ext e79
    replace ha40 := ha40.ext e79
    replace hB47 := hB47.ext e79
    replace hn71 := hn71.ext e79
    replace ha72 := ha72.ext e79
    refine Sq.beT (eqA_refl _) ?_
    refine Sq.nil ?_
    refine Eq.goes (fun _ => (grown_trans (grown_trans (World.grownBy.refl w63 _) (Ext.to_grown e68 _)) (Ext.to_grown e79 _))) ?_
    refine Gq.st 4 rfl (by kernel_rfl) rfl .plain rfl (fun _ _ _ h => h) (grown_trans (grown_trans (World.grownBy.refl w63 _) (Ext.to_grown e68 _)) (Ext.to_grown e79 _)) (fun w' x => Still.notT rfl) ?_
    refine Gq.done (by kernel_rfl) ?_
    refine Eq.next ?_
    refine Cq.els rfl ?_
    refine Cq.skip ?_
    refine Eq.next ?_
    refine Cq.seq ?_
    refine Cq.region ?_
    refine Sq.assign .plain rfl rfl ?_
    refine Sq.nil ?_
    refine Eq.next ?_
    refine Cq.ret ?_
    refine Eq.ret1 rfl rfl ?_
    exact ⟨rfl, E⟩

set_option maxRecDepth 100000 in
theorem lExAccessWord (w0 : World) (a : A) (nx ac : Value) (hnx : RowsX w0 nx a.next) (hac : BoolsX w0 ac a.acc) (s0 : Int) : Ret Try.prog 6 #[Value.agg #[Value.int .i64 a.al, nx, ac], Value.int .i64 s0] w0 (fun v w => v = .bool true ∧ Ext w0 w) := by
  have E := Ext.refl w0
  refine Ret.of (args := [Value.agg #[Value.int .i64 a.al, nx, ac], Value.int .i64 s0]) Try.func6 rfl rfl rfl ?_
  rintro _ rfl
  show Cq _ _ _ _ [(0, Value.agg #[Value.int .i64 a.al, nx, ac]), (1, Value.int .i64 s0)] _
  refine Cq.seq ?_
  refine Cq.region ?_
  refine Sq.box .plain rfl rfl (fun b1 w2 e3 hB4 hlo5 => ?_)
  have hd6 := Nat.le_trans (Below.size E) hlo5
  have hs7 := Below.size e3
  replace E := E.trans e3
  refine Sq.assign .plain rfl rfl ?_
  refine Sq.nil ?_
  refine Eq.next ?_
  refine Cq.seq ?_
  refine Cq.region ?_
  refine Sq.assign .plain rfl rfl ?_
  refine Sq.nil ?_
  refine Eq.next ?_
  refine Cq.seq ?_
  refine Cq.region ?_
  refine Sq.loadAgg agg25 .plain rfl rfl hB4 rfl ?_
  refine Sq.move .plain rfl rfl ?_
  have hd14 := hB4.lt
  refine Sq.call fn13 .plain rfl rfl (szA_c _ a _ _ (hnx.ext E) (hac.ext E) 1048576 (by omega)) ?_
  rintro _ w9 ⟨⟨z11, rfl, hz12, hsm13⟩, e10⟩
  have hs15 := Below.size E
  have hs16 := Below.size e10
  replace E := E.trans e10
  replace hB4 := hB4.ext e10
  refine Sq.assign .plain rfl rfl ?_
  refine Sq.nil ?_
  refine Eq.next ?_
  refine Cq.seq ?_
  refine Cq.seq ?_
  refine Cq.region ?_
  refine Sq.move .plain rfl rfl ?_
  refine Sq.lss .plain rfl rfl rfl ?_
  refine Sq.part (fun c17 => ?_) (fun c17 => ?_)
  · refine Sq.nil ?_
    refine Eq.next ?_
    refine Cq.thn rfl ?_
    refine Cq.seq ?_
    refine Cq.region ?_
    refine Sq.assign .plain rfl rfl ?_
    refine Sq.nil ?_
    refine Eq.next ?_
    refine Cq.ret ?_
    refine Eq.pastRet ?_
    refine Eq.ret1 rfl rfl ?_
    exact ⟨rfl, E⟩
  · refine Sq.nil ?_
    refine Eq.next ?_
    refine Cq.els rfl ?_
    refine Cq.skip ?_
    refine Eq.next ?_
    refine Cq.seq ?_
    refine Cq.region ?_
    refine Sq.loadAgg agg25 .plain rfl rfl hB4 rfl ?_
    have hd25 := hB4.lt
    refine Sq.call fn15 .plain rfl rfl (toA_c _ a _ _ (hnx.ext E) (hac.ext E) (hsm13 (by omega)).2) ?_
    rintro _ w19 ⟨⟨nx21, ac22, rfl, hn23, ha24⟩, e20⟩
    have hs26 := Below.size E
    have hs27 := Below.size e20
    replace E := E.trans e20
    replace hB4 := hB4.ext e20
    refine Sq.move .plain rfl rfl ?_
    have hd31 := hB4.lt
    refine Sq.call fn24 .plain rfl rfl (sfAt_c _ a _ _ (OwnRows.rows hn23) (Own.row ha24) s0) ?_
    rintro _ w29 ⟨rfl, e30⟩
    have hs32 := Below.size E
    have hs33 := Below.size e30
    replace E := E.trans e30
    replace hB4 := hB4.ext e30
    replace hn23 := hn23.ext e30
    replace ha24 := ha24.ext e30
    refine Sq.move .plain rfl rfl ?_
    refine Sq.extract .plain rfl rfl rfl ?_
    refine Sq.extract .plain rfl rfl rfl ?_
    refine Sq.assign .plain rfl rfl ?_
    refine Sq.assign .plain rfl rfl ?_
    refine Sq.nil ?_
    refine Eq.next ?_
    refine Cq.seq ?_
    refine Cq.region ?_
    refine Sq.loadAgg agg25 .plain rfl rfl hB4 rfl ?_
    have hd41 := hB4.lt
    refine Sq.call fn15 .plain rfl rfl (toA_c _ a _ _ (hnx.ext E) (hac.ext E) (hsm13 (by omega)).2) ?_
    rintro _ w35 ⟨⟨nx37, ac38, rfl, hn39, ha40⟩, e36⟩
    have hs42 := Below.size E
    have hs43 := Below.size e36
    replace E := E.trans e36
    replace hB4 := hB4.ext e36
    replace hn23 := hn23.ext e36
    replace ha24 := ha24.ext e36
    refine Sq.alloc zero27 .plain rfl (fun b44 w45 e46 hB47 hlo48 => ?_)
    have hd49 := Nat.le_trans (Below.size E) hlo48
    have hd50 := Nat.lt_of_lt_of_le hB4.lt hlo48
    have hs51 := Below.size e46
    replace E := E.trans e46
    replace hB4 := hB4.ext e46
    replace hn23 := hn23.ext e46
    replace ha24 := ha24.ext e46
    replace hn39 := hn39.ext e46
    replace ha40 := ha40.ext e46
    refine Sq.storeAgg agg27 .plain rfl rfl (one_cons rfl (one_cons (Rows.one (OwnRows.rows hn39)) (one_cons (Row.one (Own.row ha40)) one_nil))) hB47 rfl rfl (fun w52 g53 hB54 => ?_)
    have hs55 := World.grownBy.size g53
    replace E := E.grown g53 (fun k hk => by injection hk with hk; subst hk; omega)
    replace hB4 := hB4.grown g53 (by intro h; injection h with h; omega)
    replace hn23 := hn23.stored g53 hB47 (by decide) (by decide)
    replace ha24 := ha24.stored g53 hB47 (by decide)
    replace hn39 := hn39.stored g53 hB47 (by decide) (by decide)
    replace ha40 := ha40.stored g53 hB47 (by decide)
    replace hB47 := hB54
    refine Sq.nil ?_
    refine Eq.next ?_
    refine Cq.seq ?_
    refine Cq.region ?_
    refine Sq.loadAgg agg27 .plain rfl rfl hB47 rfl ?_
    refine Sq.move .plain rfl rfl ?_
    have hd59 := hB4.lt
    have hd60 := hB47.lt
    refine Sq.call fn25 .plain rfl rfl (fAt_c _ a _ _ (OwnRows.rows hn39) (Own.row ha40) s0) ?_
    rintro _ w57 ⟨rfl, e58⟩
    have hs61 := Below.size E
    have hs62 := Below.size e58
    replace E := E.trans e58
    replace hB4 := hB4.ext e58
    replace hn23 := hn23.ext e58
    replace ha24 := ha24.ext e58
    replace hn39 := hn39.ext e58
    replace ha40 := ha40.ext e58
    replace hB47 := hB47.ext e58
    refine Sq.move .plain rfl rfl ?_
    refine Sq.extract .plain rfl rfl rfl ?_
    refine Sq.extract .plain rfl rfl rfl ?_
    refine Sq.assign .plain rfl rfl ?_
    refine Sq.assign .plain rfl rfl ?_
    refine Sq.nil ?_
    refine Eq.next ?_
    refine Cq.seq ?_
    refine Cq.seq ?_
    refine Cq.region ?_
    refine Sq.move .plain rfl rfl ?_
    refine Sq.move .plain rfl rfl ?_
    refine Sq.neqS .plain rfl rfl rfl ?_
    refine Sq.isF (fun h => h rfl) ?_
    refine Sq.move .plain rfl rfl ?_
    refine Sq.move (.met rfl rfl rfl) rfl rfl ?_
    refine Sq.move (.met rfl rfl rfl) rfl rfl ?_
    refine Sq.neqB und4 (.met rfl rfl rfl) rfl rfl rfl ?_
    refine Sq.beF (by simp) ?_
    refine Sq.pickF .plain rfl rfl rfl ?_
    refine Sq.nil ?_
    refine Eq.next ?_
    refine Cq.els rfl ?_
    refine Cq.skip ?_
    refine Eq.next ?_
    refine Cq.seq ?_
    refine Cq.seq ?_
    refine Cq.draw 5 none mixed (fun w63 e64 => ?_)
    have hs65 := Below.size e64
    replace E := E.trans e64
    replace hB4 := hB4.ext e64
    replace hn23 := hn23.ext e64
    replace ha24 := ha24.ext e64
    replace hn39 := hn39.ext e64
    replace ha40 := ha40.ext e64
    replace hB47 := hB47.ext e64
    have E_w63 := E
    have hB4_w63 := hB4
    have hn23_w63 := hn23
    have ha24_w63 := ha24
    have hn39_w63 := hn39
    have ha40_w63 := ha40
    have hB47_w63 := hB47
    refine Gq.st 0 rfl (by kernel_rfl) rfl .plain rfl (fun _ _ _ h => h) (World.grownBy.refl w63 _) (fun w' x => Still.loadAgg agg27 rfl (hB47_w63.ext (Ext.of_grown x)) rfl) ?_
    refine Gq.st 1 rfl (by kernel_rfl) rfl .plain rfl (fun _ _ _ h => h) (World.grownBy.refl w63 _) (fun w' x => Still.loadAgg agg25 rfl (hB4_w63.ext (Ext.of_grown x)) rfl) ?_
    refine Gq.one 2 rfl (by kernel_rfl) ?_
    have hd73 := hB4.lt
    have hd74 := hB47.lt
    refine Sq.call fn15 .plain rfl rfl (toA_c _ a _ _ (hnx.ext E) (hac.ext E) (hsm13 (by omega)).2) ?_
    rintro _ w67 ⟨⟨nx69, ac70, rfl, hn71, ha72⟩, e68⟩
    have hs75 := Below.size E
    have hs76 := Below.size e68
    replace E := E.trans e68
    replace hB4 := hB4.ext e68
    replace hn23 := hn23.ext e68
    replace ha24 := ha24.ext e68
    replace hn39 := hn39.ext e68
    replace ha40 := ha40.ext e68
    replace hB47 := hB47.ext e68
    refine Sq.nil ?_
    refine Eq.goes (fun _ => (grown_trans (World.grownBy.refl w63 _) (Ext.to_grown e68 _))) ?_
    refine Gq.one 3 rfl (by kernel_rfl) ?_
    have hd80 := hB4.lt
    have hd81 := hB47.lt
    refine Sq.call fn17 .plain rfl rfl (eqAut_c _ a a _ _ _ _ (OwnRows.rows hn39) (Own.row ha40) (OwnRows.rows hn71) (Own.row ha72) ((hsm13 (by omega)).2)) ?_
    rintro _ w78 ⟨rfl, e79⟩
    have hs82 := Below.size E
    have hs83 := Below.size e79
    replace E := E.trans e79
    replace hB4 := hB4.ext e79
    replace hn23 := hn23.ext e79
    replace ha24 := ha24.ext e79
    replace hn39 := hn39.ext e79
    replace ha40 := ha40.ext e79
    replace hB47 := hB47.ext e79
    replace hn71 := hn71.ext e79
    replace ha72 := ha72.ext e79
    refine Sq.beT (eqA_refl _) ?_
    refine Sq.nil ?_
    refine Eq.goes (fun _ => (grown_trans (grown_trans (World.grownBy.refl w63 _) (Ext.to_grown e68 _)) (Ext.to_grown e79 _))) ?_
    refine Gq.st 4 rfl (by kernel_rfl) rfl .plain rfl (fun _ _ _ h => h) (grown_trans (grown_trans (World.grownBy.refl w63 _) (Ext.to_grown e68 _)) (Ext.to_grown e79 _)) (fun w' x => Still.notT rfl) ?_
    refine Gq.done (by kernel_rfl) ?_
    refine Eq.next ?_
    refine Cq.els rfl ?_
    refine Cq.skip ?_
    refine Eq.next ?_
    refine Cq.seq ?_
    refine Cq.region ?_
    refine Sq.assign .plain rfl rfl ?_
    refine Sq.nil ?_
    refine Eq.next ?_
    refine Cq.ret ?_
    refine Eq.ret1 rfl rfl ?_
    exact ⟨rfl, E⟩

set_option maxRecDepth 100000 in
theorem lExSplitStates (w0 : World) (a : A) (nx ac : Value) (hnx : RowsX w0 nx a.next) (hac : BoolsX w0 ac a.acc) (i : Int) (j : Int) : Ret Try.prog 7 #[Value.agg #[Value.int .i64 a.al, nx, ac], Value.int .i64 i, Value.int .i64 j] w0 (fun v w => v = .bool true ∧ Ext w0 w) := by
  have E := Ext.refl w0
  refine Ret.of (args := [Value.agg #[Value.int .i64 a.al, nx, ac], Value.int .i64 i, Value.int .i64 j]) Try.func7 rfl rfl rfl ?_
  rintro _ rfl
  show Cq _ _ _ _ [(0, Value.agg #[Value.int .i64 a.al, nx, ac]), (1, Value.int .i64 i), (2, Value.int .i64 j)] _
  refine Cq.seq ?_
  refine Cq.region ?_
  refine Sq.box .plain rfl rfl (fun b1 w2 e3 hB4 hlo5 => ?_)
  have hd6 := Nat.le_trans (Below.size E) hlo5
  have hs7 := Below.size e3
  replace E := E.trans e3
  refine Sq.assign .plain rfl rfl ?_
  refine Sq.nil ?_
  refine Eq.next ?_
  refine Cq.seq ?_
  refine Cq.region ?_
  refine Sq.assign .plain rfl rfl ?_
  refine Sq.nil ?_
  refine Eq.next ?_
  refine Cq.seq ?_
  refine Cq.region ?_
  refine Sq.loadAgg agg25 .plain rfl rfl hB4 rfl ?_
  refine Sq.move .plain rfl rfl ?_
  have hd14 := hB4.lt
  refine Sq.call fn13 .plain rfl rfl (szA_c _ a _ _ (hnx.ext E) (hac.ext E) 1048576 (by omega)) ?_
  rintro _ w9 ⟨⟨z11, rfl, hz12, hsm13⟩, e10⟩
  have hs15 := Below.size E
  have hs16 := Below.size e10
  replace E := E.trans e10
  replace hB4 := hB4.ext e10
  refine Sq.assign .plain rfl rfl ?_
  refine Sq.nil ?_
  refine Eq.next ?_
  refine Cq.seq ?_
  refine Cq.seq ?_
  refine Cq.region ?_
  refine Sq.move .plain rfl rfl ?_
  refine Sq.lss .plain rfl rfl rfl ?_
  refine Sq.part (fun c17 => ?_) (fun c17 => ?_)
  · refine Sq.nil ?_
    refine Eq.next ?_
    refine Cq.thn rfl ?_
    refine Cq.seq ?_
    refine Cq.region ?_
    refine Sq.assign .plain rfl rfl ?_
    refine Sq.nil ?_
    refine Eq.next ?_
    refine Cq.ret ?_
    refine Eq.pastRet ?_
    refine Eq.ret1 rfl rfl ?_
    exact ⟨rfl, E⟩
  · refine Sq.nil ?_
    refine Eq.next ?_
    refine Cq.els rfl ?_
    refine Cq.skip ?_
    refine Eq.next ?_
    refine Cq.seq ?_
    refine Cq.region ?_
    refine Sq.loadAgg agg25 .plain rfl rfl hB4 rfl ?_
    have hd25 := hB4.lt
    refine Sq.call fn15 .plain rfl rfl (toA_c _ a _ _ (hnx.ext E) (hac.ext E) (hsm13 (by omega)).2) ?_
    rintro _ w19 ⟨⟨nx21, ac22, rfl, hn23, ha24⟩, e20⟩
    have hs26 := Below.size E
    have hs27 := Below.size e20
    replace E := E.trans e20
    replace hB4 := hB4.ext e20
    refine Sq.move .plain rfl rfl ?_
    refine Sq.move .plain rfl rfl ?_
    have hd31 := hB4.lt
    refine Sq.call fn26 .plain rfl rfl (sfSplit_c _ a _ _ (OwnRows.rows hn23) (Own.row ha24) i j) ?_
    rintro _ w29 ⟨rfl, e30⟩
    have hs32 := Below.size E
    have hs33 := Below.size e30
    replace E := E.trans e30
    replace hB4 := hB4.ext e30
    replace hn23 := hn23.ext e30
    replace ha24 := ha24.ext e30
    refine Sq.move .plain rfl rfl ?_
    refine Sq.extract .plain rfl rfl rfl ?_
    refine Sq.extract .plain rfl rfl rfl ?_
    refine Sq.assign .plain rfl rfl ?_
    refine Sq.assign .plain rfl rfl ?_
    refine Sq.nil ?_
    refine Eq.next ?_
    refine Cq.seq ?_
    refine Cq.region ?_
    refine Sq.loadAgg agg25 .plain rfl rfl hB4 rfl ?_
    have hd41 := hB4.lt
    refine Sq.call fn15 .plain rfl rfl (toA_c _ a _ _ (hnx.ext E) (hac.ext E) (hsm13 (by omega)).2) ?_
    rintro _ w35 ⟨⟨nx37, ac38, rfl, hn39, ha40⟩, e36⟩
    have hs42 := Below.size E
    have hs43 := Below.size e36
    replace E := E.trans e36
    replace hB4 := hB4.ext e36
    replace hn23 := hn23.ext e36
    replace ha24 := ha24.ext e36
    refine Sq.alloc zero27 .plain rfl (fun b44 w45 e46 hB47 hlo48 => ?_)
    have hd49 := Nat.le_trans (Below.size E) hlo48
    have hd50 := Nat.lt_of_lt_of_le hB4.lt hlo48
    have hs51 := Below.size e46
    replace E := E.trans e46
    replace hB4 := hB4.ext e46
    replace hn23 := hn23.ext e46
    replace ha24 := ha24.ext e46
    replace hn39 := hn39.ext e46
    replace ha40 := ha40.ext e46
    refine Sq.storeAgg agg27 .plain rfl rfl (one_cons rfl (one_cons (Rows.one (OwnRows.rows hn39)) (one_cons (Row.one (Own.row ha40)) one_nil))) hB47 rfl rfl (fun w52 g53 hB54 => ?_)
    have hs55 := World.grownBy.size g53
    replace E := E.grown g53 (fun k hk => by injection hk with hk; subst hk; omega)
    replace hB4 := hB4.grown g53 (by intro h; injection h with h; omega)
    replace hn23 := hn23.stored g53 hB47 (by decide) (by decide)
    replace ha24 := ha24.stored g53 hB47 (by decide)
    replace hn39 := hn39.stored g53 hB47 (by decide) (by decide)
    replace ha40 := ha40.stored g53 hB47 (by decide)
    replace hB47 := hB54
    refine Sq.nil ?_
    refine Eq.next ?_
    refine Cq.seq ?_
    refine Cq.region ?_
    refine Sq.loadAgg agg27 .plain rfl rfl hB47 rfl ?_
    refine Sq.move .plain rfl rfl ?_
    refine Sq.move .plain rfl rfl ?_
    have hd59 := hB4.lt
    have hd60 := hB47.lt
    refine Sq.call fn27 .plain rfl rfl (fSplit_c _ a _ _ (OwnRows.rows hn39) (Own.row ha40) i j) ?_
    rintro _ w57 ⟨rfl, e58⟩
    have hs61 := Below.size E
    have hs62 := Below.size e58
    replace E := E.trans e58
    replace hB4 := hB4.ext e58
    replace hn23 := hn23.ext e58
    replace ha24 := ha24.ext e58
    replace hn39 := hn39.ext e58
    replace ha40 := ha40.ext e58
    replace hB47 := hB47.ext e58
    refine Sq.move .plain rfl rfl ?_
    refine Sq.extract .plain rfl rfl rfl ?_
    refine Sq.extract .plain rfl rfl rfl ?_
    refine Sq.assign .plain rfl rfl ?_
    refine Sq.assign .plain rfl rfl ?_
    refine Sq.nil ?_
    refine Eq.next ?_
    refine Cq.seq ?_
    refine Cq.seq ?_
    refine Cq.region ?_
    refine Sq.move .plain rfl rfl ?_
    refine Sq.move .plain rfl rfl ?_
    refine Sq.neqS .plain rfl rfl rfl ?_
    refine Sq.isF (fun h => h rfl) ?_
    refine Sq.move .plain rfl rfl ?_
    refine Sq.move (.met rfl rfl rfl) rfl rfl ?_
    refine Sq.move (.met rfl rfl rfl) rfl rfl ?_
    refine Sq.neqB und4 (.met rfl rfl rfl) rfl rfl rfl ?_
    refine Sq.beF (by simp) ?_
    refine Sq.pickF .plain rfl rfl rfl ?_
    refine Sq.nil ?_
    refine Eq.next ?_
    refine Cq.els rfl ?_
    refine Cq.skip ?_
    refine Eq.next ?_
    refine Cq.seq ?_
    refine Cq.seq ?_
    refine Cq.draw 5 none mixed (fun w63 e64 => ?_)
    have hs65 := Below.size e64
    replace E := E.trans e64
    replace hB4 := hB4.ext e64
    replace hn23 := hn23.ext e64
    replace ha24 := ha24.ext e64
    replace hn39 := hn39.ext e64
    replace ha40 := ha40.ext e64
    replace hB47 := hB47.ext e64
    have E_w63 := E
    have hB4_w63 := hB4
    have hn23_w63 := hn23
    have ha24_w63 := ha24
    have hn39_w63 := hn39
    have ha40_w63 := ha40
    have hB47_w63 := hB47
    refine Gq.st 0 rfl (by kernel_rfl) rfl .plain rfl (fun _ _ _ h => h) (World.grownBy.refl w63 _) (fun w' x => Still.loadAgg agg27 rfl (hB47_w63.ext (Ext.of_grown x)) rfl) ?_
    refine Gq.st 1 rfl (by kernel_rfl) rfl .plain rfl (fun _ _ _ h => h) (World.grownBy.refl w63 _) (fun w' x => Still.loadAgg agg25 rfl (hB4_w63.ext (Ext.of_grown x)) rfl) ?_
    refine Gq.one 2 rfl (by kernel_rfl) ?_
    have hd73 := hB4.lt
    have hd74 := hB47.lt
    refine Sq.call fn15 .plain rfl rfl (toA_c _ a _ _ (hnx.ext E) (hac.ext E) (hsm13 (by omega)).2) ?_
    rintro _ w67 ⟨⟨nx69, ac70, rfl, hn71, ha72⟩, e68⟩
    have hs75 := Below.size E
    have hs76 := Below.size e68
    replace E := E.trans e68
    replace hB4 := hB4.ext e68
    replace hn23 := hn23.ext e68
    replace ha24 := ha24.ext e68
    replace hn39 := hn39.ext e68
    replace ha40 := ha40.ext e68
    replace hB47 := hB47.ext e68
    refine Sq.nil ?_
    refine Eq.goes (fun _ => (grown_trans (World.grownBy.refl w63 _) (Ext.to_grown e68 _))) ?_
    refine Gq.one 3 rfl (by kernel_rfl) ?_
    have hd80 := hB4.lt
    have hd81 := hB47.lt
    refine Sq.call fn17 .plain rfl rfl (eqAut_c _ a a _ _ _ _ (OwnRows.rows hn39) (Own.row ha40) (OwnRows.rows hn71) (Own.row ha72) ((hsm13 (by omega)).2)) ?_
    rintro _ w78 ⟨rfl, e79⟩
    have hs82 := Below.size E
    have hs83 := Below.size e79
    replace E := E.trans e79
    replace hB4 := hB4.ext e79
    replace hn23 := hn23.ext e79
    replace ha24 := ha24.ext e79
    replace hn39 := hn39.ext e79
    replace ha40 := ha40.ext e79
    replace hB47 := hB47.ext e79
    replace hn71 := hn71.ext e79
    replace ha72 := ha72.ext e79
    refine Sq.beT (eqA_refl _) ?_
    refine Sq.nil ?_
    refine Eq.goes (fun _ => (grown_trans (grown_trans (World.grownBy.refl w63 _) (Ext.to_grown e68 _)) (Ext.to_grown e79 _))) ?_
    refine Gq.st 4 rfl (by kernel_rfl) rfl .plain rfl (fun _ _ _ h => h) (grown_trans (grown_trans (World.grownBy.refl w63 _) (Ext.to_grown e68 _)) (Ext.to_grown e79 _)) (fun w' x => Still.notT rfl) ?_
    refine Gq.done (by kernel_rfl) ?_
    refine Eq.next ?_
    refine Cq.els rfl ?_
    refine Cq.skip ?_
    refine Eq.next ?_
    refine Cq.seq ?_
    refine Cq.region ?_
    refine Sq.assign .plain rfl rfl ?_
    refine Sq.nil ?_
    refine Eq.next ?_
    refine Cq.ret ?_
    refine Eq.ret1 rfl rfl ?_
    exact ⟨rfl, E⟩

set_option maxRecDepth 100000 in
theorem lExDifferOf (w0 : World) (a b : A) (nx ac nx' ac' : Value) (hnx : RowsX w0 nx a.next) (hac : BoolsX w0 ac a.acc) (hnx' : RowsX w0 nx' b.next) (hac' : BoolsX w0 ac' b.acc) : Ret Try.prog 8 #[Value.agg #[Value.int .i64 a.al, nx, ac], Value.agg #[Value.int .i64 b.al, nx', ac']] w0 (fun v w => v = .bool true ∧ Ext w0 w) := by
  have E := Ext.refl w0
  refine Ret.of (args := [Value.agg #[Value.int .i64 a.al, nx, ac], Value.agg #[Value.int .i64 b.al, nx', ac']]) Try.func8 rfl rfl rfl ?_
  rintro _ rfl
  show Cq _ _ _ _ [(0, Value.agg #[Value.int .i64 a.al, nx, ac]), (1, Value.agg #[Value.int .i64 b.al, nx', ac'])] _
  refine Cq.seq ?_
  refine Cq.region ?_
  refine Sq.box .plain rfl rfl (fun b1 w2 e3 hB4 hlo5 => ?_)
  have hd6 := Nat.le_trans (Below.size E) hlo5
  have hs7 := Below.size e3
  replace E := E.trans e3
  refine Sq.box .plain rfl rfl (fun b8 w9 e10 hB11 hlo12 => ?_)
  have hd13 := Nat.le_trans (Below.size E) hlo12
  have hd14 := Nat.lt_of_lt_of_le hB4.lt hlo12
  have hs15 := Below.size e10
  replace E := E.trans e10
  replace hB4 := hB4.ext e10
  refine Sq.assign .plain rfl rfl ?_
  refine Sq.nil ?_
  refine Eq.next ?_
  refine Cq.seq ?_
  refine Cq.region ?_
  refine Sq.assign .plain rfl rfl ?_
  refine Sq.nil ?_
  refine Eq.next ?_
  refine Cq.seq ?_
  refine Cq.region ?_
  refine Sq.loadAgg agg25 .plain rfl rfl hB4 rfl ?_
  refine Sq.move .plain rfl rfl ?_
  have hd22 := hB4.lt
  have hd23 := hB11.lt
  refine Sq.call fn13 .plain rfl rfl (szA_c _ a _ _ (hnx.ext E) (hac.ext E) 1048576 (by omega)) ?_
  rintro _ w17 ⟨⟨z19, rfl, hz20, hsm21⟩, e18⟩
  have hs24 := Below.size E
  have hs25 := Below.size e18
  replace E := E.trans e18
  replace hB4 := hB4.ext e18
  replace hB11 := hB11.ext e18
  refine Sq.assign .plain rfl rfl ?_
  refine Sq.nil ?_
  refine Eq.next ?_
  refine Cq.seq ?_
  refine Cq.seq ?_
  refine Cq.region ?_
  refine Sq.move .plain rfl rfl ?_
  refine Sq.lss .plain rfl rfl rfl ?_
  refine Sq.part (fun c26 => ?_) (fun c26 => ?_)
  · refine Sq.nil ?_
    refine Eq.next ?_
    refine Cq.thn rfl ?_
    refine Cq.seq ?_
    refine Cq.region ?_
    refine Sq.assign .plain rfl rfl ?_
    refine Sq.nil ?_
    refine Eq.next ?_
    refine Cq.ret ?_
    refine Eq.pastRet ?_
    refine Eq.ret1 rfl rfl ?_
    exact ⟨rfl, E⟩
  · refine Sq.nil ?_
    refine Eq.next ?_
    refine Cq.els rfl ?_
    refine Cq.skip ?_
    refine Eq.next ?_
    refine Cq.seq ?_
    refine Cq.region ?_
    refine Sq.loadAgg agg25 .plain rfl rfl hB11 rfl ?_
    refine Sq.move .plain rfl rfl ?_
    have hd33 := hB4.lt
    have hd34 := hB11.lt
    refine Sq.call fn13 .plain rfl rfl (szA_c _ b _ _ (hnx'.ext E) (hac'.ext E) z19 (by omega)) ?_
    rintro _ w28 ⟨⟨z30, rfl, hz31, hsm32⟩, e29⟩
    have hs35 := Below.size E
    have hs36 := Below.size e29
    replace E := E.trans e29
    replace hB4 := hB4.ext e29
    replace hB11 := hB11.ext e29
    refine Sq.assign .plain rfl rfl ?_
    refine Sq.nil ?_
    refine Eq.next ?_
    refine Cq.seq ?_
    refine Cq.seq ?_
    refine Cq.region ?_
    refine Sq.move .plain rfl rfl ?_
    refine Sq.lss .plain rfl rfl rfl ?_
    refine Sq.part (fun c37 => ?_) (fun c37 => ?_)
    · refine Sq.nil ?_
      refine Eq.next ?_
      refine Cq.thn rfl ?_
      refine Cq.seq ?_
      refine Cq.region ?_
      refine Sq.assign .plain rfl rfl ?_
      refine Sq.nil ?_
      refine Eq.next ?_
      refine Cq.ret ?_
      refine Eq.pastRet ?_
      refine Eq.ret1 rfl rfl ?_
      exact ⟨rfl, E⟩
    · refine Sq.nil ?_
      refine Eq.next ?_
      refine Cq.els rfl ?_
      refine Cq.skip ?_
      refine Eq.next ?_
      refine Cq.seq ?_
      refine Cq.draw 9 none mixed (fun w38 e39 => ?_)
      have hs40 := Below.size e39
      replace E := E.trans e39
      replace hB4 := hB4.ext e39
      replace hB11 := hB11.ext e39
      have E_w38 := E
      have hB4_w38 := hB4
      have hB11_w38 := hB11
      refine Gq.st 0 rfl (by kernel_rfl) rfl .plain rfl (fun _ _ _ h => h) (World.grownBy.refl w38 _) (fun w' x => Still.loadAgg agg25 rfl (hB4_w38.ext (Ext.of_grown x)) rfl) ?_
      refine Gq.st 2 rfl (by kernel_rfl) rfl .plain rfl (fun _ _ _ h => h) (World.grownBy.refl w38 _) (fun w' x => Still.loadAgg agg25 rfl (hB11_w38.ext (Ext.of_grown x)) rfl) ?_
      refine Gq.one 1 rfl (by kernel_rfl) ?_
      have hd48 := hB4.lt
      have hd49 := hB11.lt
      refine Sq.call fn15 .plain rfl rfl (toA_c _ a _ _ (hnx.ext E) (hac.ext E) (hsm21 (by omega)).2) ?_
      rintro _ w42 ⟨⟨nx44, ac45, rfl, hn46, ha47⟩, e43⟩
      have hs50 := Below.size E
      have hs51 := Below.size e43
      replace E := E.trans e43
      replace hB4 := hB4.ext e43
      replace hB11 := hB11.ext e43
      refine Sq.nil ?_
      refine Eq.goes (fun _ => (grown_trans (World.grownBy.refl w38 _) (Ext.to_grown e43 _))) ?_
      refine Gq.one 3 rfl (by kernel_rfl) ?_
      have hd59 := hB4.lt
      have hd60 := hB11.lt
      refine Sq.call fn15 .plain rfl rfl (toA_c _ b _ _ (hnx'.ext E) (hac'.ext E) (hsm32 (by omega)).2) ?_
      rintro _ w53 ⟨⟨nx55, ac56, rfl, hn57, ha58⟩, e54⟩
      have hs61 := Below.size E
      have hs62 := Below.size e54
      replace E := E.trans e54
      replace hB4 := hB4.ext e54
      replace hB11 := hB11.ext e54
      replace hn46 := hn46.ext e54
      replace ha47 := ha47.ext e54
      refine Sq.nil ?_
      refine Eq.goes (fun _ => (grown_trans (grown_trans (World.grownBy.refl w38 _) (Ext.to_grown e43 _)) (Ext.to_grown e54 _))) ?_
      refine Gq.one 4 rfl (by kernel_rfl) ?_
      have hd66 := hB4.lt
      have hd67 := hB11.lt
      refine Sq.call fn28 .plain rfl rfl (sfDif_c _ a b _ _ _ _ (OwnRows.rows hn46) (Own.row ha47) (OwnRows.rows hn57) (Own.row ha58)) ?_
      rintro _ w64 ⟨rfl, e65⟩
      have hs68 := Below.size E
      have hs69 := Below.size e65
      replace E := E.trans e65
      replace hB4 := hB4.ext e65
      replace hB11 := hB11.ext e65
      replace hn46 := hn46.ext e65
      replace ha47 := ha47.ext e65
      replace hn57 := hn57.ext e65
      replace ha58 := ha58.ext e65
      refine Sq.nil ?_
      refine Eq.goes (fun _ => (grown_trans (grown_trans (grown_trans (World.grownBy.refl w38 _) (Ext.to_grown e43 _)) (Ext.to_grown e54 _)) (Ext.to_grown e65 _))) ?_
      refine Gq.st 5 rfl (by kernel_rfl) rfl .plain rfl (fun _ _ _ h => h) (grown_trans (grown_trans (grown_trans (World.grownBy.refl w38 _) (Ext.to_grown e43 _)) (Ext.to_grown e54 _)) (Ext.to_grown e65 _)) (fun w' x => Still.move rfl) ?_
      refine Gq.st 6 rfl (by kernel_rfl) rfl .plain rfl (fun _ _ _ h => h) (grown_trans (grown_trans (grown_trans (World.grownBy.refl w38 _) (Ext.to_grown e43 _)) (Ext.to_grown e54 _)) (Ext.to_grown e65 _)) (fun w' x => Still.extract rfl rfl) ?_
      refine Gq.st 7 rfl (by kernel_rfl) rfl .plain rfl (fun _ _ _ h => h) (grown_trans (grown_trans (grown_trans (World.grownBy.refl w38 _) (Ext.to_grown e43 _)) (Ext.to_grown e54 _)) (Ext.to_grown e65 _)) (fun w' x => Still.extract rfl rfl) ?_
      refine Gq.st 8 rfl (by kernel_rfl) rfl .plain rfl (fun _ _ _ h => h) (grown_trans (grown_trans (grown_trans (World.grownBy.refl w38 _) (Ext.to_grown e43 _)) (Ext.to_grown e54 _)) (Ext.to_grown e65 _)) (fun w' x => Still.assign rfl) ?_
      refine Gq.one 9 rfl (by kernel_rfl) ?_
      refine Sq.assign .plain rfl rfl ?_
      refine Sq.nil ?_
      refine Eq.goes (fun h => absurd h (by decide)) ?_
      refine Gq.done (by kernel_rfl) ?_
      refine Eq.next ?_
      refine Cq.seq ?_
      refine Cq.region ?_
      refine Sq.loadAgg agg25 .plain rfl rfl hB4 rfl ?_
      have hd77 := hB4.lt
      have hd78 := hB11.lt
      refine Sq.call fn15 .plain rfl rfl (toA_c _ a _ _ (hnx.ext E) (hac.ext E) (hsm21 (by omega)).2) ?_
      rintro _ w71 ⟨⟨nx73, ac74, rfl, hn75, ha76⟩, e72⟩
      have hs79 := Below.size E
      have hs80 := Below.size e72
      replace E := E.trans e72
      replace hB4 := hB4.ext e72
      replace hB11 := hB11.ext e72
      replace hn46 := hn46.ext e72
      replace ha47 := ha47.ext e72
      replace hn57 := hn57.ext e72
      replace ha58 := ha58.ext e72
      refine Sq.alloc zero27 .plain rfl (fun b81 w82 e83 hB84 hlo85 => ?_)
      have hd86 := Nat.le_trans (Below.size E) hlo85
      have hd87 := Nat.lt_of_lt_of_le hB4.lt hlo85
      have hd88 := Nat.lt_of_lt_of_le hB11.lt hlo85
      have hs89 := Below.size e83
      replace E := E.trans e83
      replace hB4 := hB4.ext e83
      replace hB11 := hB11.ext e83
      replace hn46 := hn46.ext e83
      replace ha47 := ha47.ext e83
      replace hn57 := hn57.ext e83
      replace ha58 := ha58.ext e83
      replace hn75 := hn75.ext e83
      replace ha76 := ha76.ext e83
      refine Sq.storeAgg agg27 .plain rfl rfl (one_cons rfl (one_cons (Rows.one (OwnRows.rows hn75)) (one_cons (Row.one (Own.row ha76)) one_nil))) hB84 rfl rfl (fun w90 g91 hB92 => ?_)
      have hs93 := World.grownBy.size g91
      replace E := E.grown g91 (fun k hk => by injection hk with hk; subst hk; omega)
      replace hB4 := hB4.grown g91 (by intro h; injection h with h; omega)
      replace hB11 := hB11.grown g91 (by intro h; injection h with h; omega)
      replace hn46 := hn46.stored g91 hB84 (by decide) (by decide)
      replace ha47 := ha47.stored g91 hB84 (by decide)
      replace hn57 := hn57.stored g91 hB84 (by decide) (by decide)
      replace ha58 := ha58.stored g91 hB84 (by decide)
      replace hn75 := hn75.stored g91 hB84 (by decide) (by decide)
      replace ha76 := ha76.stored g91 hB84 (by decide)
      replace hB84 := hB92
      refine Sq.nil ?_
      refine Eq.next ?_
      refine Cq.seq ?_
      refine Cq.region ?_
      refine Sq.loadAgg agg25 .plain rfl rfl hB11 rfl ?_
      have hd101 := hB4.lt
      have hd102 := hB11.lt
      have hd103 := hB84.lt
      refine Sq.call fn15 .plain rfl rfl (toA_c _ b _ _ (hnx'.ext E) (hac'.ext E) (hsm32 (by omega)).2) ?_
      rintro _ w95 ⟨⟨nx97, ac98, rfl, hn99, ha100⟩, e96⟩
      have hs104 := Below.size E
      have hs105 := Below.size e96
      replace E := E.trans e96
      replace hB4 := hB4.ext e96
      replace hB11 := hB11.ext e96
      replace hn46 := hn46.ext e96
      replace ha47 := ha47.ext e96
      replace hn57 := hn57.ext e96
      replace ha58 := ha58.ext e96
      replace hn75 := hn75.ext e96
      replace ha76 := ha76.ext e96
      replace hB84 := hB84.ext e96
      refine Sq.alloc zero27 .plain rfl (fun b106 w107 e108 hB109 hlo110 => ?_)
      have hd111 := Nat.le_trans (Below.size E) hlo110
      have hd112 := Nat.lt_of_lt_of_le hB4.lt hlo110
      have hd113 := Nat.lt_of_lt_of_le hB11.lt hlo110
      have hd114 := Nat.lt_of_lt_of_le hB84.lt hlo110
      have hs115 := Below.size e108
      replace E := E.trans e108
      replace hB4 := hB4.ext e108
      replace hB11 := hB11.ext e108
      replace hn46 := hn46.ext e108
      replace ha47 := ha47.ext e108
      replace hn57 := hn57.ext e108
      replace ha58 := ha58.ext e108
      replace hn75 := hn75.ext e108
      replace ha76 := ha76.ext e108
      replace hB84 := hB84.ext e108
      replace hn99 := hn99.ext e108
      replace ha100 := ha100.ext e108
      refine Sq.storeAgg agg27 .plain rfl rfl (one_cons rfl (one_cons (Rows.one (OwnRows.rows hn99)) (one_cons (Row.one (Own.row ha100)) one_nil))) hB109 rfl rfl (fun w116 g117 hB118 => ?_)
      have hs119 := World.grownBy.size g117
      replace E := E.grown g117 (fun k hk => by injection hk with hk; subst hk; omega)
      replace hB4 := hB4.grown g117 (by intro h; injection h with h; omega)
      replace hB11 := hB11.grown g117 (by intro h; injection h with h; omega)
      replace hn46 := hn46.stored g117 hB109 (by decide) (by decide)
      replace ha47 := ha47.stored g117 hB109 (by decide)
      replace hn57 := hn57.stored g117 hB109 (by decide) (by decide)
      replace ha58 := ha58.stored g117 hB109 (by decide)
      replace hn75 := hn75.stored g117 hB109 (by decide) (by decide)
      replace ha76 := ha76.stored g117 hB109 (by decide)
      replace hB84 := hB84.grown g117 (by intro h; injection h with h; omega)
      replace hn99 := hn99.stored g117 hB109 (by decide) (by decide)
      replace ha100 := ha100.stored g117 hB109 (by decide)
      replace hB109 := hB118
      refine Sq.nil ?_
      refine Eq.next ?_
      refine Cq.seq ?_
      refine Cq.region ?_
      refine Sq.loadAgg agg27 .plain rfl rfl hB84 rfl ?_
      refine Sq.loadAgg agg27 .plain rfl rfl hB109 rfl ?_
      have hd123 := hB4.lt
      have hd124 := hB11.lt
      have hd125 := hB84.lt
      have hd126 := hB109.lt
      refine Sq.call fn29 .plain rfl rfl (fDif_c _ a b _ _ _ _ (OwnRows.rows hn75) (Own.row ha76) (OwnRows.rows hn99) (Own.row ha100)) ?_
      rintro _ w121 ⟨rfl, e122⟩
      have hs127 := Below.size E
      have hs128 := Below.size e122
      replace E := E.trans e122
      replace hB4 := hB4.ext e122
      replace hB11 := hB11.ext e122
      replace hn46 := hn46.ext e122
      replace ha47 := ha47.ext e122
      replace hn57 := hn57.ext e122
      replace ha58 := ha58.ext e122
      replace hn75 := hn75.ext e122
      replace ha76 := ha76.ext e122
      replace hB84 := hB84.ext e122
      replace hn99 := hn99.ext e122
      replace ha100 := ha100.ext e122
      replace hB109 := hB109.ext e122
      refine Sq.move .plain rfl rfl ?_
      refine Sq.extract .plain rfl rfl rfl ?_
      refine Sq.extract .plain rfl rfl rfl ?_
      refine Sq.assign .plain rfl rfl ?_
      refine Sq.assign .plain rfl rfl ?_
      refine Sq.nil ?_
      refine Eq.next ?_
      refine Cq.seq ?_
      refine Cq.seq ?_
      refine Cq.region ?_
      refine Sq.move .plain rfl rfl ?_
      refine Sq.move .plain rfl rfl ?_
      refine Sq.neqS .plain rfl rfl rfl ?_
      refine Sq.isF (fun h => h rfl) ?_
      refine Sq.move .plain rfl rfl ?_
      refine Sq.move (.met rfl rfl rfl) rfl rfl ?_
      refine Sq.move (.met rfl rfl rfl) rfl rfl ?_
      refine Sq.neqB und4 (.met rfl rfl rfl) rfl rfl rfl ?_
      refine Sq.beF (by simp) ?_
      refine Sq.pickF .plain rfl rfl rfl ?_
      refine Sq.nil ?_
      refine Eq.next ?_
      refine Cq.els rfl ?_
      refine Cq.skip ?_
      refine Eq.next ?_
      refine Cq.seq ?_
      refine Cq.seq ?_
      refine Cq.draw 5 none mixed (fun w129 e130 => ?_)
      have hs131 := Below.size e130
      replace E := E.trans e130
      replace hB4 := hB4.ext e130
      replace hB11 := hB11.ext e130
      replace hn46 := hn46.ext e130
      replace ha47 := ha47.ext e130
      replace hn57 := hn57.ext e130
      replace ha58 := ha58.ext e130
      replace hn75 := hn75.ext e130
      replace ha76 := ha76.ext e130
      replace hB84 := hB84.ext e130
      replace hn99 := hn99.ext e130
      replace ha100 := ha100.ext e130
      replace hB109 := hB109.ext e130
      have E_w129 := E
      have hB4_w129 := hB4
      have hB11_w129 := hB11
      have hn46_w129 := hn46
      have ha47_w129 := ha47
      have hn57_w129 := hn57
      have ha58_w129 := ha58
      have hn75_w129 := hn75
      have ha76_w129 := ha76
      have hB84_w129 := hB84
      have hn99_w129 := hn99
      have ha100_w129 := ha100
      have hB109_w129 := hB109
      refine Gq.st 0 rfl (by kernel_rfl) rfl .plain rfl (fun _ _ _ h => h) (World.grownBy.refl w129 _) (fun w' x => Still.loadAgg agg27 rfl (hB84_w129.ext (Ext.of_grown x)) rfl) ?_
      refine Gq.st 1 rfl (by kernel_rfl) rfl .plain rfl (fun _ _ _ h => h) (World.grownBy.refl w129 _) (fun w' x => Still.loadAgg agg25 rfl (hB4_w129.ext (Ext.of_grown x)) rfl) ?_
      refine Gq.one 2 rfl (by kernel_rfl) ?_
      have hd139 := hB4.lt
      have hd140 := hB11.lt
      have hd141 := hB84.lt
      have hd142 := hB109.lt
      refine Sq.call fn15 .plain rfl rfl (toA_c _ a _ _ (hnx.ext E) (hac.ext E) (hsm21 (by omega)).2) ?_
      rintro _ w133 ⟨⟨nx135, ac136, rfl, hn137, ha138⟩, e134⟩
      have hs143 := Below.size E
      have hs144 := Below.size e134
      replace E := E.trans e134
      replace hB4 := hB4.ext e134
      replace hB11 := hB11.ext e134
      replace hn46 := hn46.ext e134
      replace ha47 := ha47.ext e134
      replace hn57 := hn57.ext e134
      replace ha58 := ha58.ext e134
      replace hn75 := hn75.ext e134
      replace ha76 := ha76.ext e134
      replace hB84 := hB84.ext e134
      replace hn99 := hn99.ext e134
      replace ha100 := ha100.ext e134
      replace hB109 := hB109.ext e134
      refine Sq.nil ?_
      refine Eq.goes (fun _ => (grown_trans (World.grownBy.refl w129 _) (Ext.to_grown e134 _))) ?_
      refine Gq.one 3 rfl (by kernel_rfl) ?_
      have hd148 := hB4.lt
      have hd149 := hB11.lt
      have hd150 := hB84.lt
      have hd151 := hB109.lt
      refine Sq.call fn17 .plain rfl rfl (eqAut_c _ a a _ _ _ _ (OwnRows.rows hn75) (Own.row ha76) (OwnRows.rows hn137) (Own.row ha138) ((hsm21 (by omega)).2)) ?_
      rintro _ w146 ⟨rfl, e147⟩
      have hs152 := Below.size E
      have hs153 := Below.size e147
      replace E := E.trans e147
      replace hB4 := hB4.ext e147
      replace hB11 := hB11.ext e147
      replace hn46 := hn46.ext e147
      replace ha47 := ha47.ext e147
      replace hn57 := hn57.ext e147
      replace ha58 := ha58.ext e147
      replace hn75 := hn75.ext e147
      replace ha76 := ha76.ext e147
      replace hB84 := hB84.ext e147
      replace hn99 := hn99.ext e147
      replace ha100 := ha100.ext e147
      replace hB109 := hB109.ext e147
      replace hn137 := hn137.ext e147
      replace ha138 := ha138.ext e147
      refine Sq.beT (eqA_refl _) ?_
      refine Sq.nil ?_
      refine Eq.goes (fun _ => (grown_trans (grown_trans (World.grownBy.refl w129 _) (Ext.to_grown e134 _)) (Ext.to_grown e147 _))) ?_
      refine Gq.st 4 rfl (by kernel_rfl) rfl .plain rfl (fun _ _ _ h => h) (grown_trans (grown_trans (World.grownBy.refl w129 _) (Ext.to_grown e134 _)) (Ext.to_grown e147 _)) (fun w' x => Still.notT rfl) ?_
      refine Gq.done (by kernel_rfl) ?_
      refine Eq.next ?_
      refine Cq.els rfl ?_
      refine Cq.skip ?_
      refine Eq.next ?_
      refine Cq.seq ?_
      refine Cq.seq ?_
      refine Cq.draw 5 none mixed (fun w154 e155 => ?_)
      have hs156 := Below.size e155
      replace E := E.trans e155
      replace hB4 := hB4.ext e155
      replace hB11 := hB11.ext e155
      replace hn46 := hn46.ext e155
      replace ha47 := ha47.ext e155
      replace hn57 := hn57.ext e155
      replace ha58 := ha58.ext e155
      replace hn75 := hn75.ext e155
      replace ha76 := ha76.ext e155
      replace hB84 := hB84.ext e155
      replace hn99 := hn99.ext e155
      replace ha100 := ha100.ext e155
      replace hB109 := hB109.ext e155
      replace hn137 := hn137.ext e155
      replace ha138 := ha138.ext e155
      have E_w154 := E
      have hB4_w154 := hB4
      have hB11_w154 := hB11
      have hn46_w154 := hn46
      have ha47_w154 := ha47
      have hn57_w154 := hn57
      have ha58_w154 := ha58
      have hn75_w154 := hn75
      have ha76_w154 := ha76
      have hB84_w154 := hB84
      have hn99_w154 := hn99
      have ha100_w154 := ha100
      have hB109_w154 := hB109
      have hn137_w154 := hn137
      have ha138_w154 := ha138
      refine Gq.st 0 rfl (by kernel_rfl) rfl .plain rfl (fun _ _ _ h => h) (World.grownBy.refl w154 _) (fun w' x => Still.loadAgg agg27 rfl (hB109_w154.ext (Ext.of_grown x)) rfl) ?_
      refine Gq.st 1 rfl (by kernel_rfl) rfl .plain rfl (fun _ _ _ h => h) (World.grownBy.refl w154 _) (fun w' x => Still.loadAgg agg25 rfl (hB11_w154.ext (Ext.of_grown x)) rfl) ?_
      refine Gq.one 2 rfl (by kernel_rfl) ?_
      have hd164 := hB4.lt
      have hd165 := hB11.lt
      have hd166 := hB84.lt
      have hd167 := hB109.lt
      refine Sq.call fn15 .plain rfl rfl (toA_c _ b _ _ (hnx'.ext E) (hac'.ext E) (hsm32 (by omega)).2) ?_
      rintro _ w158 ⟨⟨nx160, ac161, rfl, hn162, ha163⟩, e159⟩
      have hs168 := Below.size E
      have hs169 := Below.size e159
      replace E := E.trans e159
      replace hB4 := hB4.ext e159
      replace hB11 := hB11.ext e159
      replace hn46 := hn46.ext e159
      replace ha47 := ha47.ext e159
      replace hn57 := hn57.ext e159
      replace ha58 := ha58.ext e159
      replace hn75 := hn75.ext e159
      replace ha76 := ha76.ext e159
      replace hB84 := hB84.ext e159
      replace hn99 := hn99.ext e159
      replace ha100 := ha100.ext e159
      replace hB109 := hB109.ext e159
      replace hn137 := hn137.ext e159
      replace ha138 := ha138.ext e159
      refine Sq.nil ?_
      refine Eq.goes (fun _ => (grown_trans (World.grownBy.refl w154 _) (Ext.to_grown e159 _))) ?_
      refine Gq.one 3 rfl (by kernel_rfl) ?_
      have hd173 := hB4.lt
      have hd174 := hB11.lt
      have hd175 := hB84.lt
      have hd176 := hB109.lt
      refine Sq.call fn17 .plain rfl rfl (eqAut_c _ b b _ _ _ _ (OwnRows.rows hn99) (Own.row ha100) (OwnRows.rows hn162) (Own.row ha163) ((hsm32 (by omega)).2)) ?_
      rintro _ w171 ⟨rfl, e172⟩
      have hs177 := Below.size E
      have hs178 := Below.size e172
      replace E := E.trans e172
      replace hB4 := hB4.ext e172
      replace hB11 := hB11.ext e172
      replace hn46 := hn46.ext e172
      replace ha47 := ha47.ext e172
      replace hn57 := hn57.ext e172
      replace ha58 := ha58.ext e172
      replace hn75 := hn75.ext e172
      replace ha76 := ha76.ext e172
      replace hB84 := hB84.ext e172
      replace hn99 := hn99.ext e172
      replace ha100 := ha100.ext e172
      replace hB109 := hB109.ext e172
      replace hn137 := hn137.ext e172
      replace ha138 := ha138.ext e172
      replace hn162 := hn162.ext e172
      replace ha163 := ha163.ext e172
      refine Sq.beT (eqA_refl _) ?_
      refine Sq.nil ?_
      refine Eq.goes (fun _ => (grown_trans (grown_trans (World.grownBy.refl w154 _) (Ext.to_grown e159 _)) (Ext.to_grown e172 _))) ?_
      refine Gq.st 4 rfl (by kernel_rfl) rfl .plain rfl (fun _ _ _ h => h) (grown_trans (grown_trans (World.grownBy.refl w154 _) (Ext.to_grown e159 _)) (Ext.to_grown e172 _)) (fun w' x => Still.notT rfl) ?_
      refine Gq.done (by kernel_rfl) ?_
      refine Eq.next ?_
      refine Cq.els rfl ?_
      refine Cq.skip ?_
      refine Eq.next ?_
      refine Cq.seq ?_
      refine Cq.region ?_
      refine Sq.assign .plain rfl rfl ?_
      refine Sq.nil ?_
      refine Eq.next ?_
      refine Cq.ret ?_
      refine Eq.ret1 rfl rfl ?_
      exact ⟨rfl, E⟩

set_option maxRecDepth 100000 in
theorem lExFirstOutside (w0 : World) (a b : A) (nx ac nx' ac' : Value) (hnx : RowsX w0 nx a.next) (hac : BoolsX w0 ac a.acc) (hnx' : RowsX w0 nx' b.next) (hac' : BoolsX w0 ac' b.acc) : Ret Try.prog 9 #[Value.agg #[Value.int .i64 a.al, nx, ac], Value.agg #[Value.int .i64 b.al, nx', ac']] w0 (fun v w => v = .bool true ∧ Ext w0 w) := by
  have E := Ext.refl w0
  refine Ret.of (args := [Value.agg #[Value.int .i64 a.al, nx, ac], Value.agg #[Value.int .i64 b.al, nx', ac']]) Try.func9 rfl rfl rfl ?_
  rintro _ rfl
  show Cq _ _ _ _ [(0, Value.agg #[Value.int .i64 a.al, nx, ac]), (1, Value.agg #[Value.int .i64 b.al, nx', ac'])] _
  refine Cq.seq ?_
  refine Cq.region ?_
  refine Sq.box .plain rfl rfl (fun b1 w2 e3 hB4 hlo5 => ?_)
  have hd6 := Nat.le_trans (Below.size E) hlo5
  have hs7 := Below.size e3
  replace E := E.trans e3
  refine Sq.box .plain rfl rfl (fun b8 w9 e10 hB11 hlo12 => ?_)
  have hd13 := Nat.le_trans (Below.size E) hlo12
  have hd14 := Nat.lt_of_lt_of_le hB4.lt hlo12
  have hs15 := Below.size e10
  replace E := E.trans e10
  replace hB4 := hB4.ext e10
  refine Sq.assign .plain rfl rfl ?_
  refine Sq.nil ?_
  refine Eq.next ?_
  refine Cq.seq ?_
  refine Cq.region ?_
  refine Sq.assign .plain rfl rfl ?_
  refine Sq.nil ?_
  refine Eq.next ?_
  refine Cq.seq ?_
  refine Cq.region ?_
  refine Sq.loadAgg agg25 .plain rfl rfl hB4 rfl ?_
  refine Sq.move .plain rfl rfl ?_
  have hd22 := hB4.lt
  have hd23 := hB11.lt
  refine Sq.call fn13 .plain rfl rfl (szA_c _ a _ _ (hnx.ext E) (hac.ext E) 1048576 (by omega)) ?_
  rintro _ w17 ⟨⟨z19, rfl, hz20, hsm21⟩, e18⟩
  have hs24 := Below.size E
  have hs25 := Below.size e18
  replace E := E.trans e18
  replace hB4 := hB4.ext e18
  replace hB11 := hB11.ext e18
  refine Sq.assign .plain rfl rfl ?_
  refine Sq.nil ?_
  refine Eq.next ?_
  refine Cq.seq ?_
  refine Cq.seq ?_
  refine Cq.region ?_
  refine Sq.move .plain rfl rfl ?_
  refine Sq.lss .plain rfl rfl rfl ?_
  refine Sq.part (fun c26 => ?_) (fun c26 => ?_)
  · refine Sq.nil ?_
    refine Eq.next ?_
    refine Cq.thn rfl ?_
    refine Cq.seq ?_
    refine Cq.region ?_
    refine Sq.assign .plain rfl rfl ?_
    refine Sq.nil ?_
    refine Eq.next ?_
    refine Cq.ret ?_
    refine Eq.pastRet ?_
    refine Eq.ret1 rfl rfl ?_
    exact ⟨rfl, E⟩
  · refine Sq.nil ?_
    refine Eq.next ?_
    refine Cq.els rfl ?_
    refine Cq.skip ?_
    refine Eq.next ?_
    refine Cq.seq ?_
    refine Cq.region ?_
    refine Sq.loadAgg agg25 .plain rfl rfl hB11 rfl ?_
    refine Sq.move .plain rfl rfl ?_
    have hd33 := hB4.lt
    have hd34 := hB11.lt
    refine Sq.call fn13 .plain rfl rfl (szA_c _ b _ _ (hnx'.ext E) (hac'.ext E) z19 (by omega)) ?_
    rintro _ w28 ⟨⟨z30, rfl, hz31, hsm32⟩, e29⟩
    have hs35 := Below.size E
    have hs36 := Below.size e29
    replace E := E.trans e29
    replace hB4 := hB4.ext e29
    replace hB11 := hB11.ext e29
    refine Sq.assign .plain rfl rfl ?_
    refine Sq.nil ?_
    refine Eq.next ?_
    refine Cq.seq ?_
    refine Cq.seq ?_
    refine Cq.region ?_
    refine Sq.move .plain rfl rfl ?_
    refine Sq.lss .plain rfl rfl rfl ?_
    refine Sq.part (fun c37 => ?_) (fun c37 => ?_)
    · refine Sq.nil ?_
      refine Eq.next ?_
      refine Cq.thn rfl ?_
      refine Cq.seq ?_
      refine Cq.region ?_
      refine Sq.assign .plain rfl rfl ?_
      refine Sq.nil ?_
      refine Eq.next ?_
      refine Cq.ret ?_
      refine Eq.pastRet ?_
      refine Eq.ret1 rfl rfl ?_
      exact ⟨rfl, E⟩
    · refine Sq.nil ?_
      refine Eq.next ?_
      refine Cq.els rfl ?_
      refine Cq.skip ?_
      refine Eq.next ?_
      refine Cq.seq ?_
      refine Cq.draw 9 none mixed (fun w38 e39 => ?_)
      have hs40 := Below.size e39
      replace E := E.trans e39
      replace hB4 := hB4.ext e39
      replace hB11 := hB11.ext e39
      have E_w38 := E
      have hB4_w38 := hB4
      have hB11_w38 := hB11
      refine Gq.st 0 rfl (by kernel_rfl) rfl .plain rfl (fun _ _ _ h => h) (World.grownBy.refl w38 _) (fun w' x => Still.loadAgg agg25 rfl (hB4_w38.ext (Ext.of_grown x)) rfl) ?_
      refine Gq.st 2 rfl (by kernel_rfl) rfl .plain rfl (fun _ _ _ h => h) (World.grownBy.refl w38 _) (fun w' x => Still.loadAgg agg25 rfl (hB11_w38.ext (Ext.of_grown x)) rfl) ?_
      refine Gq.one 1 rfl (by kernel_rfl) ?_
      have hd48 := hB4.lt
      have hd49 := hB11.lt
      refine Sq.call fn15 .plain rfl rfl (toA_c _ a _ _ (hnx.ext E) (hac.ext E) (hsm21 (by omega)).2) ?_
      rintro _ w42 ⟨⟨nx44, ac45, rfl, hn46, ha47⟩, e43⟩
      have hs50 := Below.size E
      have hs51 := Below.size e43
      replace E := E.trans e43
      replace hB4 := hB4.ext e43
      replace hB11 := hB11.ext e43
      refine Sq.nil ?_
      refine Eq.goes (fun _ => (grown_trans (World.grownBy.refl w38 _) (Ext.to_grown e43 _))) ?_
      refine Gq.one 3 rfl (by kernel_rfl) ?_
      have hd59 := hB4.lt
      have hd60 := hB11.lt
      refine Sq.call fn15 .plain rfl rfl (toA_c _ b _ _ (hnx'.ext E) (hac'.ext E) (hsm32 (by omega)).2) ?_
      rintro _ w53 ⟨⟨nx55, ac56, rfl, hn57, ha58⟩, e54⟩
      have hs61 := Below.size E
      have hs62 := Below.size e54
      replace E := E.trans e54
      replace hB4 := hB4.ext e54
      replace hB11 := hB11.ext e54
      replace hn46 := hn46.ext e54
      replace ha47 := ha47.ext e54
      refine Sq.nil ?_
      refine Eq.goes (fun _ => (grown_trans (grown_trans (World.grownBy.refl w38 _) (Ext.to_grown e43 _)) (Ext.to_grown e54 _))) ?_
      refine Gq.one 4 rfl (by kernel_rfl) ?_
      have hd66 := hB4.lt
      have hd67 := hB11.lt
      refine Sq.call fn30 .plain rfl rfl (sfOut_c _ a b _ _ _ _ (OwnRows.rows hn46) (Own.row ha47) (OwnRows.rows hn57) (Own.row ha58)) ?_
      rintro _ w64 ⟨rfl, e65⟩
      have hs68 := Below.size E
      have hs69 := Below.size e65
      replace E := E.trans e65
      replace hB4 := hB4.ext e65
      replace hB11 := hB11.ext e65
      replace hn46 := hn46.ext e65
      replace ha47 := ha47.ext e65
      replace hn57 := hn57.ext e65
      replace ha58 := ha58.ext e65
      refine Sq.nil ?_
      refine Eq.goes (fun _ => (grown_trans (grown_trans (grown_trans (World.grownBy.refl w38 _) (Ext.to_grown e43 _)) (Ext.to_grown e54 _)) (Ext.to_grown e65 _))) ?_
      refine Gq.st 5 rfl (by kernel_rfl) rfl .plain rfl (fun _ _ _ h => h) (grown_trans (grown_trans (grown_trans (World.grownBy.refl w38 _) (Ext.to_grown e43 _)) (Ext.to_grown e54 _)) (Ext.to_grown e65 _)) (fun w' x => Still.move rfl) ?_
      refine Gq.st 6 rfl (by kernel_rfl) rfl .plain rfl (fun _ _ _ h => h) (grown_trans (grown_trans (grown_trans (World.grownBy.refl w38 _) (Ext.to_grown e43 _)) (Ext.to_grown e54 _)) (Ext.to_grown e65 _)) (fun w' x => Still.extract rfl rfl) ?_
      refine Gq.st 7 rfl (by kernel_rfl) rfl .plain rfl (fun _ _ _ h => h) (grown_trans (grown_trans (grown_trans (World.grownBy.refl w38 _) (Ext.to_grown e43 _)) (Ext.to_grown e54 _)) (Ext.to_grown e65 _)) (fun w' x => Still.extract rfl rfl) ?_
      refine Gq.st 8 rfl (by kernel_rfl) rfl .plain rfl (fun _ _ _ h => h) (grown_trans (grown_trans (grown_trans (World.grownBy.refl w38 _) (Ext.to_grown e43 _)) (Ext.to_grown e54 _)) (Ext.to_grown e65 _)) (fun w' x => Still.assign rfl) ?_
      refine Gq.one 9 rfl (by kernel_rfl) ?_
      refine Sq.assign .plain rfl rfl ?_
      refine Sq.nil ?_
      refine Eq.goes (fun h => absurd h (by decide)) ?_
      refine Gq.done (by kernel_rfl) ?_
      refine Eq.next ?_
      refine Cq.seq ?_
      refine Cq.region ?_
      refine Sq.loadAgg agg25 .plain rfl rfl hB4 rfl ?_
      have hd77 := hB4.lt
      have hd78 := hB11.lt
      refine Sq.call fn15 .plain rfl rfl (toA_c _ a _ _ (hnx.ext E) (hac.ext E) (hsm21 (by omega)).2) ?_
      rintro _ w71 ⟨⟨nx73, ac74, rfl, hn75, ha76⟩, e72⟩
      have hs79 := Below.size E
      have hs80 := Below.size e72
      replace E := E.trans e72
      replace hB4 := hB4.ext e72
      replace hB11 := hB11.ext e72
      replace hn46 := hn46.ext e72
      replace ha47 := ha47.ext e72
      replace hn57 := hn57.ext e72
      replace ha58 := ha58.ext e72
      refine Sq.alloc zero27 .plain rfl (fun b81 w82 e83 hB84 hlo85 => ?_)
      have hd86 := Nat.le_trans (Below.size E) hlo85
      have hd87 := Nat.lt_of_lt_of_le hB4.lt hlo85
      have hd88 := Nat.lt_of_lt_of_le hB11.lt hlo85
      have hs89 := Below.size e83
      replace E := E.trans e83
      replace hB4 := hB4.ext e83
      replace hB11 := hB11.ext e83
      replace hn46 := hn46.ext e83
      replace ha47 := ha47.ext e83
      replace hn57 := hn57.ext e83
      replace ha58 := ha58.ext e83
      replace hn75 := hn75.ext e83
      replace ha76 := ha76.ext e83
      refine Sq.storeAgg agg27 .plain rfl rfl (one_cons rfl (one_cons (Rows.one (OwnRows.rows hn75)) (one_cons (Row.one (Own.row ha76)) one_nil))) hB84 rfl rfl (fun w90 g91 hB92 => ?_)
      have hs93 := World.grownBy.size g91
      replace E := E.grown g91 (fun k hk => by injection hk with hk; subst hk; omega)
      replace hB4 := hB4.grown g91 (by intro h; injection h with h; omega)
      replace hB11 := hB11.grown g91 (by intro h; injection h with h; omega)
      replace hn46 := hn46.stored g91 hB84 (by decide) (by decide)
      replace ha47 := ha47.stored g91 hB84 (by decide)
      replace hn57 := hn57.stored g91 hB84 (by decide) (by decide)
      replace ha58 := ha58.stored g91 hB84 (by decide)
      replace hn75 := hn75.stored g91 hB84 (by decide) (by decide)
      replace ha76 := ha76.stored g91 hB84 (by decide)
      replace hB84 := hB92
      refine Sq.nil ?_
      refine Eq.next ?_
      refine Cq.seq ?_
      refine Cq.region ?_
      refine Sq.loadAgg agg25 .plain rfl rfl hB11 rfl ?_
      have hd101 := hB4.lt
      have hd102 := hB11.lt
      have hd103 := hB84.lt
      refine Sq.call fn15 .plain rfl rfl (toA_c _ b _ _ (hnx'.ext E) (hac'.ext E) (hsm32 (by omega)).2) ?_
      rintro _ w95 ⟨⟨nx97, ac98, rfl, hn99, ha100⟩, e96⟩
      have hs104 := Below.size E
      have hs105 := Below.size e96
      replace E := E.trans e96
      replace hB4 := hB4.ext e96
      replace hB11 := hB11.ext e96
      replace hn46 := hn46.ext e96
      replace ha47 := ha47.ext e96
      replace hn57 := hn57.ext e96
      replace ha58 := ha58.ext e96
      replace hn75 := hn75.ext e96
      replace ha76 := ha76.ext e96
      replace hB84 := hB84.ext e96
      refine Sq.alloc zero27 .plain rfl (fun b106 w107 e108 hB109 hlo110 => ?_)
      have hd111 := Nat.le_trans (Below.size E) hlo110
      have hd112 := Nat.lt_of_lt_of_le hB4.lt hlo110
      have hd113 := Nat.lt_of_lt_of_le hB11.lt hlo110
      have hd114 := Nat.lt_of_lt_of_le hB84.lt hlo110
      have hs115 := Below.size e108
      replace E := E.trans e108
      replace hB4 := hB4.ext e108
      replace hB11 := hB11.ext e108
      replace hn46 := hn46.ext e108
      replace ha47 := ha47.ext e108
      replace hn57 := hn57.ext e108
      replace ha58 := ha58.ext e108
      replace hn75 := hn75.ext e108
      replace ha76 := ha76.ext e108
      replace hB84 := hB84.ext e108
      replace hn99 := hn99.ext e108
      replace ha100 := ha100.ext e108
      refine Sq.storeAgg agg27 .plain rfl rfl (one_cons rfl (one_cons (Rows.one (OwnRows.rows hn99)) (one_cons (Row.one (Own.row ha100)) one_nil))) hB109 rfl rfl (fun w116 g117 hB118 => ?_)
      have hs119 := World.grownBy.size g117
      replace E := E.grown g117 (fun k hk => by injection hk with hk; subst hk; omega)
      replace hB4 := hB4.grown g117 (by intro h; injection h with h; omega)
      replace hB11 := hB11.grown g117 (by intro h; injection h with h; omega)
      replace hn46 := hn46.stored g117 hB109 (by decide) (by decide)
      replace ha47 := ha47.stored g117 hB109 (by decide)
      replace hn57 := hn57.stored g117 hB109 (by decide) (by decide)
      replace ha58 := ha58.stored g117 hB109 (by decide)
      replace hn75 := hn75.stored g117 hB109 (by decide) (by decide)
      replace ha76 := ha76.stored g117 hB109 (by decide)
      replace hB84 := hB84.grown g117 (by intro h; injection h with h; omega)
      replace hn99 := hn99.stored g117 hB109 (by decide) (by decide)
      replace ha100 := ha100.stored g117 hB109 (by decide)
      replace hB109 := hB118
      refine Sq.nil ?_
      refine Eq.next ?_
      refine Cq.seq ?_
      refine Cq.region ?_
      refine Sq.loadAgg agg27 .plain rfl rfl hB84 rfl ?_
      refine Sq.loadAgg agg27 .plain rfl rfl hB109 rfl ?_
      have hd123 := hB4.lt
      have hd124 := hB11.lt
      have hd125 := hB84.lt
      have hd126 := hB109.lt
      refine Sq.call fn31 .plain rfl rfl (fOut_c _ a b _ _ _ _ (OwnRows.rows hn75) (Own.row ha76) (OwnRows.rows hn99) (Own.row ha100)) ?_
      rintro _ w121 ⟨rfl, e122⟩
      have hs127 := Below.size E
      have hs128 := Below.size e122
      replace E := E.trans e122
      replace hB4 := hB4.ext e122
      replace hB11 := hB11.ext e122
      replace hn46 := hn46.ext e122
      replace ha47 := ha47.ext e122
      replace hn57 := hn57.ext e122
      replace ha58 := ha58.ext e122
      replace hn75 := hn75.ext e122
      replace ha76 := ha76.ext e122
      replace hB84 := hB84.ext e122
      replace hn99 := hn99.ext e122
      replace ha100 := ha100.ext e122
      replace hB109 := hB109.ext e122
      refine Sq.move .plain rfl rfl ?_
      refine Sq.extract .plain rfl rfl rfl ?_
      refine Sq.extract .plain rfl rfl rfl ?_
      refine Sq.assign .plain rfl rfl ?_
      refine Sq.assign .plain rfl rfl ?_
      refine Sq.nil ?_
      refine Eq.next ?_
      refine Cq.seq ?_
      refine Cq.seq ?_
      refine Cq.region ?_
      refine Sq.move .plain rfl rfl ?_
      refine Sq.move .plain rfl rfl ?_
      refine Sq.neqS .plain rfl rfl rfl ?_
      refine Sq.isF (fun h => h rfl) ?_
      refine Sq.move .plain rfl rfl ?_
      refine Sq.move (.met rfl rfl rfl) rfl rfl ?_
      refine Sq.move (.met rfl rfl rfl) rfl rfl ?_
      refine Sq.neqB und4 (.met rfl rfl rfl) rfl rfl rfl ?_
      refine Sq.beF (by simp) ?_
      refine Sq.pickF .plain rfl rfl rfl ?_
      refine Sq.nil ?_
      refine Eq.next ?_
      refine Cq.els rfl ?_
      refine Cq.skip ?_
      refine Eq.next ?_
      refine Cq.seq ?_
      refine Cq.seq ?_
      refine Cq.draw 5 none mixed (fun w129 e130 => ?_)
      have hs131 := Below.size e130
      replace E := E.trans e130
      replace hB4 := hB4.ext e130
      replace hB11 := hB11.ext e130
      replace hn46 := hn46.ext e130
      replace ha47 := ha47.ext e130
      replace hn57 := hn57.ext e130
      replace ha58 := ha58.ext e130
      replace hn75 := hn75.ext e130
      replace ha76 := ha76.ext e130
      replace hB84 := hB84.ext e130
      replace hn99 := hn99.ext e130
      replace ha100 := ha100.ext e130
      replace hB109 := hB109.ext e130
      have E_w129 := E
      have hB4_w129 := hB4
      have hB11_w129 := hB11
      have hn46_w129 := hn46
      have ha47_w129 := ha47
      have hn57_w129 := hn57
      have ha58_w129 := ha58
      have hn75_w129 := hn75
      have ha76_w129 := ha76
      have hB84_w129 := hB84
      have hn99_w129 := hn99
      have ha100_w129 := ha100
      have hB109_w129 := hB109
      refine Gq.st 0 rfl (by kernel_rfl) rfl .plain rfl (fun _ _ _ h => h) (World.grownBy.refl w129 _) (fun w' x => Still.loadAgg agg27 rfl (hB84_w129.ext (Ext.of_grown x)) rfl) ?_
      refine Gq.st 1 rfl (by kernel_rfl) rfl .plain rfl (fun _ _ _ h => h) (World.grownBy.refl w129 _) (fun w' x => Still.loadAgg agg25 rfl (hB4_w129.ext (Ext.of_grown x)) rfl) ?_
      refine Gq.one 2 rfl (by kernel_rfl) ?_
      have hd139 := hB4.lt
      have hd140 := hB11.lt
      have hd141 := hB84.lt
      have hd142 := hB109.lt
      refine Sq.call fn15 .plain rfl rfl (toA_c _ a _ _ (hnx.ext E) (hac.ext E) (hsm21 (by omega)).2) ?_
      rintro _ w133 ⟨⟨nx135, ac136, rfl, hn137, ha138⟩, e134⟩
      have hs143 := Below.size E
      have hs144 := Below.size e134
      replace E := E.trans e134
      replace hB4 := hB4.ext e134
      replace hB11 := hB11.ext e134
      replace hn46 := hn46.ext e134
      replace ha47 := ha47.ext e134
      replace hn57 := hn57.ext e134
      replace ha58 := ha58.ext e134
      replace hn75 := hn75.ext e134
      replace ha76 := ha76.ext e134
      replace hB84 := hB84.ext e134
      replace hn99 := hn99.ext e134
      replace ha100 := ha100.ext e134
      replace hB109 := hB109.ext e134
      refine Sq.nil ?_
      refine Eq.goes (fun _ => (grown_trans (World.grownBy.refl w129 _) (Ext.to_grown e134 _))) ?_
      refine Gq.one 3 rfl (by kernel_rfl) ?_
      have hd148 := hB4.lt
      have hd149 := hB11.lt
      have hd150 := hB84.lt
      have hd151 := hB109.lt
      refine Sq.call fn17 .plain rfl rfl (eqAut_c _ a a _ _ _ _ (OwnRows.rows hn75) (Own.row ha76) (OwnRows.rows hn137) (Own.row ha138) ((hsm21 (by omega)).2)) ?_
      rintro _ w146 ⟨rfl, e147⟩
      have hs152 := Below.size E
      have hs153 := Below.size e147
      replace E := E.trans e147
      replace hB4 := hB4.ext e147
      replace hB11 := hB11.ext e147
      replace hn46 := hn46.ext e147
      replace ha47 := ha47.ext e147
      replace hn57 := hn57.ext e147
      replace ha58 := ha58.ext e147
      replace hn75 := hn75.ext e147
      replace ha76 := ha76.ext e147
      replace hB84 := hB84.ext e147
      replace hn99 := hn99.ext e147
      replace ha100 := ha100.ext e147
      replace hB109 := hB109.ext e147
      replace hn137 := hn137.ext e147
      replace ha138 := ha138.ext e147
      refine Sq.beT (eqA_refl _) ?_
      refine Sq.nil ?_
      refine Eq.goes (fun _ => (grown_trans (grown_trans (World.grownBy.refl w129 _) (Ext.to_grown e134 _)) (Ext.to_grown e147 _))) ?_
      refine Gq.st 4 rfl (by kernel_rfl) rfl .plain rfl (fun _ _ _ h => h) (grown_trans (grown_trans (World.grownBy.refl w129 _) (Ext.to_grown e134 _)) (Ext.to_grown e147 _)) (fun w' x => Still.notT rfl) ?_
      refine Gq.done (by kernel_rfl) ?_
      refine Eq.next ?_
      refine Cq.els rfl ?_
      refine Cq.skip ?_
      refine Eq.next ?_
      refine Cq.seq ?_
      refine Cq.seq ?_
      refine Cq.draw 5 none mixed (fun w154 e155 => ?_)
      have hs156 := Below.size e155
      replace E := E.trans e155
      replace hB4 := hB4.ext e155
      replace hB11 := hB11.ext e155
      replace hn46 := hn46.ext e155
      replace ha47 := ha47.ext e155
      replace hn57 := hn57.ext e155
      replace ha58 := ha58.ext e155
      replace hn75 := hn75.ext e155
      replace ha76 := ha76.ext e155
      replace hB84 := hB84.ext e155
      replace hn99 := hn99.ext e155
      replace ha100 := ha100.ext e155
      replace hB109 := hB109.ext e155
      replace hn137 := hn137.ext e155
      replace ha138 := ha138.ext e155
      have E_w154 := E
      have hB4_w154 := hB4
      have hB11_w154 := hB11
      have hn46_w154 := hn46
      have ha47_w154 := ha47
      have hn57_w154 := hn57
      have ha58_w154 := ha58
      have hn75_w154 := hn75
      have ha76_w154 := ha76
      have hB84_w154 := hB84
      have hn99_w154 := hn99
      have ha100_w154 := ha100
      have hB109_w154 := hB109
      have hn137_w154 := hn137
      have ha138_w154 := ha138
      refine Gq.st 0 rfl (by kernel_rfl) rfl .plain rfl (fun _ _ _ h => h) (World.grownBy.refl w154 _) (fun w' x => Still.loadAgg agg27 rfl (hB109_w154.ext (Ext.of_grown x)) rfl) ?_
      refine Gq.st 1 rfl (by kernel_rfl) rfl .plain rfl (fun _ _ _ h => h) (World.grownBy.refl w154 _) (fun w' x => Still.loadAgg agg25 rfl (hB11_w154.ext (Ext.of_grown x)) rfl) ?_
      refine Gq.one 2 rfl (by kernel_rfl) ?_
      have hd164 := hB4.lt
      have hd165 := hB11.lt
      have hd166 := hB84.lt
      have hd167 := hB109.lt
      refine Sq.call fn15 .plain rfl rfl (toA_c _ b _ _ (hnx'.ext E) (hac'.ext E) (hsm32 (by omega)).2) ?_
      rintro _ w158 ⟨⟨nx160, ac161, rfl, hn162, ha163⟩, e159⟩
      have hs168 := Below.size E
      have hs169 := Below.size e159
      replace E := E.trans e159
      replace hB4 := hB4.ext e159
      replace hB11 := hB11.ext e159
      replace hn46 := hn46.ext e159
      replace ha47 := ha47.ext e159
      replace hn57 := hn57.ext e159
      replace ha58 := ha58.ext e159
      replace hn75 := hn75.ext e159
      replace ha76 := ha76.ext e159
      replace hB84 := hB84.ext e159
      replace hn99 := hn99.ext e159
      replace ha100 := ha100.ext e159
      replace hB109 := hB109.ext e159
      replace hn137 := hn137.ext e159
      replace ha138 := ha138.ext e159
      refine Sq.nil ?_
      refine Eq.goes (fun _ => (grown_trans (World.grownBy.refl w154 _) (Ext.to_grown e159 _))) ?_
      refine Gq.one 3 rfl (by kernel_rfl) ?_
      have hd173 := hB4.lt
      have hd174 := hB11.lt
      have hd175 := hB84.lt
      have hd176 := hB109.lt
      refine Sq.call fn17 .plain rfl rfl (eqAut_c _ b b _ _ _ _ (OwnRows.rows hn99) (Own.row ha100) (OwnRows.rows hn162) (Own.row ha163) ((hsm32 (by omega)).2)) ?_
      rintro _ w171 ⟨rfl, e172⟩
      have hs177 := Below.size E
      have hs178 := Below.size e172
      replace E := E.trans e172
      replace hB4 := hB4.ext e172
      replace hB11 := hB11.ext e172
      replace hn46 := hn46.ext e172
      replace ha47 := ha47.ext e172
      replace hn57 := hn57.ext e172
      replace ha58 := ha58.ext e172
      replace hn75 := hn75.ext e172
      replace ha76 := ha76.ext e172
      replace hB84 := hB84.ext e172
      replace hn99 := hn99.ext e172
      replace ha100 := ha100.ext e172
      replace hB109 := hB109.ext e172
      replace hn137 := hn137.ext e172
      replace ha138 := ha138.ext e172
      replace hn162 := hn162.ext e172
      replace ha163 := ha163.ext e172
      refine Sq.beT (eqA_refl _) ?_
      refine Sq.nil ?_
      refine Eq.goes (fun _ => (grown_trans (grown_trans (World.grownBy.refl w154 _) (Ext.to_grown e159 _)) (Ext.to_grown e172 _))) ?_
      refine Gq.st 4 rfl (by kernel_rfl) rfl .plain rfl (fun _ _ _ h => h) (grown_trans (grown_trans (World.grownBy.refl w154 _) (Ext.to_grown e159 _)) (Ext.to_grown e172 _)) (fun w' x => Still.notT rfl) ?_
      refine Gq.done (by kernel_rfl) ?_
      refine Eq.next ?_
      refine Cq.els rfl ?_
      refine Cq.skip ?_
      refine Eq.next ?_
      refine Cq.seq ?_
      refine Cq.region ?_
      refine Sq.assign .plain rfl rfl ?_
      refine Sq.nil ?_
      refine Eq.next ?_
      refine Cq.ret ?_
      refine Eq.ret1 rfl rfl ?_
      exact ⟨rfl, E⟩

set_option maxRecDepth 100000 in
theorem lExLanguageWithin (w0 : World) (a b : A) (nx ac nx' ac' : Value) (hnx : RowsX w0 nx a.next) (hac : BoolsX w0 ac a.acc) (hnx' : RowsX w0 nx' b.next) (hac' : BoolsX w0 ac' b.acc) : Ret Try.prog 10 #[Value.agg #[Value.int .i64 a.al, nx, ac], Value.agg #[Value.int .i64 b.al, nx', ac']] w0 (fun v w => v = .bool true ∧ Ext w0 w) := by
  have E := Ext.refl w0
  refine Ret.of (args := [Value.agg #[Value.int .i64 a.al, nx, ac], Value.agg #[Value.int .i64 b.al, nx', ac']]) Try.func10 rfl rfl rfl ?_
  rintro _ rfl
  show Cq _ _ _ _ [(0, Value.agg #[Value.int .i64 a.al, nx, ac]), (1, Value.agg #[Value.int .i64 b.al, nx', ac'])] _
  refine Cq.seq ?_
  refine Cq.region ?_
  refine Sq.box .plain rfl rfl (fun b1 w2 e3 hB4 hlo5 => ?_)
  have hd6 := Nat.le_trans (Below.size E) hlo5
  have hs7 := Below.size e3
  replace E := E.trans e3
  refine Sq.box .plain rfl rfl (fun b8 w9 e10 hB11 hlo12 => ?_)
  have hd13 := Nat.le_trans (Below.size E) hlo12
  have hd14 := Nat.lt_of_lt_of_le hB4.lt hlo12
  have hs15 := Below.size e10
  replace E := E.trans e10
  replace hB4 := hB4.ext e10
  refine Sq.assign .plain rfl rfl ?_
  refine Sq.nil ?_
  refine Eq.next ?_
  refine Cq.seq ?_
  refine Cq.region ?_
  refine Sq.assign .plain rfl rfl ?_
  refine Sq.nil ?_
  refine Eq.next ?_
  refine Cq.seq ?_
  refine Cq.region ?_
  refine Sq.loadAgg agg25 .plain rfl rfl hB4 rfl ?_
  refine Sq.move .plain rfl rfl ?_
  have hd22 := hB4.lt
  have hd23 := hB11.lt
  refine Sq.call fn13 .plain rfl rfl (szA_c _ a _ _ (hnx.ext E) (hac.ext E) 1048576 (by omega)) ?_
  rintro _ w17 ⟨⟨z19, rfl, hz20, hsm21⟩, e18⟩
  have hs24 := Below.size E
  have hs25 := Below.size e18
  replace E := E.trans e18
  replace hB4 := hB4.ext e18
  replace hB11 := hB11.ext e18
  refine Sq.assign .plain rfl rfl ?_
  refine Sq.nil ?_
  refine Eq.next ?_
  refine Cq.seq ?_
  refine Cq.seq ?_
  refine Cq.region ?_
  refine Sq.move .plain rfl rfl ?_
  refine Sq.lss .plain rfl rfl rfl ?_
  refine Sq.part (fun c26 => ?_) (fun c26 => ?_)
  · refine Sq.nil ?_
    refine Eq.next ?_
    refine Cq.thn rfl ?_
    refine Cq.seq ?_
    refine Cq.region ?_
    refine Sq.assign .plain rfl rfl ?_
    refine Sq.nil ?_
    refine Eq.next ?_
    refine Cq.ret ?_
    refine Eq.pastRet ?_
    refine Eq.ret1 rfl rfl ?_
    exact ⟨rfl, E⟩
  · refine Sq.nil ?_
    refine Eq.next ?_
    refine Cq.els rfl ?_
    refine Cq.skip ?_
    refine Eq.next ?_
    refine Cq.seq ?_
    refine Cq.region ?_
    refine Sq.loadAgg agg25 .plain rfl rfl hB11 rfl ?_
    refine Sq.move .plain rfl rfl ?_
    have hd33 := hB4.lt
    have hd34 := hB11.lt
    refine Sq.call fn13 .plain rfl rfl (szA_c _ b _ _ (hnx'.ext E) (hac'.ext E) z19 (by omega)) ?_
    rintro _ w28 ⟨⟨z30, rfl, hz31, hsm32⟩, e29⟩
    have hs35 := Below.size E
    have hs36 := Below.size e29
    replace E := E.trans e29
    replace hB4 := hB4.ext e29
    replace hB11 := hB11.ext e29
    refine Sq.assign .plain rfl rfl ?_
    refine Sq.nil ?_
    refine Eq.next ?_
    refine Cq.seq ?_
    refine Cq.seq ?_
    refine Cq.region ?_
    refine Sq.move .plain rfl rfl ?_
    refine Sq.lss .plain rfl rfl rfl ?_
    refine Sq.part (fun c37 => ?_) (fun c37 => ?_)
    · refine Sq.nil ?_
      refine Eq.next ?_
      refine Cq.thn rfl ?_
      refine Cq.seq ?_
      refine Cq.region ?_
      refine Sq.assign .plain rfl rfl ?_
      refine Sq.nil ?_
      refine Eq.next ?_
      refine Cq.ret ?_
      refine Eq.pastRet ?_
      refine Eq.ret1 rfl rfl ?_
      exact ⟨rfl, E⟩
    · refine Sq.nil ?_
      refine Eq.next ?_
      refine Cq.els rfl ?_
      refine Cq.skip ?_
      refine Eq.next ?_
      refine Cq.seq ?_
      refine Cq.draw 5 none mixed (fun w38 e39 => ?_)
      have hs40 := Below.size e39
      replace E := E.trans e39
      replace hB4 := hB4.ext e39
      replace hB11 := hB11.ext e39
      have E_w38 := E
      have hB4_w38 := hB4
      have hB11_w38 := hB11
      refine Gq.st 0 rfl (by kernel_rfl) rfl .plain rfl (fun _ _ _ h => h) (World.grownBy.refl w38 _) (fun w' x => Still.loadAgg agg25 rfl (hB4_w38.ext (Ext.of_grown x)) rfl) ?_
      refine Gq.st 2 rfl (by kernel_rfl) rfl .plain rfl (fun _ _ _ h => h) (World.grownBy.refl w38 _) (fun w' x => Still.loadAgg agg25 rfl (hB11_w38.ext (Ext.of_grown x)) rfl) ?_
      refine Gq.one 1 rfl (by kernel_rfl) ?_
      have hd48 := hB4.lt
      have hd49 := hB11.lt
      refine Sq.call fn15 .plain rfl rfl (toA_c _ a _ _ (hnx.ext E) (hac.ext E) (hsm21 (by omega)).2) ?_
      rintro _ w42 ⟨⟨nx44, ac45, rfl, hn46, ha47⟩, e43⟩
      have hs50 := Below.size E
      have hs51 := Below.size e43
      replace E := E.trans e43
      replace hB4 := hB4.ext e43
      replace hB11 := hB11.ext e43
      refine Sq.nil ?_
      refine Eq.goes (fun _ => (grown_trans (World.grownBy.refl w38 _) (Ext.to_grown e43 _))) ?_
      refine Gq.one 3 rfl (by kernel_rfl) ?_
      have hd59 := hB4.lt
      have hd60 := hB11.lt
      refine Sq.call fn15 .plain rfl rfl (toA_c _ b _ _ (hnx'.ext E) (hac'.ext E) (hsm32 (by omega)).2) ?_
      rintro _ w53 ⟨⟨nx55, ac56, rfl, hn57, ha58⟩, e54⟩
      have hs61 := Below.size E
      have hs62 := Below.size e54
      replace E := E.trans e54
      replace hB4 := hB4.ext e54
      replace hB11 := hB11.ext e54
      replace hn46 := hn46.ext e54
      replace ha47 := ha47.ext e54
      refine Sq.nil ?_
      refine Eq.goes (fun _ => (grown_trans (grown_trans (World.grownBy.refl w38 _) (Ext.to_grown e43 _)) (Ext.to_grown e54 _))) ?_
      refine Gq.one 4 rfl (by kernel_rfl) ?_
      have hd66 := hB4.lt
      have hd67 := hB11.lt
      refine Sq.call fn32 .plain rfl rfl (sWithin2_c _ a b _ _ _ _ (OwnRows.rows hn46) (Own.row ha47) (OwnRows.rows hn57) (Own.row ha58)) ?_
      rintro _ w64 ⟨rfl, e65⟩
      have hs68 := Below.size E
      have hs69 := Below.size e65
      replace E := E.trans e65
      replace hB4 := hB4.ext e65
      replace hB11 := hB11.ext e65
      replace hn46 := hn46.ext e65
      replace ha47 := ha47.ext e65
      replace hn57 := hn57.ext e65
      replace ha58 := ha58.ext e65
      refine Sq.nil ?_
      refine Eq.goes (fun _ => (grown_trans (grown_trans (grown_trans (World.grownBy.refl w38 _) (Ext.to_grown e43 _)) (Ext.to_grown e54 _)) (Ext.to_grown e65 _))) ?_
      refine Gq.one 5 rfl (by kernel_rfl) ?_
      refine Sq.assign .plain rfl rfl ?_
      refine Sq.nil ?_
      refine Eq.goes (fun h => absurd h (by decide)) ?_
      refine Gq.done (by kernel_rfl) ?_
      refine Eq.next ?_
      refine Cq.seq ?_
      refine Cq.region ?_
      refine Sq.loadAgg agg25 .plain rfl rfl hB4 rfl ?_
      have hd77 := hB4.lt
      have hd78 := hB11.lt
      refine Sq.call fn15 .plain rfl rfl (toA_c _ a _ _ (hnx.ext E) (hac.ext E) (hsm21 (by omega)).2) ?_
      rintro _ w71 ⟨⟨nx73, ac74, rfl, hn75, ha76⟩, e72⟩
      have hs79 := Below.size E
      have hs80 := Below.size e72
      replace E := E.trans e72
      replace hB4 := hB4.ext e72
      replace hB11 := hB11.ext e72
      replace hn46 := hn46.ext e72
      replace ha47 := ha47.ext e72
      replace hn57 := hn57.ext e72
      replace ha58 := ha58.ext e72
      refine Sq.alloc zero27 .plain rfl (fun b81 w82 e83 hB84 hlo85 => ?_)
      have hd86 := Nat.le_trans (Below.size E) hlo85
      have hd87 := Nat.lt_of_lt_of_le hB4.lt hlo85
      have hd88 := Nat.lt_of_lt_of_le hB11.lt hlo85
      have hs89 := Below.size e83
      replace E := E.trans e83
      replace hB4 := hB4.ext e83
      replace hB11 := hB11.ext e83
      replace hn46 := hn46.ext e83
      replace ha47 := ha47.ext e83
      replace hn57 := hn57.ext e83
      replace ha58 := ha58.ext e83
      replace hn75 := hn75.ext e83
      replace ha76 := ha76.ext e83
      refine Sq.storeAgg agg27 .plain rfl rfl (one_cons rfl (one_cons (Rows.one (OwnRows.rows hn75)) (one_cons (Row.one (Own.row ha76)) one_nil))) hB84 rfl rfl (fun w90 g91 hB92 => ?_)
      have hs93 := World.grownBy.size g91
      replace E := E.grown g91 (fun k hk => by injection hk with hk; subst hk; omega)
      replace hB4 := hB4.grown g91 (by intro h; injection h with h; omega)
      replace hB11 := hB11.grown g91 (by intro h; injection h with h; omega)
      replace hn46 := hn46.stored g91 hB84 (by decide) (by decide)
      replace ha47 := ha47.stored g91 hB84 (by decide)
      replace hn57 := hn57.stored g91 hB84 (by decide) (by decide)
      replace ha58 := ha58.stored g91 hB84 (by decide)
      replace hn75 := hn75.stored g91 hB84 (by decide) (by decide)
      replace ha76 := ha76.stored g91 hB84 (by decide)
      replace hB84 := hB92
      refine Sq.nil ?_
      refine Eq.next ?_
      refine Cq.seq ?_
      refine Cq.region ?_
      refine Sq.loadAgg agg25 .plain rfl rfl hB11 rfl ?_
      have hd101 := hB4.lt
      have hd102 := hB11.lt
      have hd103 := hB84.lt
      refine Sq.call fn15 .plain rfl rfl (toA_c _ b _ _ (hnx'.ext E) (hac'.ext E) (hsm32 (by omega)).2) ?_
      rintro _ w95 ⟨⟨nx97, ac98, rfl, hn99, ha100⟩, e96⟩
      have hs104 := Below.size E
      have hs105 := Below.size e96
      replace E := E.trans e96
      replace hB4 := hB4.ext e96
      replace hB11 := hB11.ext e96
      replace hn46 := hn46.ext e96
      replace ha47 := ha47.ext e96
      replace hn57 := hn57.ext e96
      replace ha58 := ha58.ext e96
      replace hn75 := hn75.ext e96
      replace ha76 := ha76.ext e96
      replace hB84 := hB84.ext e96
      refine Sq.alloc zero27 .plain rfl (fun b106 w107 e108 hB109 hlo110 => ?_)
      have hd111 := Nat.le_trans (Below.size E) hlo110
      have hd112 := Nat.lt_of_lt_of_le hB4.lt hlo110
      have hd113 := Nat.lt_of_lt_of_le hB11.lt hlo110
      have hd114 := Nat.lt_of_lt_of_le hB84.lt hlo110
      have hs115 := Below.size e108
      replace E := E.trans e108
      replace hB4 := hB4.ext e108
      replace hB11 := hB11.ext e108
      replace hn46 := hn46.ext e108
      replace ha47 := ha47.ext e108
      replace hn57 := hn57.ext e108
      replace ha58 := ha58.ext e108
      replace hn75 := hn75.ext e108
      replace ha76 := ha76.ext e108
      replace hB84 := hB84.ext e108
      replace hn99 := hn99.ext e108
      replace ha100 := ha100.ext e108
      refine Sq.storeAgg agg27 .plain rfl rfl (one_cons rfl (one_cons (Rows.one (OwnRows.rows hn99)) (one_cons (Row.one (Own.row ha100)) one_nil))) hB109 rfl rfl (fun w116 g117 hB118 => ?_)
      have hs119 := World.grownBy.size g117
      replace E := E.grown g117 (fun k hk => by injection hk with hk; subst hk; omega)
      replace hB4 := hB4.grown g117 (by intro h; injection h with h; omega)
      replace hB11 := hB11.grown g117 (by intro h; injection h with h; omega)
      replace hn46 := hn46.stored g117 hB109 (by decide) (by decide)
      replace ha47 := ha47.stored g117 hB109 (by decide)
      replace hn57 := hn57.stored g117 hB109 (by decide) (by decide)
      replace ha58 := ha58.stored g117 hB109 (by decide)
      replace hn75 := hn75.stored g117 hB109 (by decide) (by decide)
      replace ha76 := ha76.stored g117 hB109 (by decide)
      replace hB84 := hB84.grown g117 (by intro h; injection h with h; omega)
      replace hn99 := hn99.stored g117 hB109 (by decide) (by decide)
      replace ha100 := ha100.stored g117 hB109 (by decide)
      replace hB109 := hB118
      refine Sq.nil ?_
      refine Eq.next ?_
      refine Cq.seq ?_
      refine Cq.region ?_
      refine Sq.loadAgg agg27 .plain rfl rfl hB84 rfl ?_
      refine Sq.loadAgg agg27 .plain rfl rfl hB109 rfl ?_
      have hd123 := hB4.lt
      have hd124 := hB11.lt
      have hd125 := hB84.lt
      have hd126 := hB109.lt
      refine Sq.call fn33 .plain rfl rfl (within2_c _ a b _ _ _ _ (OwnRows.rows hn75) (Own.row ha76) (OwnRows.rows hn99) (Own.row ha100)) ?_
      rintro _ w121 ⟨rfl, e122⟩
      have hs127 := Below.size E
      have hs128 := Below.size e122
      replace E := E.trans e122
      replace hB4 := hB4.ext e122
      replace hB11 := hB11.ext e122
      replace hn46 := hn46.ext e122
      replace ha47 := ha47.ext e122
      replace hn57 := hn57.ext e122
      replace ha58 := ha58.ext e122
      replace hn75 := hn75.ext e122
      replace ha76 := ha76.ext e122
      replace hB84 := hB84.ext e122
      replace hn99 := hn99.ext e122
      replace ha100 := ha100.ext e122
      replace hB109 := hB109.ext e122
      refine Sq.assign .plain rfl rfl ?_
      refine Sq.nil ?_
      refine Eq.next ?_
      refine Cq.seq ?_
      refine Cq.seq ?_
      refine Cq.region ?_
      refine Sq.move .plain rfl rfl ?_
      refine Sq.move .plain rfl rfl ?_
      refine Sq.neqB und4 .plain rfl rfl rfl ?_
      refine Sq.beF (by simp) ?_
      refine Sq.nil ?_
      refine Eq.next ?_
      refine Cq.els rfl ?_
      refine Cq.skip ?_
      refine Eq.next ?_
      refine Cq.seq ?_
      refine Cq.seq ?_
      refine Cq.draw 5 none mixed (fun w129 e130 => ?_)
      have hs131 := Below.size e130
      replace E := E.trans e130
      replace hB4 := hB4.ext e130
      replace hB11 := hB11.ext e130
      replace hn46 := hn46.ext e130
      replace ha47 := ha47.ext e130
      replace hn57 := hn57.ext e130
      replace ha58 := ha58.ext e130
      replace hn75 := hn75.ext e130
      replace ha76 := ha76.ext e130
      replace hB84 := hB84.ext e130
      replace hn99 := hn99.ext e130
      replace ha100 := ha100.ext e130
      replace hB109 := hB109.ext e130
      have E_w129 := E
      have hB4_w129 := hB4
      have hB11_w129 := hB11
      have hn46_w129 := hn46
      have ha47_w129 := ha47
      have hn57_w129 := hn57
      have ha58_w129 := ha58
      have hn75_w129 := hn75
      have ha76_w129 := ha76
      have hB84_w129 := hB84
      have hn99_w129 := hn99
      have ha100_w129 := ha100
      have hB109_w129 := hB109
      refine Gq.st 0 rfl (by kernel_rfl) rfl .plain rfl (fun _ _ _ h => h) (World.grownBy.refl w129 _) (fun w' x => Still.loadAgg agg27 rfl (hB84_w129.ext (Ext.of_grown x)) rfl) ?_
      refine Gq.st 1 rfl (by kernel_rfl) rfl .plain rfl (fun _ _ _ h => h) (World.grownBy.refl w129 _) (fun w' x => Still.loadAgg agg25 rfl (hB4_w129.ext (Ext.of_grown x)) rfl) ?_
      refine Gq.one 2 rfl (by kernel_rfl) ?_
      have hd139 := hB4.lt
      have hd140 := hB11.lt
      have hd141 := hB84.lt
      have hd142 := hB109.lt
      refine Sq.call fn15 .plain rfl rfl (toA_c _ a _ _ (hnx.ext E) (hac.ext E) (hsm21 (by omega)).2) ?_
      rintro _ w133 ⟨⟨nx135, ac136, rfl, hn137, ha138⟩, e134⟩
      have hs143 := Below.size E
      have hs144 := Below.size e134
      replace E := E.trans e134
      replace hB4 := hB4.ext e134
      replace hB11 := hB11.ext e134
      replace hn46 := hn46.ext e134
      replace ha47 := ha47.ext e134
      replace hn57 := hn57.ext e134
      replace ha58 := ha58.ext e134
      replace hn75 := hn75.ext e134
      replace ha76 := ha76.ext e134
      replace hB84 := hB84.ext e134
      replace hn99 := hn99.ext e134
      replace ha100 := ha100.ext e134
      replace hB109 := hB109.ext e134
      refine Sq.nil ?_
      refine Eq.goes (fun _ => (grown_trans (World.grownBy.refl w129 _) (Ext.to_grown e134 _))) ?_
      refine Gq.one 3 rfl (by kernel_rfl) ?_
      have hd148 := hB4.lt
      have hd149 := hB11.lt
      have hd150 := hB84.lt
      have hd151 := hB109.lt
      refine Sq.call fn17 .plain rfl rfl (eqAut_c _ a a _ _ _ _ (OwnRows.rows hn75) (Own.row ha76) (OwnRows.rows hn137) (Own.row ha138) ((hsm21 (by omega)).2)) ?_
      rintro _ w146 ⟨rfl, e147⟩
      have hs152 := Below.size E
      have hs153 := Below.size e147
      replace E := E.trans e147
      replace hB4 := hB4.ext e147
      replace hB11 := hB11.ext e147
      replace hn46 := hn46.ext e147
      replace ha47 := ha47.ext e147
      replace hn57 := hn57.ext e147
      replace ha58 := ha58.ext e147
      replace hn75 := hn75.ext e147
      replace ha76 := ha76.ext e147
      replace hB84 := hB84.ext e147
      replace hn99 := hn99.ext e147
      replace ha100 := ha100.ext e147
      replace hB109 := hB109.ext e147
      replace hn137 := hn137.ext e147
      replace ha138 := ha138.ext e147
      refine Sq.beT (eqA_refl _) ?_
      refine Sq.nil ?_
      refine Eq.goes (fun _ => (grown_trans (grown_trans (World.grownBy.refl w129 _) (Ext.to_grown e134 _)) (Ext.to_grown e147 _))) ?_
      refine Gq.st 4 rfl (by kernel_rfl) rfl .plain rfl (fun _ _ _ h => h) (grown_trans (grown_trans (World.grownBy.refl w129 _) (Ext.to_grown e134 _)) (Ext.to_grown e147 _)) (fun w' x => Still.notT rfl) ?_
      refine Gq.done (by kernel_rfl) ?_
      refine Eq.next ?_
      refine Cq.els rfl ?_
      refine Cq.skip ?_
      refine Eq.next ?_
      refine Cq.seq ?_
      refine Cq.seq ?_
      refine Cq.draw 5 none mixed (fun w154 e155 => ?_)
      have hs156 := Below.size e155
      replace E := E.trans e155
      replace hB4 := hB4.ext e155
      replace hB11 := hB11.ext e155
      replace hn46 := hn46.ext e155
      replace ha47 := ha47.ext e155
      replace hn57 := hn57.ext e155
      replace ha58 := ha58.ext e155
      replace hn75 := hn75.ext e155
      replace ha76 := ha76.ext e155
      replace hB84 := hB84.ext e155
      replace hn99 := hn99.ext e155
      replace ha100 := ha100.ext e155
      replace hB109 := hB109.ext e155
      replace hn137 := hn137.ext e155
      replace ha138 := ha138.ext e155
      have E_w154 := E
      have hB4_w154 := hB4
      have hB11_w154 := hB11
      have hn46_w154 := hn46
      have ha47_w154 := ha47
      have hn57_w154 := hn57
      have ha58_w154 := ha58
      have hn75_w154 := hn75
      have ha76_w154 := ha76
      have hB84_w154 := hB84
      have hn99_w154 := hn99
      have ha100_w154 := ha100
      have hB109_w154 := hB109
      have hn137_w154 := hn137
      have ha138_w154 := ha138
      refine Gq.st 0 rfl (by kernel_rfl) rfl .plain rfl (fun _ _ _ h => h) (World.grownBy.refl w154 _) (fun w' x => Still.loadAgg agg27 rfl (hB109_w154.ext (Ext.of_grown x)) rfl) ?_
      refine Gq.st 1 rfl (by kernel_rfl) rfl .plain rfl (fun _ _ _ h => h) (World.grownBy.refl w154 _) (fun w' x => Still.loadAgg agg25 rfl (hB11_w154.ext (Ext.of_grown x)) rfl) ?_
      refine Gq.one 2 rfl (by kernel_rfl) ?_
      have hd164 := hB4.lt
      have hd165 := hB11.lt
      have hd166 := hB84.lt
      have hd167 := hB109.lt
      refine Sq.call fn15 .plain rfl rfl (toA_c _ b _ _ (hnx'.ext E) (hac'.ext E) (hsm32 (by omega)).2) ?_
      rintro _ w158 ⟨⟨nx160, ac161, rfl, hn162, ha163⟩, e159⟩
      have hs168 := Below.size E
      have hs169 := Below.size e159
      replace E := E.trans e159
      replace hB4 := hB4.ext e159
      replace hB11 := hB11.ext e159
      replace hn46 := hn46.ext e159
      replace ha47 := ha47.ext e159
      replace hn57 := hn57.ext e159
      replace ha58 := ha58.ext e159
      replace hn75 := hn75.ext e159
      replace ha76 := ha76.ext e159
      replace hB84 := hB84.ext e159
      replace hn99 := hn99.ext e159
      replace ha100 := ha100.ext e159
      replace hB109 := hB109.ext e159
      replace hn137 := hn137.ext e159
      replace ha138 := ha138.ext e159
      refine Sq.nil ?_
      refine Eq.goes (fun _ => (grown_trans (World.grownBy.refl w154 _) (Ext.to_grown e159 _))) ?_
      refine Gq.one 3 rfl (by kernel_rfl) ?_
      have hd173 := hB4.lt
      have hd174 := hB11.lt
      have hd175 := hB84.lt
      have hd176 := hB109.lt
      refine Sq.call fn17 .plain rfl rfl (eqAut_c _ b b _ _ _ _ (OwnRows.rows hn99) (Own.row ha100) (OwnRows.rows hn162) (Own.row ha163) ((hsm32 (by omega)).2)) ?_
      rintro _ w171 ⟨rfl, e172⟩
      have hs177 := Below.size E
      have hs178 := Below.size e172
      replace E := E.trans e172
      replace hB4 := hB4.ext e172
      replace hB11 := hB11.ext e172
      replace hn46 := hn46.ext e172
      replace ha47 := ha47.ext e172
      replace hn57 := hn57.ext e172
      replace ha58 := ha58.ext e172
      replace hn75 := hn75.ext e172
      replace ha76 := ha76.ext e172
      replace hB84 := hB84.ext e172
      replace hn99 := hn99.ext e172
      replace ha100 := ha100.ext e172
      replace hB109 := hB109.ext e172
      replace hn137 := hn137.ext e172
      replace ha138 := ha138.ext e172
      replace hn162 := hn162.ext e172
      replace ha163 := ha163.ext e172
      refine Sq.beT (eqA_refl _) ?_
      refine Sq.nil ?_
      refine Eq.goes (fun _ => (grown_trans (grown_trans (World.grownBy.refl w154 _) (Ext.to_grown e159 _)) (Ext.to_grown e172 _))) ?_
      refine Gq.st 4 rfl (by kernel_rfl) rfl .plain rfl (fun _ _ _ h => h) (grown_trans (grown_trans (World.grownBy.refl w154 _) (Ext.to_grown e159 _)) (Ext.to_grown e172 _)) (fun w' x => Still.notT rfl) ?_
      refine Gq.done (by kernel_rfl) ?_
      refine Eq.next ?_
      refine Cq.els rfl ?_
      refine Cq.skip ?_
      refine Eq.next ?_
      refine Cq.seq ?_
      refine Cq.region ?_
      refine Sq.assign .plain rfl rfl ?_
      refine Sq.nil ?_
      refine Eq.next ?_
      refine Cq.ret ?_
      refine Eq.ret1 rfl rfl ?_
      exact ⟨rfl, E⟩

set_option maxRecDepth 100000 in
theorem lExSameLanguage (w0 : World) (a b : A) (nx ac nx' ac' : Value) (hnx : RowsX w0 nx a.next) (hac : BoolsX w0 ac a.acc) (hnx' : RowsX w0 nx' b.next) (hac' : BoolsX w0 ac' b.acc) : Ret Try.prog 11 #[Value.agg #[Value.int .i64 a.al, nx, ac], Value.agg #[Value.int .i64 b.al, nx', ac']] w0 (fun v w => v = .bool true ∧ Ext w0 w) := by
  have E := Ext.refl w0
  refine Ret.of (args := [Value.agg #[Value.int .i64 a.al, nx, ac], Value.agg #[Value.int .i64 b.al, nx', ac']]) Try.func11 rfl rfl rfl ?_
  rintro _ rfl
  show Cq _ _ _ _ [(0, Value.agg #[Value.int .i64 a.al, nx, ac]), (1, Value.agg #[Value.int .i64 b.al, nx', ac'])] _
  refine Cq.seq ?_
  refine Cq.region ?_
  refine Sq.box .plain rfl rfl (fun b1 w2 e3 hB4 hlo5 => ?_)
  have hd6 := Nat.le_trans (Below.size E) hlo5
  have hs7 := Below.size e3
  replace E := E.trans e3
  refine Sq.box .plain rfl rfl (fun b8 w9 e10 hB11 hlo12 => ?_)
  have hd13 := Nat.le_trans (Below.size E) hlo12
  have hd14 := Nat.lt_of_lt_of_le hB4.lt hlo12
  have hs15 := Below.size e10
  replace E := E.trans e10
  replace hB4 := hB4.ext e10
  refine Sq.assign .plain rfl rfl ?_
  refine Sq.nil ?_
  refine Eq.next ?_
  refine Cq.seq ?_
  refine Cq.region ?_
  refine Sq.assign .plain rfl rfl ?_
  refine Sq.nil ?_
  refine Eq.next ?_
  refine Cq.seq ?_
  refine Cq.region ?_
  refine Sq.loadAgg agg25 .plain rfl rfl hB4 rfl ?_
  refine Sq.move .plain rfl rfl ?_
  have hd22 := hB4.lt
  have hd23 := hB11.lt
  refine Sq.call fn13 .plain rfl rfl (szA_c _ a _ _ (hnx.ext E) (hac.ext E) 1048576 (by omega)) ?_
  rintro _ w17 ⟨⟨z19, rfl, hz20, hsm21⟩, e18⟩
  have hs24 := Below.size E
  have hs25 := Below.size e18
  replace E := E.trans e18
  replace hB4 := hB4.ext e18
  replace hB11 := hB11.ext e18
  refine Sq.assign .plain rfl rfl ?_
  refine Sq.nil ?_
  refine Eq.next ?_
  refine Cq.seq ?_
  refine Cq.seq ?_
  refine Cq.region ?_
  refine Sq.move .plain rfl rfl ?_
  refine Sq.lss .plain rfl rfl rfl ?_
  refine Sq.part (fun c26 => ?_) (fun c26 => ?_)
  · refine Sq.nil ?_
    refine Eq.next ?_
    refine Cq.thn rfl ?_
    refine Cq.seq ?_
    refine Cq.region ?_
    refine Sq.assign .plain rfl rfl ?_
    refine Sq.nil ?_
    refine Eq.next ?_
    refine Cq.ret ?_
    refine Eq.pastRet ?_
    refine Eq.ret1 rfl rfl ?_
    exact ⟨rfl, E⟩
  · refine Sq.nil ?_
    refine Eq.next ?_
    refine Cq.els rfl ?_
    refine Cq.skip ?_
    refine Eq.next ?_
    refine Cq.seq ?_
    refine Cq.region ?_
    refine Sq.loadAgg agg25 .plain rfl rfl hB11 rfl ?_
    refine Sq.move .plain rfl rfl ?_
    have hd33 := hB4.lt
    have hd34 := hB11.lt
    refine Sq.call fn13 .plain rfl rfl (szA_c _ b _ _ (hnx'.ext E) (hac'.ext E) z19 (by omega)) ?_
    rintro _ w28 ⟨⟨z30, rfl, hz31, hsm32⟩, e29⟩
    have hs35 := Below.size E
    have hs36 := Below.size e29
    replace E := E.trans e29
    replace hB4 := hB4.ext e29
    replace hB11 := hB11.ext e29
    refine Sq.assign .plain rfl rfl ?_
    refine Sq.nil ?_
    refine Eq.next ?_
    refine Cq.seq ?_
    refine Cq.seq ?_
    refine Cq.region ?_
    refine Sq.move .plain rfl rfl ?_
    refine Sq.lss .plain rfl rfl rfl ?_
    refine Sq.part (fun c37 => ?_) (fun c37 => ?_)
    · refine Sq.nil ?_
      refine Eq.next ?_
      refine Cq.thn rfl ?_
      refine Cq.seq ?_
      refine Cq.region ?_
      refine Sq.assign .plain rfl rfl ?_
      refine Sq.nil ?_
      refine Eq.next ?_
      refine Cq.ret ?_
      refine Eq.pastRet ?_
      refine Eq.ret1 rfl rfl ?_
      exact ⟨rfl, E⟩
    · refine Sq.nil ?_
      refine Eq.next ?_
      refine Cq.els rfl ?_
      refine Cq.skip ?_
      refine Eq.next ?_
      refine Cq.seq ?_
      refine Cq.draw 5 none mixed (fun w38 e39 => ?_)
      have hs40 := Below.size e39
      replace E := E.trans e39
      replace hB4 := hB4.ext e39
      replace hB11 := hB11.ext e39
      have E_w38 := E
      have hB4_w38 := hB4
      have hB11_w38 := hB11
      refine Gq.st 0 rfl (by kernel_rfl) rfl .plain rfl (fun _ _ _ h => h) (World.grownBy.refl w38 _) (fun w' x => Still.loadAgg agg25 rfl (hB4_w38.ext (Ext.of_grown x)) rfl) ?_
      refine Gq.st 2 rfl (by kernel_rfl) rfl .plain rfl (fun _ _ _ h => h) (World.grownBy.refl w38 _) (fun w' x => Still.loadAgg agg25 rfl (hB11_w38.ext (Ext.of_grown x)) rfl) ?_
      refine Gq.one 1 rfl (by kernel_rfl) ?_
      have hd48 := hB4.lt
      have hd49 := hB11.lt
      refine Sq.call fn15 .plain rfl rfl (toA_c _ a _ _ (hnx.ext E) (hac.ext E) (hsm21 (by omega)).2) ?_
      rintro _ w42 ⟨⟨nx44, ac45, rfl, hn46, ha47⟩, e43⟩
      have hs50 := Below.size E
      have hs51 := Below.size e43
      replace E := E.trans e43
      replace hB4 := hB4.ext e43
      replace hB11 := hB11.ext e43
      refine Sq.nil ?_
      refine Eq.goes (fun _ => (grown_trans (World.grownBy.refl w38 _) (Ext.to_grown e43 _))) ?_
      refine Gq.one 3 rfl (by kernel_rfl) ?_
      have hd59 := hB4.lt
      have hd60 := hB11.lt
      refine Sq.call fn15 .plain rfl rfl (toA_c _ b _ _ (hnx'.ext E) (hac'.ext E) (hsm32 (by omega)).2) ?_
      rintro _ w53 ⟨⟨nx55, ac56, rfl, hn57, ha58⟩, e54⟩
      have hs61 := Below.size E
      have hs62 := Below.size e54
      replace E := E.trans e54
      replace hB4 := hB4.ext e54
      replace hB11 := hB11.ext e54
      replace hn46 := hn46.ext e54
      replace ha47 := ha47.ext e54
      refine Sq.nil ?_
      refine Eq.goes (fun _ => (grown_trans (grown_trans (World.grownBy.refl w38 _) (Ext.to_grown e43 _)) (Ext.to_grown e54 _))) ?_
      refine Gq.one 4 rfl (by kernel_rfl) ?_
      have hd66 := hB4.lt
      have hd67 := hB11.lt
      refine Sq.call fn34 .plain rfl rfl (sSame_c _ a b _ _ _ _ (OwnRows.rows hn46) (Own.row ha47) (OwnRows.rows hn57) (Own.row ha58)) ?_
      rintro _ w64 ⟨rfl, e65⟩
      have hs68 := Below.size E
      have hs69 := Below.size e65
      replace E := E.trans e65
      replace hB4 := hB4.ext e65
      replace hB11 := hB11.ext e65
      replace hn46 := hn46.ext e65
      replace ha47 := ha47.ext e65
      replace hn57 := hn57.ext e65
      replace ha58 := ha58.ext e65
      refine Sq.nil ?_
      refine Eq.goes (fun _ => (grown_trans (grown_trans (grown_trans (World.grownBy.refl w38 _) (Ext.to_grown e43 _)) (Ext.to_grown e54 _)) (Ext.to_grown e65 _))) ?_
      refine Gq.one 5 rfl (by kernel_rfl) ?_
      refine Sq.assign .plain rfl rfl ?_
      refine Sq.nil ?_
      refine Eq.goes (fun h => absurd h (by decide)) ?_
      refine Gq.done (by kernel_rfl) ?_
      refine Eq.next ?_
      refine Cq.seq ?_
      refine Cq.region ?_
      refine Sq.loadAgg agg25 .plain rfl rfl hB4 rfl ?_
      have hd77 := hB4.lt
      have hd78 := hB11.lt
      refine Sq.call fn15 .plain rfl rfl (toA_c _ a _ _ (hnx.ext E) (hac.ext E) (hsm21 (by omega)).2) ?_
      rintro _ w71 ⟨⟨nx73, ac74, rfl, hn75, ha76⟩, e72⟩
      have hs79 := Below.size E
      have hs80 := Below.size e72
      replace E := E.trans e72
      replace hB4 := hB4.ext e72
      replace hB11 := hB11.ext e72
      replace hn46 := hn46.ext e72
      replace ha47 := ha47.ext e72
      replace hn57 := hn57.ext e72
      replace ha58 := ha58.ext e72
      refine Sq.alloc zero27 .plain rfl (fun b81 w82 e83 hB84 hlo85 => ?_)
      have hd86 := Nat.le_trans (Below.size E) hlo85
      have hd87 := Nat.lt_of_lt_of_le hB4.lt hlo85
      have hd88 := Nat.lt_of_lt_of_le hB11.lt hlo85
      have hs89 := Below.size e83
      replace E := E.trans e83
      replace hB4 := hB4.ext e83
      replace hB11 := hB11.ext e83
      replace hn46 := hn46.ext e83
      replace ha47 := ha47.ext e83
      replace hn57 := hn57.ext e83
      replace ha58 := ha58.ext e83
      replace hn75 := hn75.ext e83
      replace ha76 := ha76.ext e83
      refine Sq.storeAgg agg27 .plain rfl rfl (one_cons rfl (one_cons (Rows.one (OwnRows.rows hn75)) (one_cons (Row.one (Own.row ha76)) one_nil))) hB84 rfl rfl (fun w90 g91 hB92 => ?_)
      have hs93 := World.grownBy.size g91
      replace E := E.grown g91 (fun k hk => by injection hk with hk; subst hk; omega)
      replace hB4 := hB4.grown g91 (by intro h; injection h with h; omega)
      replace hB11 := hB11.grown g91 (by intro h; injection h with h; omega)
      replace hn46 := hn46.stored g91 hB84 (by decide) (by decide)
      replace ha47 := ha47.stored g91 hB84 (by decide)
      replace hn57 := hn57.stored g91 hB84 (by decide) (by decide)
      replace ha58 := ha58.stored g91 hB84 (by decide)
      replace hn75 := hn75.stored g91 hB84 (by decide) (by decide)
      replace ha76 := ha76.stored g91 hB84 (by decide)
      replace hB84 := hB92
      refine Sq.nil ?_
      refine Eq.next ?_
      refine Cq.seq ?_
      refine Cq.region ?_
      refine Sq.loadAgg agg25 .plain rfl rfl hB11 rfl ?_
      have hd101 := hB4.lt
      have hd102 := hB11.lt
      have hd103 := hB84.lt
      refine Sq.call fn15 .plain rfl rfl (toA_c _ b _ _ (hnx'.ext E) (hac'.ext E) (hsm32 (by omega)).2) ?_
      rintro _ w95 ⟨⟨nx97, ac98, rfl, hn99, ha100⟩, e96⟩
      have hs104 := Below.size E
      have hs105 := Below.size e96
      replace E := E.trans e96
      replace hB4 := hB4.ext e96
      replace hB11 := hB11.ext e96
      replace hn46 := hn46.ext e96
      replace ha47 := ha47.ext e96
      replace hn57 := hn57.ext e96
      replace ha58 := ha58.ext e96
      replace hn75 := hn75.ext e96
      replace ha76 := ha76.ext e96
      replace hB84 := hB84.ext e96
      refine Sq.alloc zero27 .plain rfl (fun b106 w107 e108 hB109 hlo110 => ?_)
      have hd111 := Nat.le_trans (Below.size E) hlo110
      have hd112 := Nat.lt_of_lt_of_le hB4.lt hlo110
      have hd113 := Nat.lt_of_lt_of_le hB11.lt hlo110
      have hd114 := Nat.lt_of_lt_of_le hB84.lt hlo110
      have hs115 := Below.size e108
      replace E := E.trans e108
      replace hB4 := hB4.ext e108
      replace hB11 := hB11.ext e108
      replace hn46 := hn46.ext e108
      replace ha47 := ha47.ext e108
      replace hn57 := hn57.ext e108
      replace ha58 := ha58.ext e108
      replace hn75 := hn75.ext e108
      replace ha76 := ha76.ext e108
      replace hB84 := hB84.ext e108
      replace hn99 := hn99.ext e108
      replace ha100 := ha100.ext e108
      refine Sq.storeAgg agg27 .plain rfl rfl (one_cons rfl (one_cons (Rows.one (OwnRows.rows hn99)) (one_cons (Row.one (Own.row ha100)) one_nil))) hB109 rfl rfl (fun w116 g117 hB118 => ?_)
      have hs119 := World.grownBy.size g117
      replace E := E.grown g117 (fun k hk => by injection hk with hk; subst hk; omega)
      replace hB4 := hB4.grown g117 (by intro h; injection h with h; omega)
      replace hB11 := hB11.grown g117 (by intro h; injection h with h; omega)
      replace hn46 := hn46.stored g117 hB109 (by decide) (by decide)
      replace ha47 := ha47.stored g117 hB109 (by decide)
      replace hn57 := hn57.stored g117 hB109 (by decide) (by decide)
      replace ha58 := ha58.stored g117 hB109 (by decide)
      replace hn75 := hn75.stored g117 hB109 (by decide) (by decide)
      replace ha76 := ha76.stored g117 hB109 (by decide)
      replace hB84 := hB84.grown g117 (by intro h; injection h with h; omega)
      replace hn99 := hn99.stored g117 hB109 (by decide) (by decide)
      replace ha100 := ha100.stored g117 hB109 (by decide)
      replace hB109 := hB118
      refine Sq.nil ?_
      refine Eq.next ?_
      refine Cq.seq ?_
      refine Cq.region ?_
      refine Sq.loadAgg agg27 .plain rfl rfl hB84 rfl ?_
      refine Sq.loadAgg agg27 .plain rfl rfl hB109 rfl ?_
      have hd123 := hB4.lt
      have hd124 := hB11.lt
      have hd125 := hB84.lt
      have hd126 := hB109.lt
      refine Sq.call fn35 .plain rfl rfl (same_c _ a b _ _ _ _ (OwnRows.rows hn75) (Own.row ha76) (OwnRows.rows hn99) (Own.row ha100)) ?_
      rintro _ w121 ⟨rfl, e122⟩
      have hs127 := Below.size E
      have hs128 := Below.size e122
      replace E := E.trans e122
      replace hB4 := hB4.ext e122
      replace hB11 := hB11.ext e122
      replace hn46 := hn46.ext e122
      replace ha47 := ha47.ext e122
      replace hn57 := hn57.ext e122
      replace ha58 := ha58.ext e122
      replace hn75 := hn75.ext e122
      replace ha76 := ha76.ext e122
      replace hB84 := hB84.ext e122
      replace hn99 := hn99.ext e122
      replace ha100 := ha100.ext e122
      replace hB109 := hB109.ext e122
      refine Sq.assign .plain rfl rfl ?_
      refine Sq.nil ?_
      refine Eq.next ?_
      refine Cq.seq ?_
      refine Cq.seq ?_
      refine Cq.region ?_
      refine Sq.move .plain rfl rfl ?_
      refine Sq.move .plain rfl rfl ?_
      refine Sq.neqB und4 .plain rfl rfl rfl ?_
      refine Sq.beF (by simp) ?_
      refine Sq.nil ?_
      refine Eq.next ?_
      refine Cq.els rfl ?_
      refine Cq.skip ?_
      refine Eq.next ?_
      refine Cq.seq ?_
      refine Cq.seq ?_
      refine Cq.draw 5 none mixed (fun w129 e130 => ?_)
      have hs131 := Below.size e130
      replace E := E.trans e130
      replace hB4 := hB4.ext e130
      replace hB11 := hB11.ext e130
      replace hn46 := hn46.ext e130
      replace ha47 := ha47.ext e130
      replace hn57 := hn57.ext e130
      replace ha58 := ha58.ext e130
      replace hn75 := hn75.ext e130
      replace ha76 := ha76.ext e130
      replace hB84 := hB84.ext e130
      replace hn99 := hn99.ext e130
      replace ha100 := ha100.ext e130
      replace hB109 := hB109.ext e130
      have E_w129 := E
      have hB4_w129 := hB4
      have hB11_w129 := hB11
      have hn46_w129 := hn46
      have ha47_w129 := ha47
      have hn57_w129 := hn57
      have ha58_w129 := ha58
      have hn75_w129 := hn75
      have ha76_w129 := ha76
      have hB84_w129 := hB84
      have hn99_w129 := hn99
      have ha100_w129 := ha100
      have hB109_w129 := hB109
      refine Gq.st 0 rfl (by kernel_rfl) rfl .plain rfl (fun _ _ _ h => h) (World.grownBy.refl w129 _) (fun w' x => Still.loadAgg agg27 rfl (hB84_w129.ext (Ext.of_grown x)) rfl) ?_
      refine Gq.st 1 rfl (by kernel_rfl) rfl .plain rfl (fun _ _ _ h => h) (World.grownBy.refl w129 _) (fun w' x => Still.loadAgg agg25 rfl (hB4_w129.ext (Ext.of_grown x)) rfl) ?_
      refine Gq.one 2 rfl (by kernel_rfl) ?_
      have hd139 := hB4.lt
      have hd140 := hB11.lt
      have hd141 := hB84.lt
      have hd142 := hB109.lt
      refine Sq.call fn15 .plain rfl rfl (toA_c _ a _ _ (hnx.ext E) (hac.ext E) (hsm21 (by omega)).2) ?_
      rintro _ w133 ⟨⟨nx135, ac136, rfl, hn137, ha138⟩, e134⟩
      have hs143 := Below.size E
      have hs144 := Below.size e134
      replace E := E.trans e134
      replace hB4 := hB4.ext e134
      replace hB11 := hB11.ext e134
      replace hn46 := hn46.ext e134
      replace ha47 := ha47.ext e134
      replace hn57 := hn57.ext e134
      replace ha58 := ha58.ext e134
      replace hn75 := hn75.ext e134
      replace ha76 := ha76.ext e134
      replace hB84 := hB84.ext e134
      replace hn99 := hn99.ext e134
      replace ha100 := ha100.ext e134
      replace hB109 := hB109.ext e134
      refine Sq.nil ?_
      refine Eq.goes (fun _ => (grown_trans (World.grownBy.refl w129 _) (Ext.to_grown e134 _))) ?_
      refine Gq.one 3 rfl (by kernel_rfl) ?_
      have hd148 := hB4.lt
      have hd149 := hB11.lt
      have hd150 := hB84.lt
      have hd151 := hB109.lt
      refine Sq.call fn17 .plain rfl rfl (eqAut_c _ a a _ _ _ _ (OwnRows.rows hn75) (Own.row ha76) (OwnRows.rows hn137) (Own.row ha138) ((hsm21 (by omega)).2)) ?_
      rintro _ w146 ⟨rfl, e147⟩
      have hs152 := Below.size E
      have hs153 := Below.size e147
      replace E := E.trans e147
      replace hB4 := hB4.ext e147
      replace hB11 := hB11.ext e147
      replace hn46 := hn46.ext e147
      replace ha47 := ha47.ext e147
      replace hn57 := hn57.ext e147
      replace ha58 := ha58.ext e147
      replace hn75 := hn75.ext e147
      replace ha76 := ha76.ext e147
      replace hB84 := hB84.ext e147
      replace hn99 := hn99.ext e147
      replace ha100 := ha100.ext e147
      replace hB109 := hB109.ext e147
      replace hn137 := hn137.ext e147
      replace ha138 := ha138.ext e147
      refine Sq.beT (eqA_refl _) ?_
      refine Sq.nil ?_
      refine Eq.goes (fun _ => (grown_trans (grown_trans (World.grownBy.refl w129 _) (Ext.to_grown e134 _)) (Ext.to_grown e147 _))) ?_
      refine Gq.st 4 rfl (by kernel_rfl) rfl .plain rfl (fun _ _ _ h => h) (grown_trans (grown_trans (World.grownBy.refl w129 _) (Ext.to_grown e134 _)) (Ext.to_grown e147 _)) (fun w' x => Still.notT rfl) ?_
      refine Gq.done (by kernel_rfl) ?_
      refine Eq.next ?_
      refine Cq.els rfl ?_
      refine Cq.skip ?_
      refine Eq.next ?_
      refine Cq.seq ?_
      refine Cq.seq ?_
      refine Cq.draw 5 none mixed (fun w154 e155 => ?_)
      have hs156 := Below.size e155
      replace E := E.trans e155
      replace hB4 := hB4.ext e155
      replace hB11 := hB11.ext e155
      replace hn46 := hn46.ext e155
      replace ha47 := ha47.ext e155
      replace hn57 := hn57.ext e155
      replace ha58 := ha58.ext e155
      replace hn75 := hn75.ext e155
      replace ha76 := ha76.ext e155
      replace hB84 := hB84.ext e155
      replace hn99 := hn99.ext e155
      replace ha100 := ha100.ext e155
      replace hB109 := hB109.ext e155
      replace hn137 := hn137.ext e155
      replace ha138 := ha138.ext e155
      have E_w154 := E
      have hB4_w154 := hB4
      have hB11_w154 := hB11
      have hn46_w154 := hn46
      have ha47_w154 := ha47
      have hn57_w154 := hn57
      have ha58_w154 := ha58
      have hn75_w154 := hn75
      have ha76_w154 := ha76
      have hB84_w154 := hB84
      have hn99_w154 := hn99
      have ha100_w154 := ha100
      have hB109_w154 := hB109
      have hn137_w154 := hn137
      have ha138_w154 := ha138
      refine Gq.st 0 rfl (by kernel_rfl) rfl .plain rfl (fun _ _ _ h => h) (World.grownBy.refl w154 _) (fun w' x => Still.loadAgg agg27 rfl (hB109_w154.ext (Ext.of_grown x)) rfl) ?_
      refine Gq.st 1 rfl (by kernel_rfl) rfl .plain rfl (fun _ _ _ h => h) (World.grownBy.refl w154 _) (fun w' x => Still.loadAgg agg25 rfl (hB11_w154.ext (Ext.of_grown x)) rfl) ?_
      refine Gq.one 2 rfl (by kernel_rfl) ?_
      have hd164 := hB4.lt
      have hd165 := hB11.lt
      have hd166 := hB84.lt
      have hd167 := hB109.lt
      refine Sq.call fn15 .plain rfl rfl (toA_c _ b _ _ (hnx'.ext E) (hac'.ext E) (hsm32 (by omega)).2) ?_
      rintro _ w158 ⟨⟨nx160, ac161, rfl, hn162, ha163⟩, e159⟩
      have hs168 := Below.size E
      have hs169 := Below.size e159
      replace E := E.trans e159
      replace hB4 := hB4.ext e159
      replace hB11 := hB11.ext e159
      replace hn46 := hn46.ext e159
      replace ha47 := ha47.ext e159
      replace hn57 := hn57.ext e159
      replace ha58 := ha58.ext e159
      replace hn75 := hn75.ext e159
      replace ha76 := ha76.ext e159
      replace hB84 := hB84.ext e159
      replace hn99 := hn99.ext e159
      replace ha100 := ha100.ext e159
      replace hB109 := hB109.ext e159
      replace hn137 := hn137.ext e159
      replace ha138 := ha138.ext e159
      refine Sq.nil ?_
      refine Eq.goes (fun _ => (grown_trans (World.grownBy.refl w154 _) (Ext.to_grown e159 _))) ?_
      refine Gq.one 3 rfl (by kernel_rfl) ?_
      have hd173 := hB4.lt
      have hd174 := hB11.lt
      have hd175 := hB84.lt
      have hd176 := hB109.lt
      refine Sq.call fn17 .plain rfl rfl (eqAut_c _ b b _ _ _ _ (OwnRows.rows hn99) (Own.row ha100) (OwnRows.rows hn162) (Own.row ha163) ((hsm32 (by omega)).2)) ?_
      rintro _ w171 ⟨rfl, e172⟩
      have hs177 := Below.size E
      have hs178 := Below.size e172
      replace E := E.trans e172
      replace hB4 := hB4.ext e172
      replace hB11 := hB11.ext e172
      replace hn46 := hn46.ext e172
      replace ha47 := ha47.ext e172
      replace hn57 := hn57.ext e172
      replace ha58 := ha58.ext e172
      replace hn75 := hn75.ext e172
      replace ha76 := ha76.ext e172
      replace hB84 := hB84.ext e172
      replace hn99 := hn99.ext e172
      replace ha100 := ha100.ext e172
      replace hB109 := hB109.ext e172
      replace hn137 := hn137.ext e172
      replace ha138 := ha138.ext e172
      replace hn162 := hn162.ext e172
      replace ha163 := ha163.ext e172
      refine Sq.beT (eqA_refl _) ?_
      refine Sq.nil ?_
      refine Eq.goes (fun _ => (grown_trans (grown_trans (World.grownBy.refl w154 _) (Ext.to_grown e159 _)) (Ext.to_grown e172 _))) ?_
      refine Gq.st 4 rfl (by kernel_rfl) rfl .plain rfl (fun _ _ _ h => h) (grown_trans (grown_trans (World.grownBy.refl w154 _) (Ext.to_grown e159 _)) (Ext.to_grown e172 _)) (fun w' x => Still.notT rfl) ?_
      refine Gq.done (by kernel_rfl) ?_
      refine Eq.next ?_
      refine Cq.els rfl ?_
      refine Cq.skip ?_
      refine Eq.next ?_
      refine Cq.seq ?_
      refine Cq.region ?_
      refine Sq.assign .plain rfl rfl ?_
      refine Sq.nil ?_
      refine Eq.next ?_
      refine Cq.ret ?_
      refine Eq.ret1 rfl rfl ?_
      exact ⟨rfl, E⟩

end Go.Proofs.Ytdkdpmmfebdeaaa
