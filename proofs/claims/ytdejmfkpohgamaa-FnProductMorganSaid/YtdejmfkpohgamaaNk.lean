/-
  Walks, printed by a program out of the translation and a contract for each function; each step is one law.
-/
import Derived.Test.YtdejmfkpohgamaaNh
import Derived.Test.YtdejmfkpohgamaaNj
import Derived.Test.YtdejmfkpohgamaaNc
import Derived.Test.YtdejmfkpohgamaaNe
import Derived.Test.YtdejmfkpohgamaaWk
set_option linter.unusedSimpArgs false
set_option linter.unusedVariables false
namespace Go.Proofs.Ytdejmfkpohgamaa
open Go.RowKit

set_option maxRecDepth 100000 in
theorem lProdTurned (w0 : World) (e : TypeId) (a0 : Option Addr) (c0 : Nat) (cs : List UInt8) (hc : Bytes w0 e (.slice a0 cs.length c0) cs) (hcap : cs.length ≤ c0) : Ret Try.prog 3 #[Value.slice a0 cs.length c0] w0 (fun v w => v = .bool true ∧ Ext w0 w) := by
  have E := Ext.refl w0
  refine Ret.of (args := [Value.slice a0 cs.length c0]) Try.func3 rfl rfl rfl ?_
  rintro _ rfl
  show Cq _ _ _ _ [(0, Value.slice a0 cs.length c0)] _
  refine Cq.seq ?_
  refine Cq.region ?_
  refine Sq.assign .plain rfl rfl ?_
  refine Sq.nil ?_
  refine Eq.next ?_
  refine Cq.seq ?_
  refine Cq.seq ?_
  refine Cq.region ?_
  refine Sq.move .plain rfl rfl ?_
  refine Sq.lenBytes (hc.ext E) .plain rfl und22 rfl ?_
  refine Sq.gtr .plain rfl rfl rfl ?_
  refine Sq.part (fun c1 => ?_) (fun c1 => ?_)
  · refine Sq.nil ?_
    refine Eq.next ?_
    refine Cq.thn rfl ?_
    refine Cq.seq ?_
    refine Cq.region ?_
    refine Sq.assign .plain rfl rfl ?_
    refine Sq.nil ?_
    refine Eq.next ?_
    refine Cq.ret ?_
    refine Eq.pastRet ?_
    refine Eq.ret1 rfl rfl ?_
    exact ⟨rfl, E⟩
  · refine Sq.nil ?_
    refine Eq.next ?_
    refine Cq.els rfl ?_
    refine Cq.skip ?_
    refine Eq.next ?_
    refine Cq.seq ?_
    refine Cq.region ?_
    refine Sq.move .plain rfl rfl ?_
    refine Sq.call fn15 .plain rfl rfl (drawProd_c _ _ _ _ _ (hc.ext E) hcap) ?_
    rintro v2 w3 ⟨⟨u5, v6, k7, aX8, aY9, rfl, ⟨nxX10, acX11, rfl, hnX12, haX13⟩, ⟨nxY14, acY15, rfl, hnY16, haY17⟩, hsmX18, hsmY19, hk20⟩, e4⟩
    have hs21 := Below.size E
    have hs22 := Below.size e4
    replace E := E.trans e4
    refine Sq.move .plain rfl rfl ?_
    refine Sq.extract .plain rfl rfl rfl ?_
    refine Sq.extract .plain rfl rfl rfl ?_
    refine Sq.extract .plain rfl rfl rfl ?_
    refine Sq.alloc zero26 .plain rfl (fun b23 w24 e25 hB26 hlo27 => ?_)
    have hd28 := Nat.le_trans (Below.size E) hlo27
    have hs29 := Below.size e25
    replace E := E.trans e25
    replace hnX12 := hnX12.ext e25
    replace haX13 := haX13.ext e25
    replace hnY16 := hnY16.ext e25
    replace haY17 := haY17.ext e25
    refine Sq.alloc zero26 .plain rfl (fun b30 w31 e32 hB33 hlo34 => ?_)
    have hd35 := Nat.le_trans (Below.size E) hlo34
    have hd36 := Nat.lt_of_lt_of_le hB26.lt hlo34
    have hs37 := Below.size e32
    replace E := E.trans e32
    replace hnX12 := hnX12.ext e32
    replace haX13 := haX13.ext e32
    replace hnY16 := hnY16.ext e32
    replace haY17 := haY17.ext e32
    replace hB26 := hB26.ext e32
    refine Sq.storeAgg agg26 .plain rfl rfl (one_cons rfl (one_cons (Rows.one hnX12) (one_cons (Row.one haX13) one_nil))) hB26 rfl rfl (fun w38 g39 hB40 => ?_)
    have hs41 := World.grownBy.size g39
    replace E := E.grown g39 (fun k hk => by injection hk with hk; subst hk; omega)
    replace hnX12 := hnX12.stored g39 hB26 (by decide) (by decide)
    replace haX13 := haX13.stored g39 hB26 (by decide)
    replace hnY16 := hnY16.stored g39 hB26 (by decide) (by decide)
    replace haY17 := haY17.stored g39 hB26 (by decide)
    replace hB33 := hB33.grown g39 (by intro h; injection h with h; omega)
    replace hB26 := hB40
    refine Sq.storeAgg agg26 .plain rfl rfl (one_cons rfl (one_cons (Rows.one hnY16) (one_cons (Row.one haY17) one_nil))) hB33 rfl rfl (fun w42 g43 hB44 => ?_)
    have hs45 := World.grownBy.size g43
    replace E := E.grown g43 (fun k hk => by injection hk with hk; subst hk; omega)
    replace hnX12 := hnX12.stored g43 hB33 (by decide) (by decide)
    replace haX13 := haX13.stored g43 hB33 (by decide)
    replace hnY16 := hnY16.stored g43 hB33 (by decide) (by decide)
    replace haY17 := haY17.stored g43 hB33 (by decide)
    replace hB26 := hB26.grown g43 (by intro h; injection h with h; omega)
    replace hB33 := hB44
    refine Sq.assign .plain rfl rfl ?_
    refine Sq.nil ?_
    refine Eq.next ?_
    refine Cq.seq ?_
    refine Cq.region ?_
    refine Sq.loadAgg agg26 .plain rfl rfl hB26 rfl ?_
    refine Sq.loadAgg agg26 .plain rfl rfl hB33 rfl ?_
    refine Sq.move .plain rfl rfl ?_
    rcases Bool.eq_false_or_eq_true (prodOk aX8 aY9 k7) with hC | hC
    · obtain ⟨hv, hv', hk, hl12⟩ := prodOk_spec.1 hC
      refine Sq.call fn16 .plain rfl rfl (prod_c_T _ aX8 aY9 _ _ _ _ hnX12 haX13 hnY16 haY17 k7 hC) ?_
      rintro _ w46 ⟨⟨_, rfl, nx48, ac49, rfl, hn50, ha51⟩, e47⟩
      have hs52 := Below.size E
      have hs53 := Below.size e47
      replace E := E.trans e47
      replace hnX12 := hnX12.ext e47
      replace haX13 := haX13.ext e47
      replace hnY16 := hnY16.ext e47
      replace haY17 := haY17.ext e47
      replace hB26 := hB26.ext e47
      replace hB33 := hB33.ext e47
      refine Sq.move .plain rfl rfl ?_
      refine Sq.extract .plain rfl rfl rfl ?_
      refine Sq.extract .plain rfl rfl rfl ?_
      refine Sq.alloc zero26 .plain rfl (fun b54 w55 e56 hB57 hlo58 => ?_)
      have hd59 := Nat.le_trans (Below.size E) hlo58
      have hd60 := Nat.lt_of_lt_of_le hB26.lt hlo58
      have hd61 := Nat.lt_of_lt_of_le hB33.lt hlo58
      have hs62 := Below.size e56
      replace E := E.trans e56
      replace hnX12 := hnX12.ext e56
      replace haX13 := haX13.ext e56
      replace hnY16 := hnY16.ext e56
      replace haY17 := haY17.ext e56
      replace hB26 := hB26.ext e56
      replace hB33 := hB33.ext e56
      replace hn50 := hn50.ext e56
      replace ha51 := ha51.ext e56
      refine Sq.storeAgg agg26 .plain rfl rfl (one_cons rfl (one_cons (Rows.one (OwnRows.rows hn50)) (one_cons (Row.one (Own.row ha51)) one_nil))) hB57 rfl rfl (fun w63 g64 hB65 => ?_)
      have hs66 := World.grownBy.size g64
      replace E := E.grown g64 (fun k hk => by injection hk with hk; subst hk; omega)
      replace hnX12 := hnX12.stored g64 hB57 (by decide) (by decide)
      replace haX13 := haX13.stored g64 hB57 (by decide)
      replace hnY16 := hnY16.stored g64 hB57 (by decide) (by decide)
      replace haY17 := haY17.stored g64 hB57 (by decide)
      replace hB26 := hB26.grown g64 (by intro h; injection h with h; omega)
      replace hB33 := hB33.grown g64 (by intro h; injection h with h; omega)
      replace hn50 := hn50.stored g64 hB57 (by decide) (by decide)
      replace ha51 := ha51.stored g64 hB57 (by decide)
      replace hB57 := hB65
      refine Sq.assign .plain rfl rfl ?_
      refine Sq.nil ?_
      refine Eq.next ?_
      refine Cq.seq ?_
      refine Cq.region ?_
      refine Sq.loadAgg agg26 .plain rfl rfl hB26 rfl ?_
      refine Sq.loadAgg agg26 .plain rfl rfl hB33 rfl ?_
      refine Sq.move .plain rfl rfl ?_
      refine Sq.call fn17 .plain rfl rfl (sProd_c_T _ aX8 aY9 _ _ _ _ hnX12 haX13 hnY16 haY17 k7 hC) ?_
      rintro _ w67 ⟨⟨_, rfl, nx69, ac70, rfl, hn71, ha72⟩, e68⟩
      have hs73 := Below.size E
      have hs74 := Below.size e68
      replace E := E.trans e68
      replace hnX12 := hnX12.ext e68
      replace haX13 := haX13.ext e68
      replace hnY16 := hnY16.ext e68
      replace haY17 := haY17.ext e68
      replace hB26 := hB26.ext e68
      replace hB33 := hB33.ext e68
      replace hn50 := hn50.ext e68
      replace ha51 := ha51.ext e68
      replace hB57 := hB57.ext e68
      refine Sq.move .plain rfl rfl ?_
      refine Sq.extract .plain rfl rfl rfl ?_
      refine Sq.extract .plain rfl rfl rfl ?_
      refine Sq.alloc zero26 .plain rfl (fun b75 w76 e77 hB78 hlo79 => ?_)
      have hd80 := Nat.le_trans (Below.size E) hlo79
      have hd81 := Nat.lt_of_lt_of_le hB26.lt hlo79
      have hd82 := Nat.lt_of_lt_of_le hB33.lt hlo79
      have hd83 := Nat.lt_of_lt_of_le hB57.lt hlo79
      have hs84 := Below.size e77
      replace E := E.trans e77
      replace hnX12 := hnX12.ext e77
      replace haX13 := haX13.ext e77
      replace hnY16 := hnY16.ext e77
      replace haY17 := haY17.ext e77
      replace hB26 := hB26.ext e77
      replace hB33 := hB33.ext e77
      replace hn50 := hn50.ext e77
      replace ha51 := ha51.ext e77
      replace hB57 := hB57.ext e77
      replace hn71 := hn71.ext e77
      replace ha72 := ha72.ext e77
      refine Sq.storeAgg agg26 .plain rfl rfl (one_cons rfl (one_cons (Rows.one (OwnRows.rows hn71)) (one_cons (Row.one (Own.row ha72)) one_nil))) hB78 rfl rfl (fun w85 g86 hB87 => ?_)
      have hs88 := World.grownBy.size g86
      replace E := E.grown g86 (fun k hk => by injection hk with hk; subst hk; omega)
      replace hnX12 := hnX12.stored g86 hB78 (by decide) (by decide)
      replace haX13 := haX13.stored g86 hB78 (by decide)
      replace hnY16 := hnY16.stored g86 hB78 (by decide) (by decide)
      replace haY17 := haY17.stored g86 hB78 (by decide)
      replace hB26 := hB26.grown g86 (by intro h; injection h with h; omega)
      replace hB33 := hB33.grown g86 (by intro h; injection h with h; omega)
      replace hn50 := hn50.stored g86 hB78 (by decide) (by decide)
      replace ha51 := ha51.stored g86 hB78 (by decide)
      replace hB57 := hB57.grown g86 (by intro h; injection h with h; omega)
      replace hn71 := hn71.stored g86 hB78 (by decide) (by decide)
      replace ha72 := ha72.stored g86 hB78 (by decide)
      replace hB78 := hB87
      refine Sq.assign .plain rfl rfl ?_
      refine Sq.nil ?_
      refine Eq.next ?_
      refine Cq.seq ?_
      refine Cq.seq ?_
      refine Cq.region ?_
      refine Sq.loadAgg agg26 .plain rfl rfl hB57 rfl ?_
      refine Sq.loadAgg agg26 .plain rfl rfl hB78 rfl ?_
      have hd92 := hB26.lt
      have hd93 := hB33.lt
      have hd94 := hB57.lt
      have hd95 := hB78.lt
      refine Sq.call fn18 .plain rfl rfl (agAutomata_c _ (prodA aX8 aY9 k7) (prodA aX8 aY9 k7) _ _ _ _ (OwnRows.rows hn50) (Own.row ha51) (OwnRows.rows hn71) (Own.row ha72) (by first | exact fit_zero | exact fit_of_valid (by first | assumption | exact extend_valid hv hk | exact compl_valid' (extend_valid hv hk) | exact prod_valid hC | exact prod_valid (prodOk_kind hC (by decide))) | assumption)) ?_
      rintro _ w90 ⟨rfl, e91⟩
      have hs96 := Below.size E
      have hs97 := Below.size e91
      replace E := E.trans e91
      replace hnX12 := hnX12.ext e91
      replace haX13 := haX13.ext e91
      replace hnY16 := hnY16.ext e91
      replace haY17 := haY17.ext e91
      replace hB26 := hB26.ext e91
      replace hB33 := hB33.ext e91
      replace hn50 := hn50.ext e91
      replace ha51 := ha51.ext e91
      replace hB57 := hB57.ext e91
      replace hn71 := hn71.ext e91
      replace ha72 := ha72.ext e91
      replace hB78 := hB78.ext e91
      refine Sq.beT (by exact eqA_refl _) ?_
      refine Sq.notT .plain rfl rfl ?_
      refine Sq.move .plain rfl rfl ?_
      refine Sq.move (.met rfl rfl rfl) rfl rfl ?_
      refine Sq.move (.met rfl rfl rfl) rfl rfl ?_
      refine Sq.neqB und4 (.met rfl rfl rfl) rfl rfl rfl ?_
      refine Sq.pickF .plain rfl rfl rfl ?_
      refine Sq.move .plain rfl rfl ?_
      refine Sq.move (.met rfl rfl rfl) rfl rfl ?_
      refine Sq.notT (.met rfl rfl rfl) rfl rfl ?_
      refine Sq.pickF .plain rfl rfl rfl ?_
      refine Sq.move .plain rfl rfl ?_
      refine Sq.move (.met rfl rfl rfl) rfl rfl ?_
      refine Sq.eql (.met rfl rfl rfl) rfl rfl rfl ?_
      refine Sq.part (fun c98 => ?_) (fun c98 => ?_)
      · refine Sq.pickF .plain rfl rfl rfl ?_
        refine Sq.nil ?_
        refine Eq.next ?_
        refine Cq.thn rfl ?_
        refine Cq.seq ?_
        refine Cq.region ?_
        refine Sq.loadAgg agg26 .plain rfl rfl hB57 rfl ?_
        refine Sq.loadAgg agg26 .plain rfl rfl hB78 rfl ?_
        have hd102 := hB26.lt
        have hd103 := hB33.lt
        have hd104 := hB57.lt
        have hd105 := hB78.lt
        refine Sq.call fn18 .plain rfl rfl (agAutomata_c _ (prodA aX8 aY9 k7) (prodA aX8 aY9 k7) _ _ _ _ (OwnRows.rows hn50) (Own.row ha51) (OwnRows.rows hn71) (Own.row ha72) (by first | exact fit_zero | exact fit_of_valid (by first | assumption | exact extend_valid hv hk | exact compl_valid' (extend_valid hv hk) | exact prod_valid hC | exact prod_valid (prodOk_kind hC (by decide))) | assumption)) ?_
        rintro _ w100 ⟨rfl, e101⟩
        have hs106 := Below.size E
        have hs107 := Below.size e101
        replace E := E.trans e101
        replace hnX12 := hnX12.ext e101
        replace haX13 := haX13.ext e101
        replace hnY16 := hnY16.ext e101
        replace haY17 := haY17.ext e101
        replace hB26 := hB26.ext e101
        replace hB33 := hB33.ext e101
        replace hn50 := hn50.ext e101
        replace ha51 := ha51.ext e101
        replace hB57 := hB57.ext e101
        replace hn71 := hn71.ext e101
        replace ha72 := ha72.ext e101
        replace hB78 := hB78.ext e101
        refine Sq.beT (by exact eqA_refl _) ?_
        refine Sq.move .plain rfl rfl ?_
        refine Sq.move (.met rfl rfl rfl) rfl rfl ?_
        refine Sq.move (.met rfl rfl rfl) rfl rfl ?_
        refine Sq.eqlB und4 (.met rfl rfl rfl) rfl rfl rfl ?_
        refine Sq.pickT .plain rfl rfl rfl ?_
        refine Sq.assign .plain rfl rfl ?_
        refine Sq.nil ?_
        refine Eq.next ?_
        refine Cq.ret ?_
        refine Eq.pastRet ?_
        refine Eq.ret1 rfl rfl ?_
        exact ⟨rfl, E⟩
      · refine Sq.pickF .plain rfl rfl rfl ?_
        refine Sq.nil ?_
        refine Eq.next ?_
        refine Cq.els rfl ?_
        refine Cq.skip ?_
        refine Eq.next ?_
        refine Cq.seq ?_
        refine Cq.region ?_
        refine Sq.loadAgg agg26 .plain rfl rfl hB33 rfl ?_
        refine Sq.loadAgg agg26 .plain rfl rfl hB26 rfl ?_
        refine Sq.move .plain rfl rfl ?_
        refine Sq.call fn16 .plain rfl rfl (prod_c_T _ aY9 aX8 _ _ _ _ hnY16 haY17 hnX12 haX13 k7 (by exact prodOk_turned hC)) ?_
        rintro _ w108 ⟨⟨_, rfl, nx110, ac111, rfl, hn112, ha113⟩, e109⟩
        have hs114 := Below.size E
        have hs115 := Below.size e109
        replace E := E.trans e109
        replace hnX12 := hnX12.ext e109
        replace haX13 := haX13.ext e109
        replace hnY16 := hnY16.ext e109
        replace haY17 := haY17.ext e109
        replace hB26 := hB26.ext e109
        replace hB33 := hB33.ext e109
        replace hn50 := hn50.ext e109
        replace ha51 := ha51.ext e109
        replace hB57 := hB57.ext e109
        replace hn71 := hn71.ext e109
        replace ha72 := ha72.ext e109
        replace hB78 := hB78.ext e109
        refine Sq.move .plain rfl rfl ?_
        refine Sq.extract .plain rfl rfl rfl ?_
        refine Sq.extract .plain rfl rfl rfl ?_
        refine Sq.alloc zero26 .plain rfl (fun b116 w117 e118 hB119 hlo120 => ?_)
        have hd121 := Nat.le_trans (Below.size E) hlo120
        have hd122 := Nat.lt_of_lt_of_le hB26.lt hlo120
        have hd123 := Nat.lt_of_lt_of_le hB33.lt hlo120
        have hd124 := Nat.lt_of_lt_of_le hB57.lt hlo120
        have hd125 := Nat.lt_of_lt_of_le hB78.lt hlo120
        have hs126 := Below.size e118
        replace E := E.trans e118
        replace hnX12 := hnX12.ext e118
        replace haX13 := haX13.ext e118
        replace hnY16 := hnY16.ext e118
        replace haY17 := haY17.ext e118
        replace hB26 := hB26.ext e118
        replace hB33 := hB33.ext e118
        replace hn50 := hn50.ext e118
        replace ha51 := ha51.ext e118
        replace hB57 := hB57.ext e118
        replace hn71 := hn71.ext e118
        replace ha72 := ha72.ext e118
        replace hB78 := hB78.ext e118
        replace hn112 := hn112.ext e118
        replace ha113 := ha113.ext e118
        refine Sq.storeAgg agg26 .plain rfl rfl (one_cons rfl (one_cons (Rows.one (OwnRows.rows hn112)) (one_cons (Row.one (Own.row ha113)) one_nil))) hB119 rfl rfl (fun w127 g128 hB129 => ?_)
        have hs130 := World.grownBy.size g128
        replace E := E.grown g128 (fun k hk => by injection hk with hk; subst hk; omega)
        replace hnX12 := hnX12.stored g128 hB119 (by decide) (by decide)
        replace haX13 := haX13.stored g128 hB119 (by decide)
        replace hnY16 := hnY16.stored g128 hB119 (by decide) (by decide)
        replace haY17 := haY17.stored g128 hB119 (by decide)
        replace hB26 := hB26.grown g128 (by intro h; injection h with h; omega)
        replace hB33 := hB33.grown g128 (by intro h; injection h with h; omega)
        replace hn50 := hn50.stored g128 hB119 (by decide) (by decide)
        replace ha51 := ha51.stored g128 hB119 (by decide)
        replace hB57 := hB57.grown g128 (by intro h; injection h with h; omega)
        replace hn71 := hn71.stored g128 hB119 (by decide) (by decide)
        replace ha72 := ha72.stored g128 hB119 (by decide)
        replace hB78 := hB78.grown g128 (by intro h; injection h with h; omega)
        replace hn112 := hn112.stored g128 hB119 (by decide) (by decide)
        replace ha113 := ha113.stored g128 hB119 (by decide)
        replace hB119 := hB129
        refine Sq.assign .plain rfl rfl ?_
        refine Sq.nil ?_
        refine Eq.next ?_
        refine Cq.seq ?_
        refine Cq.region ?_
        refine Sq.move .plain rfl rfl ?_
        refine Sq.move .plain rfl rfl ?_
        refine Sq.loadAgg agg26 (.met rfl rfl rfl) rfl rfl hB57 rfl ?_
        refine Sq.loadAgg agg26 (.met rfl rfl rfl) rfl rfl hB119 rfl ?_
        have hd134 := hB26.lt
        have hd135 := hB33.lt
        have hd136 := hB57.lt
        have hd137 := hB78.lt
        have hd138 := hB119.lt
        refine Sq.call fn18 (.met rfl rfl rfl) rfl rfl (agAutomata_c _ (prodA aX8 aY9 k7) (prodA aY9 aX8 k7) _ _ _ _ (OwnRows.rows hn50) (Own.row ha51) (OwnRows.rows hn112) (Own.row ha113) (by first | exact fit_zero | exact fit_of_valid (by first | assumption | exact extend_valid hv hk | exact compl_valid' (extend_valid hv hk) | exact prod_valid hC | exact prod_valid (prodOk_kind hC (by decide))) | assumption)) ?_
        rintro _ w132 ⟨rfl, e133⟩
        have hs139 := Below.size E
        have hs140 := Below.size e133
        replace E := E.trans e133
        replace hnX12 := hnX12.ext e133
        replace haX13 := haX13.ext e133
        replace hnY16 := hnY16.ext e133
        replace haY17 := haY17.ext e133
        replace hB26 := hB26.ext e133
        replace hB33 := hB33.ext e133
        replace hn50 := hn50.ext e133
        replace ha51 := ha51.ext e133
        replace hB57 := hB57.ext e133
        replace hn71 := hn71.ext e133
        replace ha72 := ha72.ext e133
        replace hB78 := hB78.ext e133
        replace hn112 := hn112.ext e133
        replace ha113 := ha113.ext e133
        replace hB119 := hB119.ext e133
        refine Sq.beT (by rw [prod_turned (by omega)]; exact eqA_refl _) ?_
        refine Sq.pickT .plain rfl rfl rfl ?_
        refine Sq.assign .plain rfl rfl ?_
        refine Sq.nil ?_
        refine Eq.next ?_
        refine Cq.ret ?_
        refine Eq.ret1 rfl rfl ?_
        exact ⟨rfl, E⟩
    · refine Sq.call fn16 .plain rfl rfl (prod_c_F _ aX8 aY9 _ _ _ _ hnX12 haX13 hnY16 haY17 k7 hC) ?_
      rintro _ w141 ⟨⟨_, rfl, nx143, ac144, rfl, hn145, ha146⟩, e142⟩
      have hs147 := Below.size E
      have hs148 := Below.size e142
      replace E := E.trans e142
      replace hnX12 := hnX12.ext e142
      replace haX13 := haX13.ext e142
      replace hnY16 := hnY16.ext e142
      replace haY17 := haY17.ext e142
      replace hB26 := hB26.ext e142
      replace hB33 := hB33.ext e142
      refine Sq.move .plain rfl rfl ?_
      refine Sq.extract .plain rfl rfl rfl ?_
      refine Sq.extract .plain rfl rfl rfl ?_
      refine Sq.alloc zero26 .plain rfl (fun b149 w150 e151 hB152 hlo153 => ?_)
      have hd154 := Nat.le_trans (Below.size E) hlo153
      have hd155 := Nat.lt_of_lt_of_le hB26.lt hlo153
      have hd156 := Nat.lt_of_lt_of_le hB33.lt hlo153
      have hs157 := Below.size e151
      replace E := E.trans e151
      replace hnX12 := hnX12.ext e151
      replace haX13 := haX13.ext e151
      replace hnY16 := hnY16.ext e151
      replace haY17 := haY17.ext e151
      replace hB26 := hB26.ext e151
      replace hB33 := hB33.ext e151
      replace hn145 := hn145.ext e151
      replace ha146 := ha146.ext e151
      refine Sq.storeAgg agg26 .plain rfl rfl (one_cons rfl (one_cons (Rows.one (OwnRows.rows hn145)) (one_cons (Row.one (Own.row ha146)) one_nil))) hB152 rfl rfl (fun w158 g159 hB160 => ?_)
      have hs161 := World.grownBy.size g159
      replace E := E.grown g159 (fun k hk => by injection hk with hk; subst hk; omega)
      replace hnX12 := hnX12.stored g159 hB152 (by decide) (by decide)
      replace haX13 := haX13.stored g159 hB152 (by decide)
      replace hnY16 := hnY16.stored g159 hB152 (by decide) (by decide)
      replace haY17 := haY17.stored g159 hB152 (by decide)
      replace hB26 := hB26.grown g159 (by intro h; injection h with h; omega)
      replace hB33 := hB33.grown g159 (by intro h; injection h with h; omega)
      replace hn145 := hn145.stored g159 hB152 (by decide) (by decide)
      replace ha146 := ha146.stored g159 hB152 (by decide)
      replace hB152 := hB160
      refine Sq.assign .plain rfl rfl ?_
      refine Sq.nil ?_
      refine Eq.next ?_
      refine Cq.seq ?_
      refine Cq.region ?_
      refine Sq.loadAgg agg26 .plain rfl rfl hB26 rfl ?_
      refine Sq.loadAgg agg26 .plain rfl rfl hB33 rfl ?_
      refine Sq.move .plain rfl rfl ?_
      refine Sq.call fn17 .plain rfl rfl (sProd_c_F _ aX8 aY9 _ _ _ _ hnX12 haX13 hnY16 haY17 k7 hC) ?_
      rintro _ w162 ⟨⟨_, rfl, nx164, ac165, rfl, hn166, ha167⟩, e163⟩
      have hs168 := Below.size E
      have hs169 := Below.size e163
      replace E := E.trans e163
      replace hnX12 := hnX12.ext e163
      replace haX13 := haX13.ext e163
      replace hnY16 := hnY16.ext e163
      replace haY17 := haY17.ext e163
      replace hB26 := hB26.ext e163
      replace hB33 := hB33.ext e163
      replace hn145 := hn145.ext e163
      replace ha146 := ha146.ext e163
      replace hB152 := hB152.ext e163
      refine Sq.move .plain rfl rfl ?_
      refine Sq.extract .plain rfl rfl rfl ?_
      refine Sq.extract .plain rfl rfl rfl ?_
      refine Sq.alloc zero26 .plain rfl (fun b170 w171 e172 hB173 hlo174 => ?_)
      have hd175 := Nat.le_trans (Below.size E) hlo174
      have hd176 := Nat.lt_of_lt_of_le hB26.lt hlo174
      have hd177 := Nat.lt_of_lt_of_le hB33.lt hlo174
      have hd178 := Nat.lt_of_lt_of_le hB152.lt hlo174
      have hs179 := Below.size e172
      replace E := E.trans e172
      replace hnX12 := hnX12.ext e172
      replace haX13 := haX13.ext e172
      replace hnY16 := hnY16.ext e172
      replace haY17 := haY17.ext e172
      replace hB26 := hB26.ext e172
      replace hB33 := hB33.ext e172
      replace hn145 := hn145.ext e172
      replace ha146 := ha146.ext e172
      replace hB152 := hB152.ext e172
      replace hn166 := hn166.ext e172
      replace ha167 := ha167.ext e172
      refine Sq.storeAgg agg26 .plain rfl rfl (one_cons rfl (one_cons (Rows.one (OwnRows.rows hn166)) (one_cons (Row.one (Own.row ha167)) one_nil))) hB173 rfl rfl (fun w180 g181 hB182 => ?_)
      have hs183 := World.grownBy.size g181
      replace E := E.grown g181 (fun k hk => by injection hk with hk; subst hk; omega)
      replace hnX12 := hnX12.stored g181 hB173 (by decide) (by decide)
      replace haX13 := haX13.stored g181 hB173 (by decide)
      replace hnY16 := hnY16.stored g181 hB173 (by decide) (by decide)
      replace haY17 := haY17.stored g181 hB173 (by decide)
      replace hB26 := hB26.grown g181 (by intro h; injection h with h; omega)
      replace hB33 := hB33.grown g181 (by intro h; injection h with h; omega)
      replace hn145 := hn145.stored g181 hB173 (by decide) (by decide)
      replace ha146 := ha146.stored g181 hB173 (by decide)
      replace hB152 := hB152.grown g181 (by intro h; injection h with h; omega)
      replace hn166 := hn166.stored g181 hB173 (by decide) (by decide)
      replace ha167 := ha167.stored g181 hB173 (by decide)
      replace hB173 := hB182
      refine Sq.assign .plain rfl rfl ?_
      refine Sq.nil ?_
      refine Eq.next ?_
      refine Cq.seq ?_
      refine Cq.seq ?_
      refine Cq.region ?_
      refine Sq.loadAgg agg26 .plain rfl rfl hB152 rfl ?_
      refine Sq.loadAgg agg26 .plain rfl rfl hB173 rfl ?_
      have hd187 := hB26.lt
      have hd188 := hB33.lt
      have hd189 := hB152.lt
      have hd190 := hB173.lt
      refine Sq.call fn18 .plain rfl rfl (agAutomata_c _ zeroA zeroA _ _ _ _ (OwnRows.rows hn145) (Own.row ha146) (OwnRows.rows hn166) (Own.row ha167) (by first | exact fit_zero | exact fit_of_valid (by first | assumption | exact extend_valid hv hk | exact compl_valid' (extend_valid hv hk) | exact prod_valid hC | exact prod_valid (prodOk_kind hC (by decide))) | assumption)) ?_
      rintro _ w185 ⟨rfl, e186⟩
      have hs191 := Below.size E
      have hs192 := Below.size e186
      replace E := E.trans e186
      replace hnX12 := hnX12.ext e186
      replace haX13 := haX13.ext e186
      replace hnY16 := hnY16.ext e186
      replace haY17 := haY17.ext e186
      replace hB26 := hB26.ext e186
      replace hB33 := hB33.ext e186
      replace hn145 := hn145.ext e186
      replace ha146 := ha146.ext e186
      replace hB152 := hB152.ext e186
      replace hn166 := hn166.ext e186
      replace ha167 := ha167.ext e186
      replace hB173 := hB173.ext e186
      refine Sq.beT (by exact eqA_refl _) ?_
      refine Sq.notT .plain rfl rfl ?_
      refine Sq.move .plain rfl rfl ?_
      refine Sq.move (.met rfl rfl rfl) rfl rfl ?_
      refine Sq.move (.met rfl rfl rfl) rfl rfl ?_
      refine Sq.neqB und4 (.met rfl rfl rfl) rfl rfl rfl ?_
      refine Sq.pickF .plain rfl rfl rfl ?_
      refine Sq.move .plain rfl rfl ?_
      refine Sq.move (.met rfl rfl rfl) rfl rfl ?_
      refine Sq.notF (.met rfl rfl rfl) rfl rfl ?_
      refine Sq.pickF .plain rfl rfl rfl ?_
      refine Sq.move .plain rfl rfl ?_
      refine Sq.off rfl rfl rfl rfl rfl rfl ?_
      refine Sq.off rfl rfl rfl rfl rfl rfl ?_
      refine Sq.pickT .plain rfl rfl rfl ?_
      refine Sq.nil ?_
      refine Eq.next ?_
      refine Cq.thn rfl ?_
      refine Cq.seq ?_
      refine Cq.region ?_
      refine Sq.loadAgg agg26 .plain rfl rfl hB152 rfl ?_
      refine Sq.loadAgg agg26 .plain rfl rfl hB173 rfl ?_
      have hd196 := hB26.lt
      have hd197 := hB33.lt
      have hd198 := hB152.lt
      have hd199 := hB173.lt
      refine Sq.call fn18 .plain rfl rfl (agAutomata_c _ zeroA zeroA _ _ _ _ (OwnRows.rows hn145) (Own.row ha146) (OwnRows.rows hn166) (Own.row ha167) (by first | exact fit_zero | exact fit_of_valid (by first | assumption | exact extend_valid hv hk | exact compl_valid' (extend_valid hv hk) | exact prod_valid hC | exact prod_valid (prodOk_kind hC (by decide))) | assumption)) ?_
      rintro _ w194 ⟨rfl, e195⟩
      have hs200 := Below.size E
      have hs201 := Below.size e195
      replace E := E.trans e195
      replace hnX12 := hnX12.ext e195
      replace haX13 := haX13.ext e195
      replace hnY16 := hnY16.ext e195
      replace haY17 := haY17.ext e195
      replace hB26 := hB26.ext e195
      replace hB33 := hB33.ext e195
      replace hn145 := hn145.ext e195
      replace ha146 := ha146.ext e195
      replace hB152 := hB152.ext e195
      replace hn166 := hn166.ext e195
      replace ha167 := ha167.ext e195
      replace hB173 := hB173.ext e195
      refine Sq.beT (by exact eqA_refl _) ?_
      refine Sq.move .plain rfl rfl ?_
      refine Sq.move (.met rfl rfl rfl) rfl rfl ?_
      refine Sq.move (.met rfl rfl rfl) rfl rfl ?_
      refine Sq.eqlB und4 (.met rfl rfl rfl) rfl rfl rfl ?_
      refine Sq.pickT .plain rfl rfl rfl ?_
      refine Sq.assign .plain rfl rfl ?_
      refine Sq.nil ?_
      refine Eq.next ?_
      refine Cq.ret ?_
      refine Eq.pastRet ?_
      refine Eq.ret1 rfl rfl ?_
      exact ⟨rfl, E⟩

set_option maxRecDepth 100000 in
theorem lProdStates (w0 : World) (e : TypeId) (a0 : Option Addr) (c0 : Nat) (cs : List UInt8) (hc : Bytes w0 e (.slice a0 cs.length c0) cs) (hcap : cs.length ≤ c0) : Ret Try.prog 4 #[Value.slice a0 cs.length c0] w0 (fun v w => v = .bool true ∧ Ext w0 w) := by
  have E := Ext.refl w0
  refine Ret.of (args := [Value.slice a0 cs.length c0]) Try.func4 rfl rfl rfl ?_
  rintro _ rfl
  show Cq _ _ _ _ [(0, Value.slice a0 cs.length c0)] _
  refine Cq.seq ?_
  refine Cq.region ?_
  refine Sq.assign .plain rfl rfl ?_
  refine Sq.nil ?_
  refine Eq.next ?_
  refine Cq.seq ?_
  refine Cq.seq ?_
  refine Cq.region ?_
  refine Sq.move .plain rfl rfl ?_
  refine Sq.lenBytes (hc.ext E) .plain rfl und22 rfl ?_
  refine Sq.gtr .plain rfl rfl rfl ?_
  refine Sq.part (fun c1 => ?_) (fun c1 => ?_)
  · refine Sq.nil ?_
    refine Eq.next ?_
    refine Cq.thn rfl ?_
    refine Cq.seq ?_
    refine Cq.region ?_
    refine Sq.assign .plain rfl rfl ?_
    refine Sq.nil ?_
    refine Eq.next ?_
    refine Cq.ret ?_
    refine Eq.pastRet ?_
    refine Eq.ret1 rfl rfl ?_
    exact ⟨rfl, E⟩
  · refine Sq.nil ?_
    refine Eq.next ?_
    refine Cq.els rfl ?_
    refine Cq.skip ?_
    refine Eq.next ?_
    refine Cq.seq ?_
    refine Cq.region ?_
    refine Sq.move .plain rfl rfl ?_
    refine Sq.call fn15 .plain rfl rfl (drawProd_c _ _ _ _ _ (hc.ext E) hcap) ?_
    rintro v2 w3 ⟨⟨u5, v6, k7, aX8, aY9, rfl, ⟨nxX10, acX11, rfl, hnX12, haX13⟩, ⟨nxY14, acY15, rfl, hnY16, haY17⟩, hsmX18, hsmY19, hk20⟩, e4⟩
    have hs21 := Below.size E
    have hs22 := Below.size e4
    replace E := E.trans e4
    refine Sq.move .plain rfl rfl ?_
    refine Sq.extract .plain rfl rfl rfl ?_
    refine Sq.extract .plain rfl rfl rfl ?_
    refine Sq.extract .plain rfl rfl rfl ?_
    refine Sq.alloc zero26 .plain rfl (fun b23 w24 e25 hB26 hlo27 => ?_)
    have hd28 := Nat.le_trans (Below.size E) hlo27
    have hs29 := Below.size e25
    replace E := E.trans e25
    replace hnX12 := hnX12.ext e25
    replace haX13 := haX13.ext e25
    replace hnY16 := hnY16.ext e25
    replace haY17 := haY17.ext e25
    refine Sq.alloc zero26 .plain rfl (fun b30 w31 e32 hB33 hlo34 => ?_)
    have hd35 := Nat.le_trans (Below.size E) hlo34
    have hd36 := Nat.lt_of_lt_of_le hB26.lt hlo34
    have hs37 := Below.size e32
    replace E := E.trans e32
    replace hnX12 := hnX12.ext e32
    replace haX13 := haX13.ext e32
    replace hnY16 := hnY16.ext e32
    replace haY17 := haY17.ext e32
    replace hB26 := hB26.ext e32
    refine Sq.storeAgg agg26 .plain rfl rfl (one_cons rfl (one_cons (Rows.one hnX12) (one_cons (Row.one haX13) one_nil))) hB26 rfl rfl (fun w38 g39 hB40 => ?_)
    have hs41 := World.grownBy.size g39
    replace E := E.grown g39 (fun k hk => by injection hk with hk; subst hk; omega)
    replace hnX12 := hnX12.stored g39 hB26 (by decide) (by decide)
    replace haX13 := haX13.stored g39 hB26 (by decide)
    replace hnY16 := hnY16.stored g39 hB26 (by decide) (by decide)
    replace haY17 := haY17.stored g39 hB26 (by decide)
    replace hB33 := hB33.grown g39 (by intro h; injection h with h; omega)
    replace hB26 := hB40
    refine Sq.storeAgg agg26 .plain rfl rfl (one_cons rfl (one_cons (Rows.one hnY16) (one_cons (Row.one haY17) one_nil))) hB33 rfl rfl (fun w42 g43 hB44 => ?_)
    have hs45 := World.grownBy.size g43
    replace E := E.grown g43 (fun k hk => by injection hk with hk; subst hk; omega)
    replace hnX12 := hnX12.stored g43 hB33 (by decide) (by decide)
    replace haX13 := haX13.stored g43 hB33 (by decide)
    replace hnY16 := hnY16.stored g43 hB33 (by decide) (by decide)
    replace haY17 := haY17.stored g43 hB33 (by decide)
    replace hB26 := hB26.grown g43 (by intro h; injection h with h; omega)
    replace hB33 := hB44
    refine Sq.assign .plain rfl rfl ?_
    refine Sq.nil ?_
    refine Eq.next ?_
    refine Cq.seq ?_
    refine Cq.region ?_
    refine Sq.loadAgg agg26 .plain rfl rfl hB26 rfl ?_
    refine Sq.loadAgg agg26 .plain rfl rfl hB33 rfl ?_
    refine Sq.move .plain rfl rfl ?_
    rcases Bool.eq_false_or_eq_true (prodOk aX8 aY9 k7) with hC | hC
    · obtain ⟨hv, hv', hk, hl12⟩ := prodOk_spec.1 hC
      refine Sq.call fn16 .plain rfl rfl (prod_c_T _ aX8 aY9 _ _ _ _ hnX12 haX13 hnY16 haY17 k7 hC) ?_
      rintro _ w46 ⟨⟨_, rfl, nx48, ac49, rfl, hn50, ha51⟩, e47⟩
      have hs52 := Below.size E
      have hs53 := Below.size e47
      replace E := E.trans e47
      replace hnX12 := hnX12.ext e47
      replace haX13 := haX13.ext e47
      replace hnY16 := hnY16.ext e47
      replace haY17 := haY17.ext e47
      replace hB26 := hB26.ext e47
      replace hB33 := hB33.ext e47
      refine Sq.move .plain rfl rfl ?_
      refine Sq.extract .plain rfl rfl rfl ?_
      refine Sq.extract .plain rfl rfl rfl ?_
      refine Sq.alloc zero26 .plain rfl (fun b54 w55 e56 hB57 hlo58 => ?_)
      have hd59 := Nat.le_trans (Below.size E) hlo58
      have hd60 := Nat.lt_of_lt_of_le hB26.lt hlo58
      have hd61 := Nat.lt_of_lt_of_le hB33.lt hlo58
      have hs62 := Below.size e56
      replace E := E.trans e56
      replace hnX12 := hnX12.ext e56
      replace haX13 := haX13.ext e56
      replace hnY16 := hnY16.ext e56
      replace haY17 := haY17.ext e56
      replace hB26 := hB26.ext e56
      replace hB33 := hB33.ext e56
      replace hn50 := hn50.ext e56
      replace ha51 := ha51.ext e56
      refine Sq.storeAgg agg26 .plain rfl rfl (one_cons rfl (one_cons (Rows.one (OwnRows.rows hn50)) (one_cons (Row.one (Own.row ha51)) one_nil))) hB57 rfl rfl (fun w63 g64 hB65 => ?_)
      have hs66 := World.grownBy.size g64
      replace E := E.grown g64 (fun k hk => by injection hk with hk; subst hk; omega)
      replace hnX12 := hnX12.stored g64 hB57 (by decide) (by decide)
      replace haX13 := haX13.stored g64 hB57 (by decide)
      replace hnY16 := hnY16.stored g64 hB57 (by decide) (by decide)
      replace haY17 := haY17.stored g64 hB57 (by decide)
      replace hB26 := hB26.grown g64 (by intro h; injection h with h; omega)
      replace hB33 := hB33.grown g64 (by intro h; injection h with h; omega)
      replace hn50 := hn50.stored g64 hB57 (by decide) (by decide)
      replace ha51 := ha51.stored g64 hB57 (by decide)
      replace hB57 := hB65
      refine Sq.assign .plain rfl rfl ?_
      refine Sq.nil ?_
      refine Eq.next ?_
      refine Cq.seq ?_
      refine Cq.region ?_
      refine Sq.loadAgg agg26 .plain rfl rfl hB26 rfl ?_
      refine Sq.loadAgg agg26 .plain rfl rfl hB33 rfl ?_
      refine Sq.move .plain rfl rfl ?_
      refine Sq.call fn17 .plain rfl rfl (sProd_c_T _ aX8 aY9 _ _ _ _ hnX12 haX13 hnY16 haY17 k7 hC) ?_
      rintro _ w67 ⟨⟨_, rfl, nx69, ac70, rfl, hn71, ha72⟩, e68⟩
      have hs73 := Below.size E
      have hs74 := Below.size e68
      replace E := E.trans e68
      replace hnX12 := hnX12.ext e68
      replace haX13 := haX13.ext e68
      replace hnY16 := hnY16.ext e68
      replace haY17 := haY17.ext e68
      replace hB26 := hB26.ext e68
      replace hB33 := hB33.ext e68
      replace hn50 := hn50.ext e68
      replace ha51 := ha51.ext e68
      replace hB57 := hB57.ext e68
      refine Sq.move .plain rfl rfl ?_
      refine Sq.extract .plain rfl rfl rfl ?_
      refine Sq.extract .plain rfl rfl rfl ?_
      refine Sq.alloc zero26 .plain rfl (fun b75 w76 e77 hB78 hlo79 => ?_)
      have hd80 := Nat.le_trans (Below.size E) hlo79
      have hd81 := Nat.lt_of_lt_of_le hB26.lt hlo79
      have hd82 := Nat.lt_of_lt_of_le hB33.lt hlo79
      have hd83 := Nat.lt_of_lt_of_le hB57.lt hlo79
      have hs84 := Below.size e77
      replace E := E.trans e77
      replace hnX12 := hnX12.ext e77
      replace haX13 := haX13.ext e77
      replace hnY16 := hnY16.ext e77
      replace haY17 := haY17.ext e77
      replace hB26 := hB26.ext e77
      replace hB33 := hB33.ext e77
      replace hn50 := hn50.ext e77
      replace ha51 := ha51.ext e77
      replace hB57 := hB57.ext e77
      replace hn71 := hn71.ext e77
      replace ha72 := ha72.ext e77
      refine Sq.storeAgg agg26 .plain rfl rfl (one_cons rfl (one_cons (Rows.one (OwnRows.rows hn71)) (one_cons (Row.one (Own.row ha72)) one_nil))) hB78 rfl rfl (fun w85 g86 hB87 => ?_)
      have hs88 := World.grownBy.size g86
      replace E := E.grown g86 (fun k hk => by injection hk with hk; subst hk; omega)
      replace hnX12 := hnX12.stored g86 hB78 (by decide) (by decide)
      replace haX13 := haX13.stored g86 hB78 (by decide)
      replace hnY16 := hnY16.stored g86 hB78 (by decide) (by decide)
      replace haY17 := haY17.stored g86 hB78 (by decide)
      replace hB26 := hB26.grown g86 (by intro h; injection h with h; omega)
      replace hB33 := hB33.grown g86 (by intro h; injection h with h; omega)
      replace hn50 := hn50.stored g86 hB78 (by decide) (by decide)
      replace ha51 := ha51.stored g86 hB78 (by decide)
      replace hB57 := hB57.grown g86 (by intro h; injection h with h; omega)
      replace hn71 := hn71.stored g86 hB78 (by decide) (by decide)
      replace ha72 := ha72.stored g86 hB78 (by decide)
      replace hB78 := hB87
      refine Sq.assign .plain rfl rfl ?_
      refine Sq.nil ?_
      refine Eq.next ?_
      refine Cq.seq ?_
      refine Cq.seq ?_
      refine Cq.region ?_
      refine Sq.loadAgg agg26 .plain rfl rfl hB57 rfl ?_
      refine Sq.loadAgg agg26 .plain rfl rfl hB78 rfl ?_
      have hd92 := hB26.lt
      have hd93 := hB33.lt
      have hd94 := hB57.lt
      have hd95 := hB78.lt
      refine Sq.call fn18 .plain rfl rfl (agAutomata_c _ (prodA aX8 aY9 k7) (prodA aX8 aY9 k7) _ _ _ _ (OwnRows.rows hn50) (Own.row ha51) (OwnRows.rows hn71) (Own.row ha72) (by first | exact fit_zero | exact fit_of_valid (by first | assumption | exact extend_valid hv hk | exact compl_valid' (extend_valid hv hk) | exact prod_valid hC | exact prod_valid (prodOk_kind hC (by decide))) | assumption)) ?_
      rintro _ w90 ⟨rfl, e91⟩
      have hs96 := Below.size E
      have hs97 := Below.size e91
      replace E := E.trans e91
      replace hnX12 := hnX12.ext e91
      replace haX13 := haX13.ext e91
      replace hnY16 := hnY16.ext e91
      replace haY17 := haY17.ext e91
      replace hB26 := hB26.ext e91
      replace hB33 := hB33.ext e91
      replace hn50 := hn50.ext e91
      replace ha51 := ha51.ext e91
      replace hB57 := hB57.ext e91
      replace hn71 := hn71.ext e91
      replace ha72 := ha72.ext e91
      replace hB78 := hB78.ext e91
      refine Sq.beT (by exact eqA_refl _) ?_
      refine Sq.notT .plain rfl rfl ?_
      refine Sq.move .plain rfl rfl ?_
      refine Sq.move (.met rfl rfl rfl) rfl rfl ?_
      refine Sq.move (.met rfl rfl rfl) rfl rfl ?_
      refine Sq.neqB und4 (.met rfl rfl rfl) rfl rfl rfl ?_
      refine Sq.pickF .plain rfl rfl rfl ?_
      refine Sq.move .plain rfl rfl ?_
      refine Sq.move (.met rfl rfl rfl) rfl rfl ?_
      refine Sq.notT (.met rfl rfl rfl) rfl rfl ?_
      refine Sq.pickF .plain rfl rfl rfl ?_
      refine Sq.nil ?_
      refine Eq.next ?_
      refine Cq.els rfl ?_
      refine Cq.skip ?_
      refine Eq.next ?_
      refine Cq.seq ?_
      refine Cq.region ?_
      refine Sq.loadAgg agg26 .plain rfl rfl hB57 rfl ?_
      refine Sq.call fn19 .plain rfl rfl (trimA_c_T _ (prodA aX8 aY9 k7) _ _ (OwnRows.rows hn50) (Own.row ha51) (by exact prod_valid hC)) ?_
      rintro _ w99 ⟨⟨_, rfl, nx101, ac102, rfl, hn103, ha104⟩, e100⟩
      have hs105 := Below.size E
      have hs106 := Below.size e100
      replace E := E.trans e100
      replace hnX12 := hnX12.ext e100
      replace haX13 := haX13.ext e100
      replace hnY16 := hnY16.ext e100
      replace haY17 := haY17.ext e100
      replace hB26 := hB26.ext e100
      replace hB33 := hB33.ext e100
      replace hn50 := hn50.ext e100
      replace ha51 := ha51.ext e100
      replace hB57 := hB57.ext e100
      replace hn71 := hn71.ext e100
      replace ha72 := ha72.ext e100
      replace hB78 := hB78.ext e100
      refine Sq.move .plain rfl rfl ?_
      refine Sq.extract .plain rfl rfl rfl ?_
      refine Sq.extract .plain rfl rfl rfl ?_
      refine Sq.alloc zero26 .plain rfl (fun b107 w108 e109 hB110 hlo111 => ?_)
      have hd112 := Nat.le_trans (Below.size E) hlo111
      have hd113 := Nat.lt_of_lt_of_le hB26.lt hlo111
      have hd114 := Nat.lt_of_lt_of_le hB33.lt hlo111
      have hd115 := Nat.lt_of_lt_of_le hB57.lt hlo111
      have hd116 := Nat.lt_of_lt_of_le hB78.lt hlo111
      have hs117 := Below.size e109
      replace E := E.trans e109
      replace hnX12 := hnX12.ext e109
      replace haX13 := haX13.ext e109
      replace hnY16 := hnY16.ext e109
      replace haY17 := haY17.ext e109
      replace hB26 := hB26.ext e109
      replace hB33 := hB33.ext e109
      replace hn50 := hn50.ext e109
      replace ha51 := ha51.ext e109
      replace hB57 := hB57.ext e109
      replace hn71 := hn71.ext e109
      replace ha72 := ha72.ext e109
      replace hB78 := hB78.ext e109
      replace hn103 := hn103.ext e109
      replace ha104 := ha104.ext e109
      refine Sq.storeAgg agg26 .plain rfl rfl (one_cons rfl (one_cons (Rows.one (OwnRows.rows hn103)) (one_cons (Row.one (Own.row ha104)) one_nil))) hB110 rfl rfl (fun w118 g119 hB120 => ?_)
      have hs121 := World.grownBy.size g119
      replace E := E.grown g119 (fun k hk => by injection hk with hk; subst hk; omega)
      replace hnX12 := hnX12.stored g119 hB110 (by decide) (by decide)
      replace haX13 := haX13.stored g119 hB110 (by decide)
      replace hnY16 := hnY16.stored g119 hB110 (by decide) (by decide)
      replace haY17 := haY17.stored g119 hB110 (by decide)
      replace hB26 := hB26.grown g119 (by intro h; injection h with h; omega)
      replace hB33 := hB33.grown g119 (by intro h; injection h with h; omega)
      replace hn50 := hn50.stored g119 hB110 (by decide) (by decide)
      replace ha51 := ha51.stored g119 hB110 (by decide)
      replace hB57 := hB57.grown g119 (by intro h; injection h with h; omega)
      replace hn71 := hn71.stored g119 hB110 (by decide) (by decide)
      replace ha72 := ha72.stored g119 hB110 (by decide)
      replace hB78 := hB78.grown g119 (by intro h; injection h with h; omega)
      replace hn103 := hn103.stored g119 hB110 (by decide) (by decide)
      replace ha104 := ha104.stored g119 hB110 (by decide)
      replace hB110 := hB120
      refine Sq.assign .plain rfl rfl ?_
      refine Sq.nil ?_
      refine Eq.next ?_
      refine Cq.seq ?_
      refine Cq.region ?_
      refine Sq.move .plain rfl rfl ?_
      refine Sq.move .plain rfl rfl ?_
      refine Sq.loadAgg agg26 (.met rfl rfl rfl) rfl rfl hB57 rfl ?_
      refine Sq.loadAgg agg26 (.met rfl rfl rfl) rfl rfl hB110 rfl ?_
      have hd125 := hB26.lt
      have hd126 := hB33.lt
      have hd127 := hB57.lt
      have hd128 := hB78.lt
      have hd129 := hB110.lt
      refine Sq.call fn18 (.met rfl rfl rfl) rfl rfl (agAutomata_c _ (prodA aX8 aY9 k7) ((trim (prodA aX8 aY9 k7))) _ _ _ _ (OwnRows.rows hn50) (Own.row ha51) (OwnRows.rows hn103) (Own.row ha104) (by first | exact fit_zero | exact fit_of_valid (by first | assumption | exact extend_valid hv hk | exact compl_valid' (extend_valid hv hk) | exact prod_valid hC | exact prod_valid (prodOk_kind hC (by decide))) | assumption)) ?_
      rintro _ w123 ⟨rfl, e124⟩
      have hs130 := Below.size E
      have hs131 := Below.size e124
      replace E := E.trans e124
      replace hnX12 := hnX12.ext e124
      replace haX13 := haX13.ext e124
      replace hnY16 := hnY16.ext e124
      replace haY17 := haY17.ext e124
      replace hB26 := hB26.ext e124
      replace hB33 := hB33.ext e124
      replace hn50 := hn50.ext e124
      replace ha51 := ha51.ext e124
      replace hB57 := hB57.ext e124
      replace hn71 := hn71.ext e124
      replace ha72 := ha72.ext e124
      replace hB78 := hB78.ext e124
      replace hn103 := hn103.ext e124
      replace ha104 := ha104.ext e124
      replace hB110 := hB110.ext e124
      refine Sq.beT (by rw [prod_trim hC]; exact eqA_refl _) ?_
      refine Sq.pickT .plain rfl rfl rfl ?_
      refine Sq.move .plain rfl rfl ?_
      refine Sq.fieldAddr fld26_0 (.met rfl rfl rfl) rfl rfl ?_
      refine Sq.loadB one3 (.met rfl rfl rfl) rfl rfl hB57 rfl ?_
      refine Sq.fieldAddr fld26_0 (.met rfl rfl rfl) rfl rfl ?_
      refine Sq.loadB one3 (.met rfl rfl rfl) rfl rfl hB26 rfl ?_
      refine Sq.fieldAddr fld26_0 (.met rfl rfl rfl) rfl rfl ?_
      refine Sq.loadB one3 (.met rfl rfl rfl) rfl rfl hB33 rfl ?_
      refine Sq.or (.met rfl rfl rfl) rfl rfl rfl (by have := (validA_spec.1 hv).1; have := (validA_spec.1 hv').1; omega) ?_
      refine Sq.eql (.met rfl rfl rfl) rfl rfl rfl ?_
      refine Sq.isT (rfl) ?_
      refine Sq.pickT .plain rfl rfl rfl ?_
      refine Sq.move .plain rfl rfl ?_
      refine Sq.fieldAddr fld26_1 (.met rfl rfl rfl) rfl rfl ?_
      refine Sq.loadB one23 (.met rfl rfl rfl) rfl rfl hB57 rfl ?_
      refine Sq.lenRows (OwnRows.rows hn50) (.met rfl rfl rfl) rfl und23 rfl ?_
      refine Sq.fieldAddr fld26_1 (.met rfl rfl rfl) rfl rfl ?_
      refine Sq.loadB one23 (.met rfl rfl rfl) rfl rfl hB26 rfl ?_
      refine Sq.lenRows hnX12 (.met rfl rfl rfl) rfl und23 rfl ?_
      refine Sq.fieldAddr fld26_1 (.met rfl rfl rfl) rfl rfl ?_
      refine Sq.loadB one23 (.met rfl rfl rfl) rfl rfl hB33 rfl ?_
      refine Sq.lenRows hnY16 (.met rfl rfl rfl) rfl und23 rfl ?_
      refine Sq.mul (.met rfl rfl rfl) rfl rfl rfl (mul144 hv hv') ?_
      refine Sq.leq (.met rfl rfl rfl) rfl rfl rfl ?_
      refine Sq.isT (prod_statesI hC) ?_
      refine Sq.pickT .plain rfl rfl rfl ?_
      refine Sq.assign .plain rfl rfl ?_
      refine Sq.nil ?_
      refine Eq.next ?_
      refine Cq.ret ?_
      refine Eq.ret1 rfl rfl ?_
      exact ⟨rfl, E⟩
    · refine Sq.call fn16 .plain rfl rfl (prod_c_F _ aX8 aY9 _ _ _ _ hnX12 haX13 hnY16 haY17 k7 hC) ?_
      rintro _ w132 ⟨⟨_, rfl, nx134, ac135, rfl, hn136, ha137⟩, e133⟩
      have hs138 := Below.size E
      have hs139 := Below.size e133
      replace E := E.trans e133
      replace hnX12 := hnX12.ext e133
      replace haX13 := haX13.ext e133
      replace hnY16 := hnY16.ext e133
      replace haY17 := haY17.ext e133
      replace hB26 := hB26.ext e133
      replace hB33 := hB33.ext e133
      refine Sq.move .plain rfl rfl ?_
      refine Sq.extract .plain rfl rfl rfl ?_
      refine Sq.extract .plain rfl rfl rfl ?_
      refine Sq.alloc zero26 .plain rfl (fun b140 w141 e142 hB143 hlo144 => ?_)
      have hd145 := Nat.le_trans (Below.size E) hlo144
      have hd146 := Nat.lt_of_lt_of_le hB26.lt hlo144
      have hd147 := Nat.lt_of_lt_of_le hB33.lt hlo144
      have hs148 := Below.size e142
      replace E := E.trans e142
      replace hnX12 := hnX12.ext e142
      replace haX13 := haX13.ext e142
      replace hnY16 := hnY16.ext e142
      replace haY17 := haY17.ext e142
      replace hB26 := hB26.ext e142
      replace hB33 := hB33.ext e142
      replace hn136 := hn136.ext e142
      replace ha137 := ha137.ext e142
      refine Sq.storeAgg agg26 .plain rfl rfl (one_cons rfl (one_cons (Rows.one (OwnRows.rows hn136)) (one_cons (Row.one (Own.row ha137)) one_nil))) hB143 rfl rfl (fun w149 g150 hB151 => ?_)
      have hs152 := World.grownBy.size g150
      replace E := E.grown g150 (fun k hk => by injection hk with hk; subst hk; omega)
      replace hnX12 := hnX12.stored g150 hB143 (by decide) (by decide)
      replace haX13 := haX13.stored g150 hB143 (by decide)
      replace hnY16 := hnY16.stored g150 hB143 (by decide) (by decide)
      replace haY17 := haY17.stored g150 hB143 (by decide)
      replace hB26 := hB26.grown g150 (by intro h; injection h with h; omega)
      replace hB33 := hB33.grown g150 (by intro h; injection h with h; omega)
      replace hn136 := hn136.stored g150 hB143 (by decide) (by decide)
      replace ha137 := ha137.stored g150 hB143 (by decide)
      replace hB143 := hB151
      refine Sq.assign .plain rfl rfl ?_
      refine Sq.nil ?_
      refine Eq.next ?_
      refine Cq.seq ?_
      refine Cq.region ?_
      refine Sq.loadAgg agg26 .plain rfl rfl hB26 rfl ?_
      refine Sq.loadAgg agg26 .plain rfl rfl hB33 rfl ?_
      refine Sq.move .plain rfl rfl ?_
      refine Sq.call fn17 .plain rfl rfl (sProd_c_F _ aX8 aY9 _ _ _ _ hnX12 haX13 hnY16 haY17 k7 hC) ?_
      rintro _ w153 ⟨⟨_, rfl, nx155, ac156, rfl, hn157, ha158⟩, e154⟩
      have hs159 := Below.size E
      have hs160 := Below.size e154
      replace E := E.trans e154
      replace hnX12 := hnX12.ext e154
      replace haX13 := haX13.ext e154
      replace hnY16 := hnY16.ext e154
      replace haY17 := haY17.ext e154
      replace hB26 := hB26.ext e154
      replace hB33 := hB33.ext e154
      replace hn136 := hn136.ext e154
      replace ha137 := ha137.ext e154
      replace hB143 := hB143.ext e154
      refine Sq.move .plain rfl rfl ?_
      refine Sq.extract .plain rfl rfl rfl ?_
      refine Sq.extract .plain rfl rfl rfl ?_
      refine Sq.alloc zero26 .plain rfl (fun b161 w162 e163 hB164 hlo165 => ?_)
      have hd166 := Nat.le_trans (Below.size E) hlo165
      have hd167 := Nat.lt_of_lt_of_le hB26.lt hlo165
      have hd168 := Nat.lt_of_lt_of_le hB33.lt hlo165
      have hd169 := Nat.lt_of_lt_of_le hB143.lt hlo165
      have hs170 := Below.size e163
      replace E := E.trans e163
      replace hnX12 := hnX12.ext e163
      replace haX13 := haX13.ext e163
      replace hnY16 := hnY16.ext e163
      replace haY17 := haY17.ext e163
      replace hB26 := hB26.ext e163
      replace hB33 := hB33.ext e163
      replace hn136 := hn136.ext e163
      replace ha137 := ha137.ext e163
      replace hB143 := hB143.ext e163
      replace hn157 := hn157.ext e163
      replace ha158 := ha158.ext e163
      refine Sq.storeAgg agg26 .plain rfl rfl (one_cons rfl (one_cons (Rows.one (OwnRows.rows hn157)) (one_cons (Row.one (Own.row ha158)) one_nil))) hB164 rfl rfl (fun w171 g172 hB173 => ?_)
      have hs174 := World.grownBy.size g172
      replace E := E.grown g172 (fun k hk => by injection hk with hk; subst hk; omega)
      replace hnX12 := hnX12.stored g172 hB164 (by decide) (by decide)
      replace haX13 := haX13.stored g172 hB164 (by decide)
      replace hnY16 := hnY16.stored g172 hB164 (by decide) (by decide)
      replace haY17 := haY17.stored g172 hB164 (by decide)
      replace hB26 := hB26.grown g172 (by intro h; injection h with h; omega)
      replace hB33 := hB33.grown g172 (by intro h; injection h with h; omega)
      replace hn136 := hn136.stored g172 hB164 (by decide) (by decide)
      replace ha137 := ha137.stored g172 hB164 (by decide)
      replace hB143 := hB143.grown g172 (by intro h; injection h with h; omega)
      replace hn157 := hn157.stored g172 hB164 (by decide) (by decide)
      replace ha158 := ha158.stored g172 hB164 (by decide)
      replace hB164 := hB173
      refine Sq.assign .plain rfl rfl ?_
      refine Sq.nil ?_
      refine Eq.next ?_
      refine Cq.seq ?_
      refine Cq.seq ?_
      refine Cq.region ?_
      refine Sq.loadAgg agg26 .plain rfl rfl hB143 rfl ?_
      refine Sq.loadAgg agg26 .plain rfl rfl hB164 rfl ?_
      have hd178 := hB26.lt
      have hd179 := hB33.lt
      have hd180 := hB143.lt
      have hd181 := hB164.lt
      refine Sq.call fn18 .plain rfl rfl (agAutomata_c _ zeroA zeroA _ _ _ _ (OwnRows.rows hn136) (Own.row ha137) (OwnRows.rows hn157) (Own.row ha158) (by first | exact fit_zero | exact fit_of_valid (by first | assumption | exact extend_valid hv hk | exact compl_valid' (extend_valid hv hk) | exact prod_valid hC | exact prod_valid (prodOk_kind hC (by decide))) | assumption)) ?_
      rintro _ w176 ⟨rfl, e177⟩
      have hs182 := Below.size E
      have hs183 := Below.size e177
      replace E := E.trans e177
      replace hnX12 := hnX12.ext e177
      replace haX13 := haX13.ext e177
      replace hnY16 := hnY16.ext e177
      replace haY17 := haY17.ext e177
      replace hB26 := hB26.ext e177
      replace hB33 := hB33.ext e177
      replace hn136 := hn136.ext e177
      replace ha137 := ha137.ext e177
      replace hB143 := hB143.ext e177
      replace hn157 := hn157.ext e177
      replace ha158 := ha158.ext e177
      replace hB164 := hB164.ext e177
      refine Sq.beT (by exact eqA_refl _) ?_
      refine Sq.notT .plain rfl rfl ?_
      refine Sq.move .plain rfl rfl ?_
      refine Sq.move (.met rfl rfl rfl) rfl rfl ?_
      refine Sq.move (.met rfl rfl rfl) rfl rfl ?_
      refine Sq.neqB und4 (.met rfl rfl rfl) rfl rfl rfl ?_
      refine Sq.pickF .plain rfl rfl rfl ?_
      refine Sq.move .plain rfl rfl ?_
      refine Sq.move (.met rfl rfl rfl) rfl rfl ?_
      refine Sq.notF (.met rfl rfl rfl) rfl rfl ?_
      refine Sq.pickF .plain rfl rfl rfl ?_
      refine Sq.nil ?_
      refine Eq.next ?_
      refine Cq.thn rfl ?_
      refine Cq.seq ?_
      refine Cq.region ?_
      refine Sq.loadAgg agg26 .plain rfl rfl hB143 rfl ?_
      refine Sq.loadAgg agg26 .plain rfl rfl hB164 rfl ?_
      have hd187 := hB26.lt
      have hd188 := hB33.lt
      have hd189 := hB143.lt
      have hd190 := hB164.lt
      refine Sq.call fn18 .plain rfl rfl (agAutomata_c _ zeroA zeroA _ _ _ _ (OwnRows.rows hn136) (Own.row ha137) (OwnRows.rows hn157) (Own.row ha158) (by first | exact fit_zero | exact fit_of_valid (by first | assumption | exact extend_valid hv hk | exact compl_valid' (extend_valid hv hk) | exact prod_valid hC | exact prod_valid (prodOk_kind hC (by decide))) | assumption)) ?_
      rintro _ w185 ⟨rfl, e186⟩
      have hs191 := Below.size E
      have hs192 := Below.size e186
      replace E := E.trans e186
      replace hnX12 := hnX12.ext e186
      replace haX13 := haX13.ext e186
      replace hnY16 := hnY16.ext e186
      replace haY17 := haY17.ext e186
      replace hB26 := hB26.ext e186
      replace hB33 := hB33.ext e186
      replace hn136 := hn136.ext e186
      replace ha137 := ha137.ext e186
      replace hB143 := hB143.ext e186
      replace hn157 := hn157.ext e186
      replace ha158 := ha158.ext e186
      replace hB164 := hB164.ext e186
      refine Sq.beT (by exact eqA_refl _) ?_
      refine Sq.move .plain rfl rfl ?_
      refine Sq.move (.met rfl rfl rfl) rfl rfl ?_
      refine Sq.move (.met rfl rfl rfl) rfl rfl ?_
      refine Sq.eqlB und4 (.met rfl rfl rfl) rfl rfl rfl ?_
      refine Sq.pickT .plain rfl rfl rfl ?_
      refine Sq.assign .plain rfl rfl ?_
      refine Sq.nil ?_
      refine Eq.next ?_
      refine Cq.ret ?_
      refine Eq.pastRet ?_
      refine Eq.ret1 rfl rfl ?_
      exact ⟨rfl, E⟩

set_option maxRecDepth 100000 in
theorem lProdExtend (w0 : World) (e : TypeId) (a0 : Option Addr) (c0 : Nat) (cs : List UInt8) (hc : Bytes w0 e (.slice a0 cs.length c0) cs) (hcap : cs.length ≤ c0) : Ret Try.prog 5 #[Value.slice a0 cs.length c0] w0 (fun v w => v = .bool true ∧ Ext w0 w) := by
  have E := Ext.refl w0
  refine Ret.of (args := [Value.slice a0 cs.length c0]) Try.func5 rfl rfl rfl ?_
  rintro _ rfl
  show Cq _ _ _ _ [(0, Value.slice a0 cs.length c0)] _
  refine Cq.seq ?_
  refine Cq.region ?_
  refine Sq.assign .plain rfl rfl ?_
  refine Sq.nil ?_
  refine Eq.next ?_
  refine Cq.seq ?_
  refine Cq.seq ?_
  refine Cq.region ?_
  refine Sq.move .plain rfl rfl ?_
  refine Sq.lenBytes (hc.ext E) .plain rfl und22 rfl ?_
  refine Sq.gtr .plain rfl rfl rfl ?_
  refine Sq.part (fun c1 => ?_) (fun c1 => ?_)
  · refine Sq.nil ?_
    refine Eq.next ?_
    refine Cq.thn rfl ?_
    refine Cq.seq ?_
    refine Cq.region ?_
    refine Sq.assign .plain rfl rfl ?_
    refine Sq.nil ?_
    refine Eq.next ?_
    refine Cq.ret ?_
    refine Eq.pastRet ?_
    refine Eq.ret1 rfl rfl ?_
    exact ⟨rfl, E⟩
  · refine Sq.nil ?_
    refine Eq.next ?_
    refine Cq.els rfl ?_
    refine Cq.skip ?_
    refine Eq.next ?_
    refine Cq.seq ?_
    refine Cq.region ?_
    refine Sq.move .plain rfl rfl ?_
    refine Sq.call fn15 .plain rfl rfl (drawProd_c _ _ _ _ _ (hc.ext E) hcap) ?_
    rintro v2 w3 ⟨⟨u5, v6, k7, aX8, aY9, rfl, ⟨nxX10, acX11, rfl, hnX12, haX13⟩, ⟨nxY14, acY15, rfl, hnY16, haY17⟩, hsmX18, hsmY19, hk20⟩, e4⟩
    have hs21 := Below.size E
    have hs22 := Below.size e4
    replace E := E.trans e4
    refine Sq.move .plain rfl rfl ?_
    refine Sq.extract .plain rfl rfl rfl ?_
    refine Sq.extract .plain rfl rfl rfl ?_
    refine Sq.extract .plain rfl rfl rfl ?_
    refine Sq.alloc zero26 .plain rfl (fun b23 w24 e25 hB26 hlo27 => ?_)
    have hd28 := Nat.le_trans (Below.size E) hlo27
    have hs29 := Below.size e25
    replace E := E.trans e25
    replace hnX12 := hnX12.ext e25
    replace haX13 := haX13.ext e25
    replace hnY16 := hnY16.ext e25
    replace haY17 := haY17.ext e25
    refine Sq.alloc zero26 .plain rfl (fun b30 w31 e32 hB33 hlo34 => ?_)
    have hd35 := Nat.le_trans (Below.size E) hlo34
    have hd36 := Nat.lt_of_lt_of_le hB26.lt hlo34
    have hs37 := Below.size e32
    replace E := E.trans e32
    replace hnX12 := hnX12.ext e32
    replace haX13 := haX13.ext e32
    replace hnY16 := hnY16.ext e32
    replace haY17 := haY17.ext e32
    replace hB26 := hB26.ext e32
    refine Sq.storeAgg agg26 .plain rfl rfl (one_cons rfl (one_cons (Rows.one hnX12) (one_cons (Row.one haX13) one_nil))) hB26 rfl rfl (fun w38 g39 hB40 => ?_)
    have hs41 := World.grownBy.size g39
    replace E := E.grown g39 (fun k hk => by injection hk with hk; subst hk; omega)
    replace hnX12 := hnX12.stored g39 hB26 (by decide) (by decide)
    replace haX13 := haX13.stored g39 hB26 (by decide)
    replace hnY16 := hnY16.stored g39 hB26 (by decide) (by decide)
    replace haY17 := haY17.stored g39 hB26 (by decide)
    replace hB33 := hB33.grown g39 (by intro h; injection h with h; omega)
    replace hB26 := hB40
    refine Sq.storeAgg agg26 .plain rfl rfl (one_cons rfl (one_cons (Rows.one hnY16) (one_cons (Row.one haY17) one_nil))) hB33 rfl rfl (fun w42 g43 hB44 => ?_)
    have hs45 := World.grownBy.size g43
    replace E := E.grown g43 (fun k hk => by injection hk with hk; subst hk; omega)
    replace hnX12 := hnX12.stored g43 hB33 (by decide) (by decide)
    replace haX13 := haX13.stored g43 hB33 (by decide)
    replace hnY16 := hnY16.stored g43 hB33 (by decide) (by decide)
    replace haY17 := haY17.stored g43 hB33 (by decide)
    replace hB26 := hB26.grown g43 (by intro h; injection h with h; omega)
    replace hB33 := hB44
    refine Sq.assign .plain rfl rfl ?_
    refine Sq.nil ?_
    refine Eq.next ?_
    refine Cq.seq ?_
    refine Cq.region ?_
    refine Sq.loadAgg agg26 .plain rfl rfl hB26 rfl ?_
    refine Sq.loadAgg agg26 .plain rfl rfl hB33 rfl ?_
    refine Sq.move .plain rfl rfl ?_
    rcases Bool.eq_false_or_eq_true (prodOk aX8 aY9 k7) with hC | hC
    · obtain ⟨hv, hv', hk, hl12⟩ := prodOk_spec.1 hC
      refine Sq.call fn16 .plain rfl rfl (prod_c_T _ aX8 aY9 _ _ _ _ hnX12 haX13 hnY16 haY17 k7 hC) ?_
      rintro _ w46 ⟨⟨_, rfl, nx48, ac49, rfl, hn50, ha51⟩, e47⟩
      have hs52 := Below.size E
      have hs53 := Below.size e47
      replace E := E.trans e47
      replace hnX12 := hnX12.ext e47
      replace haX13 := haX13.ext e47
      replace hnY16 := hnY16.ext e47
      replace haY17 := haY17.ext e47
      replace hB26 := hB26.ext e47
      replace hB33 := hB33.ext e47
      refine Sq.move .plain rfl rfl ?_
      refine Sq.extract .plain rfl rfl rfl ?_
      refine Sq.extract .plain rfl rfl rfl ?_
      refine Sq.alloc zero26 .plain rfl (fun b54 w55 e56 hB57 hlo58 => ?_)
      have hd59 := Nat.le_trans (Below.size E) hlo58
      have hd60 := Nat.lt_of_lt_of_le hB26.lt hlo58
      have hd61 := Nat.lt_of_lt_of_le hB33.lt hlo58
      have hs62 := Below.size e56
      replace E := E.trans e56
      replace hnX12 := hnX12.ext e56
      replace haX13 := haX13.ext e56
      replace hnY16 := hnY16.ext e56
      replace haY17 := haY17.ext e56
      replace hB26 := hB26.ext e56
      replace hB33 := hB33.ext e56
      replace hn50 := hn50.ext e56
      replace ha51 := ha51.ext e56
      refine Sq.storeAgg agg26 .plain rfl rfl (one_cons rfl (one_cons (Rows.one (OwnRows.rows hn50)) (one_cons (Row.one (Own.row ha51)) one_nil))) hB57 rfl rfl (fun w63 g64 hB65 => ?_)
      have hs66 := World.grownBy.size g64
      replace E := E.grown g64 (fun k hk => by injection hk with hk; subst hk; omega)
      replace hnX12 := hnX12.stored g64 hB57 (by decide) (by decide)
      replace haX13 := haX13.stored g64 hB57 (by decide)
      replace hnY16 := hnY16.stored g64 hB57 (by decide) (by decide)
      replace haY17 := haY17.stored g64 hB57 (by decide)
      replace hB26 := hB26.grown g64 (by intro h; injection h with h; omega)
      replace hB33 := hB33.grown g64 (by intro h; injection h with h; omega)
      replace hn50 := hn50.stored g64 hB57 (by decide) (by decide)
      replace ha51 := ha51.stored g64 hB57 (by decide)
      replace hB57 := hB65
      refine Sq.assign .plain rfl rfl ?_
      refine Sq.nil ?_
      refine Eq.next ?_
      refine Cq.seq ?_
      refine Cq.region ?_
      refine Sq.loadAgg agg26 .plain rfl rfl hB26 rfl ?_
      refine Sq.loadAgg agg26 .plain rfl rfl hB33 rfl ?_
      refine Sq.move .plain rfl rfl ?_
      refine Sq.call fn17 .plain rfl rfl (sProd_c_T _ aX8 aY9 _ _ _ _ hnX12 haX13 hnY16 haY17 k7 hC) ?_
      rintro _ w67 ⟨⟨_, rfl, nx69, ac70, rfl, hn71, ha72⟩, e68⟩
      have hs73 := Below.size E
      have hs74 := Below.size e68
      replace E := E.trans e68
      replace hnX12 := hnX12.ext e68
      replace haX13 := haX13.ext e68
      replace hnY16 := hnY16.ext e68
      replace haY17 := haY17.ext e68
      replace hB26 := hB26.ext e68
      replace hB33 := hB33.ext e68
      replace hn50 := hn50.ext e68
      replace ha51 := ha51.ext e68
      replace hB57 := hB57.ext e68
      refine Sq.move .plain rfl rfl ?_
      refine Sq.extract .plain rfl rfl rfl ?_
      refine Sq.extract .plain rfl rfl rfl ?_
      refine Sq.alloc zero26 .plain rfl (fun b75 w76 e77 hB78 hlo79 => ?_)
      have hd80 := Nat.le_trans (Below.size E) hlo79
      have hd81 := Nat.lt_of_lt_of_le hB26.lt hlo79
      have hd82 := Nat.lt_of_lt_of_le hB33.lt hlo79
      have hd83 := Nat.lt_of_lt_of_le hB57.lt hlo79
      have hs84 := Below.size e77
      replace E := E.trans e77
      replace hnX12 := hnX12.ext e77
      replace haX13 := haX13.ext e77
      replace hnY16 := hnY16.ext e77
      replace haY17 := haY17.ext e77
      replace hB26 := hB26.ext e77
      replace hB33 := hB33.ext e77
      replace hn50 := hn50.ext e77
      replace ha51 := ha51.ext e77
      replace hB57 := hB57.ext e77
      replace hn71 := hn71.ext e77
      replace ha72 := ha72.ext e77
      refine Sq.storeAgg agg26 .plain rfl rfl (one_cons rfl (one_cons (Rows.one (OwnRows.rows hn71)) (one_cons (Row.one (Own.row ha72)) one_nil))) hB78 rfl rfl (fun w85 g86 hB87 => ?_)
      have hs88 := World.grownBy.size g86
      replace E := E.grown g86 (fun k hk => by injection hk with hk; subst hk; omega)
      replace hnX12 := hnX12.stored g86 hB78 (by decide) (by decide)
      replace haX13 := haX13.stored g86 hB78 (by decide)
      replace hnY16 := hnY16.stored g86 hB78 (by decide) (by decide)
      replace haY17 := haY17.stored g86 hB78 (by decide)
      replace hB26 := hB26.grown g86 (by intro h; injection h with h; omega)
      replace hB33 := hB33.grown g86 (by intro h; injection h with h; omega)
      replace hn50 := hn50.stored g86 hB78 (by decide) (by decide)
      replace ha51 := ha51.stored g86 hB78 (by decide)
      replace hB57 := hB57.grown g86 (by intro h; injection h with h; omega)
      replace hn71 := hn71.stored g86 hB78 (by decide) (by decide)
      replace ha72 := ha72.stored g86 hB78 (by decide)
      replace hB78 := hB87
      refine Sq.assign .plain rfl rfl ?_
      refine Sq.nil ?_
      refine Eq.next ?_
      refine Cq.seq ?_
      refine Cq.seq ?_
      refine Cq.region ?_
      refine Sq.loadAgg agg26 .plain rfl rfl hB57 rfl ?_
      refine Sq.loadAgg agg26 .plain rfl rfl hB78 rfl ?_
      have hd92 := hB26.lt
      have hd93 := hB33.lt
      have hd94 := hB57.lt
      have hd95 := hB78.lt
      refine Sq.call fn18 .plain rfl rfl (agAutomata_c _ (prodA aX8 aY9 k7) (prodA aX8 aY9 k7) _ _ _ _ (OwnRows.rows hn50) (Own.row ha51) (OwnRows.rows hn71) (Own.row ha72) (by first | exact fit_zero | exact fit_of_valid (by first | assumption | exact extend_valid hv hk | exact compl_valid' (extend_valid hv hk) | exact prod_valid hC | exact prod_valid (prodOk_kind hC (by decide))) | assumption)) ?_
      rintro _ w90 ⟨rfl, e91⟩
      have hs96 := Below.size E
      have hs97 := Below.size e91
      replace E := E.trans e91
      replace hnX12 := hnX12.ext e91
      replace haX13 := haX13.ext e91
      replace hnY16 := hnY16.ext e91
      replace haY17 := haY17.ext e91
      replace hB26 := hB26.ext e91
      replace hB33 := hB33.ext e91
      replace hn50 := hn50.ext e91
      replace ha51 := ha51.ext e91
      replace hB57 := hB57.ext e91
      replace hn71 := hn71.ext e91
      replace ha72 := ha72.ext e91
      replace hB78 := hB78.ext e91
      refine Sq.beT (by exact eqA_refl _) ?_
      refine Sq.notT .plain rfl rfl ?_
      refine Sq.move .plain rfl rfl ?_
      refine Sq.move (.met rfl rfl rfl) rfl rfl ?_
      refine Sq.move (.met rfl rfl rfl) rfl rfl ?_
      refine Sq.neqB und4 (.met rfl rfl rfl) rfl rfl rfl ?_
      refine Sq.pickF .plain rfl rfl rfl ?_
      refine Sq.move .plain rfl rfl ?_
      refine Sq.move (.met rfl rfl rfl) rfl rfl ?_
      refine Sq.notT (.met rfl rfl rfl) rfl rfl ?_
      refine Sq.pickF .plain rfl rfl rfl ?_
      refine Sq.nil ?_
      refine Eq.next ?_
      refine Cq.els rfl ?_
      refine Cq.skip ?_
      refine Eq.next ?_
      refine Cq.seq ?_
      refine Cq.region ?_
      refine Sq.loadAgg agg26 .plain rfl rfl hB26 rfl ?_
      refine Sq.fieldAddr fld26_0 .plain rfl rfl ?_
      refine Sq.loadB one3 .plain rfl rfl hB33 rfl ?_
      refine Sq.call fn20 .plain rfl rfl (extend_c_T _ aX8 _ _ hnX12 haX13 aY9.al (by exact cond_mk hv (validA_spec.1 hv').1)) ?_
      rintro _ w99 ⟨⟨_, rfl, nx101, ac102, rfl, hn103, ha104⟩, e100⟩
      have hs105 := Below.size E
      have hs106 := Below.size e100
      replace E := E.trans e100
      replace hnX12 := hnX12.ext e100
      replace haX13 := haX13.ext e100
      replace hnY16 := hnY16.ext e100
      replace haY17 := haY17.ext e100
      replace hB26 := hB26.ext e100
      replace hB33 := hB33.ext e100
      replace hn50 := hn50.ext e100
      replace ha51 := ha51.ext e100
      replace hB57 := hB57.ext e100
      replace hn71 := hn71.ext e100
      replace ha72 := ha72.ext e100
      replace hB78 := hB78.ext e100
      refine Sq.move .plain rfl rfl ?_
      refine Sq.extract .plain rfl rfl rfl ?_
      refine Sq.extract .plain rfl rfl rfl ?_
      refine Sq.alloc zero26 .plain rfl (fun b107 w108 e109 hB110 hlo111 => ?_)
      have hd112 := Nat.le_trans (Below.size E) hlo111
      have hd113 := Nat.lt_of_lt_of_le hB26.lt hlo111
      have hd114 := Nat.lt_of_lt_of_le hB33.lt hlo111
      have hd115 := Nat.lt_of_lt_of_le hB57.lt hlo111
      have hd116 := Nat.lt_of_lt_of_le hB78.lt hlo111
      have hs117 := Below.size e109
      replace E := E.trans e109
      replace hnX12 := hnX12.ext e109
      replace haX13 := haX13.ext e109
      replace hnY16 := hnY16.ext e109
      replace haY17 := haY17.ext e109
      replace hB26 := hB26.ext e109
      replace hB33 := hB33.ext e109
      replace hn50 := hn50.ext e109
      replace ha51 := ha51.ext e109
      replace hB57 := hB57.ext e109
      replace hn71 := hn71.ext e109
      replace ha72 := ha72.ext e109
      replace hB78 := hB78.ext e109
      replace hn103 := hn103.ext e109
      replace ha104 := ha104.ext e109
      refine Sq.storeAgg agg26 .plain rfl rfl (one_cons rfl (one_cons (Rows.one (OwnRows.rows hn103)) (one_cons (Row.one (Own.row ha104)) one_nil))) hB110 rfl rfl (fun w118 g119 hB120 => ?_)
      have hs121 := World.grownBy.size g119
      replace E := E.grown g119 (fun k hk => by injection hk with hk; subst hk; omega)
      replace hnX12 := hnX12.stored g119 hB110 (by decide) (by decide)
      replace haX13 := haX13.stored g119 hB110 (by decide)
      replace hnY16 := hnY16.stored g119 hB110 (by decide) (by decide)
      replace haY17 := haY17.stored g119 hB110 (by decide)
      replace hB26 := hB26.grown g119 (by intro h; injection h with h; omega)
      replace hB33 := hB33.grown g119 (by intro h; injection h with h; omega)
      replace hn50 := hn50.stored g119 hB110 (by decide) (by decide)
      replace ha51 := ha51.stored g119 hB110 (by decide)
      replace hB57 := hB57.grown g119 (by intro h; injection h with h; omega)
      replace hn71 := hn71.stored g119 hB110 (by decide) (by decide)
      replace ha72 := ha72.stored g119 hB110 (by decide)
      replace hB78 := hB78.grown g119 (by intro h; injection h with h; omega)
      replace hn103 := hn103.stored g119 hB110 (by decide) (by decide)
      replace ha104 := ha104.stored g119 hB110 (by decide)
      replace hB110 := hB120
      refine Sq.assign .plain rfl rfl ?_
      refine Sq.nil ?_
      refine Eq.next ?_
      refine Cq.seq ?_
      refine Cq.region ?_
      refine Sq.loadAgg agg26 .plain rfl rfl hB33 rfl ?_
      refine Sq.fieldAddr fld26_0 .plain rfl rfl ?_
      refine Sq.loadB one3 .plain rfl rfl hB26 rfl ?_
      refine Sq.call fn20 .plain rfl rfl (extend_c_T _ aY9 _ _ hnY16 haY17 aX8.al (by exact cond_mk hv' (validA_spec.1 hv).1)) ?_
      rintro _ w123 ⟨⟨_, rfl, nx125, ac126, rfl, hn127, ha128⟩, e124⟩
      have hs129 := Below.size E
      have hs130 := Below.size e124
      replace E := E.trans e124
      replace hnX12 := hnX12.ext e124
      replace haX13 := haX13.ext e124
      replace hnY16 := hnY16.ext e124
      replace haY17 := haY17.ext e124
      replace hB26 := hB26.ext e124
      replace hB33 := hB33.ext e124
      replace hn50 := hn50.ext e124
      replace ha51 := ha51.ext e124
      replace hB57 := hB57.ext e124
      replace hn71 := hn71.ext e124
      replace ha72 := ha72.ext e124
      replace hB78 := hB78.ext e124
      replace hn103 := hn103.ext e124
      replace ha104 := ha104.ext e124
      replace hB110 := hB110.ext e124
      refine Sq.move .plain rfl rfl ?_
      refine Sq.extract .plain rfl rfl rfl ?_
      refine Sq.extract .plain rfl rfl rfl ?_
      refine Sq.alloc zero26 .plain rfl (fun b131 w132 e133 hB134 hlo135 => ?_)
      have hd136 := Nat.le_trans (Below.size E) hlo135
      have hd137 := Nat.lt_of_lt_of_le hB26.lt hlo135
      have hd138 := Nat.lt_of_lt_of_le hB33.lt hlo135
      have hd139 := Nat.lt_of_lt_of_le hB57.lt hlo135
      have hd140 := Nat.lt_of_lt_of_le hB78.lt hlo135
      have hd141 := Nat.lt_of_lt_of_le hB110.lt hlo135
      have hs142 := Below.size e133
      replace E := E.trans e133
      replace hnX12 := hnX12.ext e133
      replace haX13 := haX13.ext e133
      replace hnY16 := hnY16.ext e133
      replace haY17 := haY17.ext e133
      replace hB26 := hB26.ext e133
      replace hB33 := hB33.ext e133
      replace hn50 := hn50.ext e133
      replace ha51 := ha51.ext e133
      replace hB57 := hB57.ext e133
      replace hn71 := hn71.ext e133
      replace ha72 := ha72.ext e133
      replace hB78 := hB78.ext e133
      replace hn103 := hn103.ext e133
      replace ha104 := ha104.ext e133
      replace hB110 := hB110.ext e133
      replace hn127 := hn127.ext e133
      replace ha128 := ha128.ext e133
      refine Sq.storeAgg agg26 .plain rfl rfl (one_cons rfl (one_cons (Rows.one (OwnRows.rows hn127)) (one_cons (Row.one (Own.row ha128)) one_nil))) hB134 rfl rfl (fun w143 g144 hB145 => ?_)
      have hs146 := World.grownBy.size g144
      replace E := E.grown g144 (fun k hk => by injection hk with hk; subst hk; omega)
      replace hnX12 := hnX12.stored g144 hB134 (by decide) (by decide)
      replace haX13 := haX13.stored g144 hB134 (by decide)
      replace hnY16 := hnY16.stored g144 hB134 (by decide) (by decide)
      replace haY17 := haY17.stored g144 hB134 (by decide)
      replace hB26 := hB26.grown g144 (by intro h; injection h with h; omega)
      replace hB33 := hB33.grown g144 (by intro h; injection h with h; omega)
      replace hn50 := hn50.stored g144 hB134 (by decide) (by decide)
      replace ha51 := ha51.stored g144 hB134 (by decide)
      replace hB57 := hB57.grown g144 (by intro h; injection h with h; omega)
      replace hn71 := hn71.stored g144 hB134 (by decide) (by decide)
      replace ha72 := ha72.stored g144 hB134 (by decide)
      replace hB78 := hB78.grown g144 (by intro h; injection h with h; omega)
      replace hn103 := hn103.stored g144 hB134 (by decide) (by decide)
      replace ha104 := ha104.stored g144 hB134 (by decide)
      replace hB110 := hB110.grown g144 (by intro h; injection h with h; omega)
      replace hn127 := hn127.stored g144 hB134 (by decide) (by decide)
      replace ha128 := ha128.stored g144 hB134 (by decide)
      replace hB134 := hB145
      refine Sq.assign .plain rfl rfl ?_
      refine Sq.nil ?_
      refine Eq.next ?_
      refine Cq.seq ?_
      refine Cq.region ?_
      refine Sq.loadAgg agg26 .plain rfl rfl hB110 rfl ?_
      refine Sq.loadAgg agg26 .plain rfl rfl hB134 rfl ?_
      refine Sq.move .plain rfl rfl ?_
      refine Sq.call fn16 .plain rfl rfl (prod_c_T _ (extend aX8 aY9.al) (extend aY9 aX8.al) _ _ _ _ (OwnRows.rows hn103) (Own.row ha104) (OwnRows.rows hn127) (Own.row ha128) k7 (by exact prodOk_ext hC)) ?_
      rintro _ w147 ⟨⟨_, rfl, nx149, ac150, rfl, hn151, ha152⟩, e148⟩
      have hs153 := Below.size E
      have hs154 := Below.size e148
      replace E := E.trans e148
      replace hnX12 := hnX12.ext e148
      replace haX13 := haX13.ext e148
      replace hnY16 := hnY16.ext e148
      replace haY17 := haY17.ext e148
      replace hB26 := hB26.ext e148
      replace hB33 := hB33.ext e148
      replace hn50 := hn50.ext e148
      replace ha51 := ha51.ext e148
      replace hB57 := hB57.ext e148
      replace hn71 := hn71.ext e148
      replace ha72 := ha72.ext e148
      replace hB78 := hB78.ext e148
      replace hn103 := hn103.ext e148
      replace ha104 := ha104.ext e148
      replace hB110 := hB110.ext e148
      replace hn127 := hn127.ext e148
      replace ha128 := ha128.ext e148
      replace hB134 := hB134.ext e148
      refine Sq.move .plain rfl rfl ?_
      refine Sq.extract .plain rfl rfl rfl ?_
      refine Sq.extract .plain rfl rfl rfl ?_
      refine Sq.alloc zero26 .plain rfl (fun b155 w156 e157 hB158 hlo159 => ?_)
      have hd160 := Nat.le_trans (Below.size E) hlo159
      have hd161 := Nat.lt_of_lt_of_le hB26.lt hlo159
      have hd162 := Nat.lt_of_lt_of_le hB33.lt hlo159
      have hd163 := Nat.lt_of_lt_of_le hB57.lt hlo159
      have hd164 := Nat.lt_of_lt_of_le hB78.lt hlo159
      have hd165 := Nat.lt_of_lt_of_le hB110.lt hlo159
      have hd166 := Nat.lt_of_lt_of_le hB134.lt hlo159
      have hs167 := Below.size e157
      replace E := E.trans e157
      replace hnX12 := hnX12.ext e157
      replace haX13 := haX13.ext e157
      replace hnY16 := hnY16.ext e157
      replace haY17 := haY17.ext e157
      replace hB26 := hB26.ext e157
      replace hB33 := hB33.ext e157
      replace hn50 := hn50.ext e157
      replace ha51 := ha51.ext e157
      replace hB57 := hB57.ext e157
      replace hn71 := hn71.ext e157
      replace ha72 := ha72.ext e157
      replace hB78 := hB78.ext e157
      replace hn103 := hn103.ext e157
      replace ha104 := ha104.ext e157
      replace hB110 := hB110.ext e157
      replace hn127 := hn127.ext e157
      replace ha128 := ha128.ext e157
      replace hB134 := hB134.ext e157
      replace hn151 := hn151.ext e157
      replace ha152 := ha152.ext e157
      refine Sq.storeAgg agg26 .plain rfl rfl (one_cons rfl (one_cons (Rows.one (OwnRows.rows hn151)) (one_cons (Row.one (Own.row ha152)) one_nil))) hB158 rfl rfl (fun w168 g169 hB170 => ?_)
      have hs171 := World.grownBy.size g169
      replace E := E.grown g169 (fun k hk => by injection hk with hk; subst hk; omega)
      replace hnX12 := hnX12.stored g169 hB158 (by decide) (by decide)
      replace haX13 := haX13.stored g169 hB158 (by decide)
      replace hnY16 := hnY16.stored g169 hB158 (by decide) (by decide)
      replace haY17 := haY17.stored g169 hB158 (by decide)
      replace hB26 := hB26.grown g169 (by intro h; injection h with h; omega)
      replace hB33 := hB33.grown g169 (by intro h; injection h with h; omega)
      replace hn50 := hn50.stored g169 hB158 (by decide) (by decide)
      replace ha51 := ha51.stored g169 hB158 (by decide)
      replace hB57 := hB57.grown g169 (by intro h; injection h with h; omega)
      replace hn71 := hn71.stored g169 hB158 (by decide) (by decide)
      replace ha72 := ha72.stored g169 hB158 (by decide)
      replace hB78 := hB78.grown g169 (by intro h; injection h with h; omega)
      replace hn103 := hn103.stored g169 hB158 (by decide) (by decide)
      replace ha104 := ha104.stored g169 hB158 (by decide)
      replace hB110 := hB110.grown g169 (by intro h; injection h with h; omega)
      replace hn127 := hn127.stored g169 hB158 (by decide) (by decide)
      replace ha128 := ha128.stored g169 hB158 (by decide)
      replace hB134 := hB134.grown g169 (by intro h; injection h with h; omega)
      replace hn151 := hn151.stored g169 hB158 (by decide) (by decide)
      replace ha152 := ha152.stored g169 hB158 (by decide)
      replace hB158 := hB170
      refine Sq.assign .plain rfl rfl ?_
      refine Sq.nil ?_
      refine Eq.next ?_
      refine Cq.seq ?_
      refine Cq.region ?_
      refine Sq.move .plain rfl rfl ?_
      refine Sq.move .plain rfl rfl ?_
      refine Sq.loadAgg agg26 (.met rfl rfl rfl) rfl rfl hB57 rfl ?_
      refine Sq.loadAgg agg26 (.met rfl rfl rfl) rfl rfl hB158 rfl ?_
      have hd175 := hB26.lt
      have hd176 := hB33.lt
      have hd177 := hB57.lt
      have hd178 := hB78.lt
      have hd179 := hB110.lt
      have hd180 := hB134.lt
      have hd181 := hB158.lt
      refine Sq.call fn18 (.met rfl rfl rfl) rfl rfl (agAutomata_c _ (prodA aX8 aY9 k7) ((prodA (extend aX8 aY9.al) (extend aY9 aX8.al) k7)) _ _ _ _ (OwnRows.rows hn50) (Own.row ha51) (OwnRows.rows hn151) (Own.row ha152) (by first | exact fit_zero | exact fit_of_valid (by first | assumption | exact extend_valid hv hk | exact compl_valid' (extend_valid hv hk) | exact prod_valid hC | exact prod_valid (prodOk_kind hC (by decide))) | assumption)) ?_
      rintro _ w173 ⟨rfl, e174⟩
      have hs182 := Below.size E
      have hs183 := Below.size e174
      replace E := E.trans e174
      replace hnX12 := hnX12.ext e174
      replace haX13 := haX13.ext e174
      replace hnY16 := hnY16.ext e174
      replace haY17 := haY17.ext e174
      replace hB26 := hB26.ext e174
      replace hB33 := hB33.ext e174
      replace hn50 := hn50.ext e174
      replace ha51 := ha51.ext e174
      replace hB57 := hB57.ext e174
      replace hn71 := hn71.ext e174
      replace ha72 := ha72.ext e174
      replace hB78 := hB78.ext e174
      replace hn103 := hn103.ext e174
      replace ha104 := ha104.ext e174
      replace hB110 := hB110.ext e174
      replace hn127 := hn127.ext e174
      replace ha128 := ha128.ext e174
      replace hB134 := hB134.ext e174
      replace hn151 := hn151.ext e174
      replace ha152 := ha152.ext e174
      replace hB158 := hB158.ext e174
      refine Sq.beT (by rw [prod_ext hv hv']; exact eqA_refl _) ?_
      refine Sq.pickT .plain rfl rfl rfl ?_
      refine Sq.assign .plain rfl rfl ?_
      refine Sq.nil ?_
      refine Eq.next ?_
      refine Cq.ret ?_
      refine Eq.ret1 rfl rfl ?_
      exact ⟨rfl, E⟩
    · refine Sq.call fn16 .plain rfl rfl (prod_c_F _ aX8 aY9 _ _ _ _ hnX12 haX13 hnY16 haY17 k7 hC) ?_
      rintro _ w184 ⟨⟨_, rfl, nx186, ac187, rfl, hn188, ha189⟩, e185⟩
      have hs190 := Below.size E
      have hs191 := Below.size e185
      replace E := E.trans e185
      replace hnX12 := hnX12.ext e185
      replace haX13 := haX13.ext e185
      replace hnY16 := hnY16.ext e185
      replace haY17 := haY17.ext e185
      replace hB26 := hB26.ext e185
      replace hB33 := hB33.ext e185
      refine Sq.move .plain rfl rfl ?_
      refine Sq.extract .plain rfl rfl rfl ?_
      refine Sq.extract .plain rfl rfl rfl ?_
      refine Sq.alloc zero26 .plain rfl (fun b192 w193 e194 hB195 hlo196 => ?_)
      have hd197 := Nat.le_trans (Below.size E) hlo196
      have hd198 := Nat.lt_of_lt_of_le hB26.lt hlo196
      have hd199 := Nat.lt_of_lt_of_le hB33.lt hlo196
      have hs200 := Below.size e194
      replace E := E.trans e194
      replace hnX12 := hnX12.ext e194
      replace haX13 := haX13.ext e194
      replace hnY16 := hnY16.ext e194
      replace haY17 := haY17.ext e194
      replace hB26 := hB26.ext e194
      replace hB33 := hB33.ext e194
      replace hn188 := hn188.ext e194
      replace ha189 := ha189.ext e194
      refine Sq.storeAgg agg26 .plain rfl rfl (one_cons rfl (one_cons (Rows.one (OwnRows.rows hn188)) (one_cons (Row.one (Own.row ha189)) one_nil))) hB195 rfl rfl (fun w201 g202 hB203 => ?_)
      have hs204 := World.grownBy.size g202
      replace E := E.grown g202 (fun k hk => by injection hk with hk; subst hk; omega)
      replace hnX12 := hnX12.stored g202 hB195 (by decide) (by decide)
      replace haX13 := haX13.stored g202 hB195 (by decide)
      replace hnY16 := hnY16.stored g202 hB195 (by decide) (by decide)
      replace haY17 := haY17.stored g202 hB195 (by decide)
      replace hB26 := hB26.grown g202 (by intro h; injection h with h; omega)
      replace hB33 := hB33.grown g202 (by intro h; injection h with h; omega)
      replace hn188 := hn188.stored g202 hB195 (by decide) (by decide)
      replace ha189 := ha189.stored g202 hB195 (by decide)
      replace hB195 := hB203
      refine Sq.assign .plain rfl rfl ?_
      refine Sq.nil ?_
      refine Eq.next ?_
      refine Cq.seq ?_
      refine Cq.region ?_
      refine Sq.loadAgg agg26 .plain rfl rfl hB26 rfl ?_
      refine Sq.loadAgg agg26 .plain rfl rfl hB33 rfl ?_
      refine Sq.move .plain rfl rfl ?_
      refine Sq.call fn17 .plain rfl rfl (sProd_c_F _ aX8 aY9 _ _ _ _ hnX12 haX13 hnY16 haY17 k7 hC) ?_
      rintro _ w205 ⟨⟨_, rfl, nx207, ac208, rfl, hn209, ha210⟩, e206⟩
      have hs211 := Below.size E
      have hs212 := Below.size e206
      replace E := E.trans e206
      replace hnX12 := hnX12.ext e206
      replace haX13 := haX13.ext e206
      replace hnY16 := hnY16.ext e206
      replace haY17 := haY17.ext e206
      replace hB26 := hB26.ext e206
      replace hB33 := hB33.ext e206
      replace hn188 := hn188.ext e206
      replace ha189 := ha189.ext e206
      replace hB195 := hB195.ext e206
      refine Sq.move .plain rfl rfl ?_
      refine Sq.extract .plain rfl rfl rfl ?_
      refine Sq.extract .plain rfl rfl rfl ?_
      refine Sq.alloc zero26 .plain rfl (fun b213 w214 e215 hB216 hlo217 => ?_)
      have hd218 := Nat.le_trans (Below.size E) hlo217
      have hd219 := Nat.lt_of_lt_of_le hB26.lt hlo217
      have hd220 := Nat.lt_of_lt_of_le hB33.lt hlo217
      have hd221 := Nat.lt_of_lt_of_le hB195.lt hlo217
      have hs222 := Below.size e215
      replace E := E.trans e215
      replace hnX12 := hnX12.ext e215
      replace haX13 := haX13.ext e215
      replace hnY16 := hnY16.ext e215
      replace haY17 := haY17.ext e215
      replace hB26 := hB26.ext e215
      replace hB33 := hB33.ext e215
      replace hn188 := hn188.ext e215
      replace ha189 := ha189.ext e215
      replace hB195 := hB195.ext e215
      replace hn209 := hn209.ext e215
      replace ha210 := ha210.ext e215
      refine Sq.storeAgg agg26 .plain rfl rfl (one_cons rfl (one_cons (Rows.one (OwnRows.rows hn209)) (one_cons (Row.one (Own.row ha210)) one_nil))) hB216 rfl rfl (fun w223 g224 hB225 => ?_)
      have hs226 := World.grownBy.size g224
      replace E := E.grown g224 (fun k hk => by injection hk with hk; subst hk; omega)
      replace hnX12 := hnX12.stored g224 hB216 (by decide) (by decide)
      replace haX13 := haX13.stored g224 hB216 (by decide)
      replace hnY16 := hnY16.stored g224 hB216 (by decide) (by decide)
      replace haY17 := haY17.stored g224 hB216 (by decide)
      replace hB26 := hB26.grown g224 (by intro h; injection h with h; omega)
      replace hB33 := hB33.grown g224 (by intro h; injection h with h; omega)
      replace hn188 := hn188.stored g224 hB216 (by decide) (by decide)
      replace ha189 := ha189.stored g224 hB216 (by decide)
      replace hB195 := hB195.grown g224 (by intro h; injection h with h; omega)
      replace hn209 := hn209.stored g224 hB216 (by decide) (by decide)
      replace ha210 := ha210.stored g224 hB216 (by decide)
      replace hB216 := hB225
      refine Sq.assign .plain rfl rfl ?_
      refine Sq.nil ?_
      refine Eq.next ?_
      refine Cq.seq ?_
      refine Cq.seq ?_
      refine Cq.region ?_
      refine Sq.loadAgg agg26 .plain rfl rfl hB195 rfl ?_
      refine Sq.loadAgg agg26 .plain rfl rfl hB216 rfl ?_
      have hd230 := hB26.lt
      have hd231 := hB33.lt
      have hd232 := hB195.lt
      have hd233 := hB216.lt
      refine Sq.call fn18 .plain rfl rfl (agAutomata_c _ zeroA zeroA _ _ _ _ (OwnRows.rows hn188) (Own.row ha189) (OwnRows.rows hn209) (Own.row ha210) (by first | exact fit_zero | exact fit_of_valid (by first | assumption | exact extend_valid hv hk | exact compl_valid' (extend_valid hv hk) | exact prod_valid hC | exact prod_valid (prodOk_kind hC (by decide))) | assumption)) ?_
      rintro _ w228 ⟨rfl, e229⟩
      have hs234 := Below.size E
      have hs235 := Below.size e229
      replace E := E.trans e229
      replace hnX12 := hnX12.ext e229
      replace haX13 := haX13.ext e229
      replace hnY16 := hnY16.ext e229
      replace haY17 := haY17.ext e229
      replace hB26 := hB26.ext e229
      replace hB33 := hB33.ext e229
      replace hn188 := hn188.ext e229
      replace ha189 := ha189.ext e229
      replace hB195 := hB195.ext e229
      replace hn209 := hn209.ext e229
      replace ha210 := ha210.ext e229
      replace hB216 := hB216.ext e229
      refine Sq.beT (by exact eqA_refl _) ?_
      refine Sq.notT .plain rfl rfl ?_
      refine Sq.move .plain rfl rfl ?_
      refine Sq.move (.met rfl rfl rfl) rfl rfl ?_
      refine Sq.move (.met rfl rfl rfl) rfl rfl ?_
      refine Sq.neqB und4 (.met rfl rfl rfl) rfl rfl rfl ?_
      refine Sq.pickF .plain rfl rfl rfl ?_
      refine Sq.move .plain rfl rfl ?_
      refine Sq.move (.met rfl rfl rfl) rfl rfl ?_
      refine Sq.notF (.met rfl rfl rfl) rfl rfl ?_
      refine Sq.pickF .plain rfl rfl rfl ?_
      refine Sq.nil ?_
      refine Eq.next ?_
      refine Cq.thn rfl ?_
      refine Cq.seq ?_
      refine Cq.region ?_
      refine Sq.loadAgg agg26 .plain rfl rfl hB195 rfl ?_
      refine Sq.loadAgg agg26 .plain rfl rfl hB216 rfl ?_
      have hd239 := hB26.lt
      have hd240 := hB33.lt
      have hd241 := hB195.lt
      have hd242 := hB216.lt
      refine Sq.call fn18 .plain rfl rfl (agAutomata_c _ zeroA zeroA _ _ _ _ (OwnRows.rows hn188) (Own.row ha189) (OwnRows.rows hn209) (Own.row ha210) (by first | exact fit_zero | exact fit_of_valid (by first | assumption | exact extend_valid hv hk | exact compl_valid' (extend_valid hv hk) | exact prod_valid hC | exact prod_valid (prodOk_kind hC (by decide))) | assumption)) ?_
      rintro _ w237 ⟨rfl, e238⟩
      have hs243 := Below.size E
      have hs244 := Below.size e238
      replace E := E.trans e238
      replace hnX12 := hnX12.ext e238
      replace haX13 := haX13.ext e238
      replace hnY16 := hnY16.ext e238
      replace haY17 := haY17.ext e238
      replace hB26 := hB26.ext e238
      replace hB33 := hB33.ext e238
      replace hn188 := hn188.ext e238
      replace ha189 := ha189.ext e238
      replace hB195 := hB195.ext e238
      replace hn209 := hn209.ext e238
      replace ha210 := ha210.ext e238
      replace hB216 := hB216.ext e238
      refine Sq.beT (by exact eqA_refl _) ?_
      refine Sq.move .plain rfl rfl ?_
      refine Sq.move (.met rfl rfl rfl) rfl rfl ?_
      refine Sq.move (.met rfl rfl rfl) rfl rfl ?_
      refine Sq.eqlB und4 (.met rfl rfl rfl) rfl rfl rfl ?_
      refine Sq.pickT .plain rfl rfl rfl ?_
      refine Sq.assign .plain rfl rfl ?_
      refine Sq.nil ?_
      refine Eq.next ?_
      refine Cq.ret ?_
      refine Eq.pastRet ?_
      refine Eq.ret1 rfl rfl ?_
      exact ⟨rfl, E⟩

set_option maxRecDepth 100000 in
theorem lProdFirst (w0 : World) (e : TypeId) (a0 : Option Addr) (c0 : Nat) (cs : List UInt8) (hc : Bytes w0 e (.slice a0 cs.length c0) cs) (hcap : cs.length ≤ c0) : Ret Try.prog 6 #[Value.slice a0 cs.length c0] w0 (fun v w => v = .bool true ∧ Ext w0 w) := by
  have E := Ext.refl w0
  refine Ret.of (args := [Value.slice a0 cs.length c0]) Try.func6 rfl rfl rfl ?_
  rintro _ rfl
  show Cq _ _ _ _ [(0, Value.slice a0 cs.length c0)] _
  refine Cq.seq ?_
  refine Cq.region ?_
  refine Sq.assign .plain rfl rfl ?_
  refine Sq.nil ?_
  refine Eq.next ?_
  refine Cq.seq ?_
  refine Cq.seq ?_
  refine Cq.region ?_
  refine Sq.move .plain rfl rfl ?_
  refine Sq.lenBytes (hc.ext E) .plain rfl und22 rfl ?_
  refine Sq.gtr .plain rfl rfl rfl ?_
  refine Sq.part (fun c1 => ?_) (fun c1 => ?_)
  · refine Sq.nil ?_
    refine Eq.next ?_
    refine Cq.thn rfl ?_
    refine Cq.seq ?_
    refine Cq.region ?_
    refine Sq.assign .plain rfl rfl ?_
    refine Sq.nil ?_
    refine Eq.next ?_
    refine Cq.ret ?_
    refine Eq.pastRet ?_
    refine Eq.ret1 rfl rfl ?_
    exact ⟨rfl, E⟩
  · refine Sq.nil ?_
    refine Eq.next ?_
    refine Cq.els rfl ?_
    refine Cq.skip ?_
    refine Eq.next ?_
    refine Cq.seq ?_
    refine Cq.region ?_
    refine Sq.move .plain rfl rfl ?_
    refine Sq.call fn15 .plain rfl rfl (drawProd_c _ _ _ _ _ (hc.ext E) hcap) ?_
    rintro v2 w3 ⟨⟨u5, v6, k7, aX8, aY9, rfl, ⟨nxX10, acX11, rfl, hnX12, haX13⟩, ⟨nxY14, acY15, rfl, hnY16, haY17⟩, hsmX18, hsmY19, hk20⟩, e4⟩
    have hs21 := Below.size E
    have hs22 := Below.size e4
    replace E := E.trans e4
    refine Sq.move .plain rfl rfl ?_
    refine Sq.extract .plain rfl rfl rfl ?_
    refine Sq.extract .plain rfl rfl rfl ?_
    refine Sq.extract .plain rfl rfl rfl ?_
    refine Sq.alloc zero26 .plain rfl (fun b23 w24 e25 hB26 hlo27 => ?_)
    have hd28 := Nat.le_trans (Below.size E) hlo27
    have hs29 := Below.size e25
    replace E := E.trans e25
    replace hnX12 := hnX12.ext e25
    replace haX13 := haX13.ext e25
    replace hnY16 := hnY16.ext e25
    replace haY17 := haY17.ext e25
    refine Sq.alloc zero26 .plain rfl (fun b30 w31 e32 hB33 hlo34 => ?_)
    have hd35 := Nat.le_trans (Below.size E) hlo34
    have hd36 := Nat.lt_of_lt_of_le hB26.lt hlo34
    have hs37 := Below.size e32
    replace E := E.trans e32
    replace hnX12 := hnX12.ext e32
    replace haX13 := haX13.ext e32
    replace hnY16 := hnY16.ext e32
    replace haY17 := haY17.ext e32
    replace hB26 := hB26.ext e32
    refine Sq.storeAgg agg26 .plain rfl rfl (one_cons rfl (one_cons (Rows.one hnX12) (one_cons (Row.one haX13) one_nil))) hB26 rfl rfl (fun w38 g39 hB40 => ?_)
    have hs41 := World.grownBy.size g39
    replace E := E.grown g39 (fun k hk => by injection hk with hk; subst hk; omega)
    replace hnX12 := hnX12.stored g39 hB26 (by decide) (by decide)
    replace haX13 := haX13.stored g39 hB26 (by decide)
    replace hnY16 := hnY16.stored g39 hB26 (by decide) (by decide)
    replace haY17 := haY17.stored g39 hB26 (by decide)
    replace hB33 := hB33.grown g39 (by intro h; injection h with h; omega)
    replace hB26 := hB40
    refine Sq.storeAgg agg26 .plain rfl rfl (one_cons rfl (one_cons (Rows.one hnY16) (one_cons (Row.one haY17) one_nil))) hB33 rfl rfl (fun w42 g43 hB44 => ?_)
    have hs45 := World.grownBy.size g43
    replace E := E.grown g43 (fun k hk => by injection hk with hk; subst hk; omega)
    replace hnX12 := hnX12.stored g43 hB33 (by decide) (by decide)
    replace haX13 := haX13.stored g43 hB33 (by decide)
    replace hnY16 := hnY16.stored g43 hB33 (by decide) (by decide)
    replace haY17 := haY17.stored g43 hB33 (by decide)
    replace hB26 := hB26.grown g43 (by intro h; injection h with h; omega)
    replace hB33 := hB44
    refine Sq.assign .plain rfl rfl ?_
    refine Sq.nil ?_
    refine Eq.next ?_
    refine Cq.seq ?_
    refine Cq.region ?_
    refine Sq.loadAgg agg26 .plain rfl rfl hB26 rfl ?_
    refine Sq.loadAgg agg26 .plain rfl rfl hB33 rfl ?_
    refine Sq.move .plain rfl rfl ?_
    rcases Bool.eq_false_or_eq_true (prodOk aX8 aY9 k7) with hC | hC
    · obtain ⟨hv, hv', hk, hl12⟩ := prodOk_spec.1 hC
      refine Sq.call fn16 .plain rfl rfl (prod_c_T _ aX8 aY9 _ _ _ _ hnX12 haX13 hnY16 haY17 k7 hC) ?_
      rintro _ w46 ⟨⟨_, rfl, nx48, ac49, rfl, hn50, ha51⟩, e47⟩
      have hs52 := Below.size E
      have hs53 := Below.size e47
      replace E := E.trans e47
      replace hnX12 := hnX12.ext e47
      replace haX13 := haX13.ext e47
      replace hnY16 := hnY16.ext e47
      replace haY17 := haY17.ext e47
      replace hB26 := hB26.ext e47
      replace hB33 := hB33.ext e47
      refine Sq.move .plain rfl rfl ?_
      refine Sq.extract .plain rfl rfl rfl ?_
      refine Sq.extract .plain rfl rfl rfl ?_
      refine Sq.alloc zero26 .plain rfl (fun b54 w55 e56 hB57 hlo58 => ?_)
      have hd59 := Nat.le_trans (Below.size E) hlo58
      have hd60 := Nat.lt_of_lt_of_le hB26.lt hlo58
      have hd61 := Nat.lt_of_lt_of_le hB33.lt hlo58
      have hs62 := Below.size e56
      replace E := E.trans e56
      replace hnX12 := hnX12.ext e56
      replace haX13 := haX13.ext e56
      replace hnY16 := hnY16.ext e56
      replace haY17 := haY17.ext e56
      replace hB26 := hB26.ext e56
      replace hB33 := hB33.ext e56
      replace hn50 := hn50.ext e56
      replace ha51 := ha51.ext e56
      refine Sq.storeAgg agg26 .plain rfl rfl (one_cons rfl (one_cons (Rows.one (OwnRows.rows hn50)) (one_cons (Row.one (Own.row ha51)) one_nil))) hB57 rfl rfl (fun w63 g64 hB65 => ?_)
      have hs66 := World.grownBy.size g64
      replace E := E.grown g64 (fun k hk => by injection hk with hk; subst hk; omega)
      replace hnX12 := hnX12.stored g64 hB57 (by decide) (by decide)
      replace haX13 := haX13.stored g64 hB57 (by decide)
      replace hnY16 := hnY16.stored g64 hB57 (by decide) (by decide)
      replace haY17 := haY17.stored g64 hB57 (by decide)
      replace hB26 := hB26.grown g64 (by intro h; injection h with h; omega)
      replace hB33 := hB33.grown g64 (by intro h; injection h with h; omega)
      replace hn50 := hn50.stored g64 hB57 (by decide) (by decide)
      replace ha51 := ha51.stored g64 hB57 (by decide)
      replace hB57 := hB65
      refine Sq.assign .plain rfl rfl ?_
      refine Sq.nil ?_
      refine Eq.next ?_
      refine Cq.seq ?_
      refine Cq.region ?_
      refine Sq.loadAgg agg26 .plain rfl rfl hB26 rfl ?_
      refine Sq.loadAgg agg26 .plain rfl rfl hB33 rfl ?_
      refine Sq.move .plain rfl rfl ?_
      refine Sq.call fn17 .plain rfl rfl (sProd_c_T _ aX8 aY9 _ _ _ _ hnX12 haX13 hnY16 haY17 k7 hC) ?_
      rintro _ w67 ⟨⟨_, rfl, nx69, ac70, rfl, hn71, ha72⟩, e68⟩
      have hs73 := Below.size E
      have hs74 := Below.size e68
      replace E := E.trans e68
      replace hnX12 := hnX12.ext e68
      replace haX13 := haX13.ext e68
      replace hnY16 := hnY16.ext e68
      replace haY17 := haY17.ext e68
      replace hB26 := hB26.ext e68
      replace hB33 := hB33.ext e68
      replace hn50 := hn50.ext e68
      replace ha51 := ha51.ext e68
      replace hB57 := hB57.ext e68
      refine Sq.move .plain rfl rfl ?_
      refine Sq.extract .plain rfl rfl rfl ?_
      refine Sq.extract .plain rfl rfl rfl ?_
      refine Sq.alloc zero26 .plain rfl (fun b75 w76 e77 hB78 hlo79 => ?_)
      have hd80 := Nat.le_trans (Below.size E) hlo79
      have hd81 := Nat.lt_of_lt_of_le hB26.lt hlo79
      have hd82 := Nat.lt_of_lt_of_le hB33.lt hlo79
      have hd83 := Nat.lt_of_lt_of_le hB57.lt hlo79
      have hs84 := Below.size e77
      replace E := E.trans e77
      replace hnX12 := hnX12.ext e77
      replace haX13 := haX13.ext e77
      replace hnY16 := hnY16.ext e77
      replace haY17 := haY17.ext e77
      replace hB26 := hB26.ext e77
      replace hB33 := hB33.ext e77
      replace hn50 := hn50.ext e77
      replace ha51 := ha51.ext e77
      replace hB57 := hB57.ext e77
      replace hn71 := hn71.ext e77
      replace ha72 := ha72.ext e77
      refine Sq.storeAgg agg26 .plain rfl rfl (one_cons rfl (one_cons (Rows.one (OwnRows.rows hn71)) (one_cons (Row.one (Own.row ha72)) one_nil))) hB78 rfl rfl (fun w85 g86 hB87 => ?_)
      have hs88 := World.grownBy.size g86
      replace E := E.grown g86 (fun k hk => by injection hk with hk; subst hk; omega)
      replace hnX12 := hnX12.stored g86 hB78 (by decide) (by decide)
      replace haX13 := haX13.stored g86 hB78 (by decide)
      replace hnY16 := hnY16.stored g86 hB78 (by decide) (by decide)
      replace haY17 := haY17.stored g86 hB78 (by decide)
      replace hB26 := hB26.grown g86 (by intro h; injection h with h; omega)
      replace hB33 := hB33.grown g86 (by intro h; injection h with h; omega)
      replace hn50 := hn50.stored g86 hB78 (by decide) (by decide)
      replace ha51 := ha51.stored g86 hB78 (by decide)
      replace hB57 := hB57.grown g86 (by intro h; injection h with h; omega)
      replace hn71 := hn71.stored g86 hB78 (by decide) (by decide)
      replace ha72 := ha72.stored g86 hB78 (by decide)
      replace hB78 := hB87
      refine Sq.assign .plain rfl rfl ?_
      refine Sq.nil ?_
      refine Eq.next ?_
      refine Cq.seq ?_
      refine Cq.seq ?_
      refine Cq.region ?_
      refine Sq.loadAgg agg26 .plain rfl rfl hB57 rfl ?_
      refine Sq.loadAgg agg26 .plain rfl rfl hB78 rfl ?_
      have hd92 := hB26.lt
      have hd93 := hB33.lt
      have hd94 := hB57.lt
      have hd95 := hB78.lt
      refine Sq.call fn18 .plain rfl rfl (agAutomata_c _ (prodA aX8 aY9 k7) (prodA aX8 aY9 k7) _ _ _ _ (OwnRows.rows hn50) (Own.row ha51) (OwnRows.rows hn71) (Own.row ha72) (by first | exact fit_zero | exact fit_of_valid (by first | assumption | exact extend_valid hv hk | exact compl_valid' (extend_valid hv hk) | exact prod_valid hC | exact prod_valid (prodOk_kind hC (by decide))) | assumption)) ?_
      rintro _ w90 ⟨rfl, e91⟩
      have hs96 := Below.size E
      have hs97 := Below.size e91
      replace E := E.trans e91
      replace hnX12 := hnX12.ext e91
      replace haX13 := haX13.ext e91
      replace hnY16 := hnY16.ext e91
      replace haY17 := haY17.ext e91
      replace hB26 := hB26.ext e91
      replace hB33 := hB33.ext e91
      replace hn50 := hn50.ext e91
      replace ha51 := ha51.ext e91
      replace hB57 := hB57.ext e91
      replace hn71 := hn71.ext e91
      replace ha72 := ha72.ext e91
      replace hB78 := hB78.ext e91
      refine Sq.beT (by exact eqA_refl _) ?_
      refine Sq.notT .plain rfl rfl ?_
      refine Sq.move .plain rfl rfl ?_
      refine Sq.move (.met rfl rfl rfl) rfl rfl ?_
      refine Sq.move (.met rfl rfl rfl) rfl rfl ?_
      refine Sq.neqB und4 (.met rfl rfl rfl) rfl rfl rfl ?_
      refine Sq.pickF .plain rfl rfl rfl ?_
      refine Sq.move .plain rfl rfl ?_
      refine Sq.move (.met rfl rfl rfl) rfl rfl ?_
      refine Sq.notT (.met rfl rfl rfl) rfl rfl ?_
      refine Sq.pickF .plain rfl rfl rfl ?_
      refine Sq.nil ?_
      refine Eq.next ?_
      refine Cq.els rfl ?_
      refine Cq.skip ?_
      refine Eq.next ?_
      refine Cq.seq ?_
      refine Cq.region ?_
      refine Sq.loadAgg agg26 .plain rfl rfl hB26 rfl ?_
      refine Sq.loadAgg agg26 .plain rfl rfl hB33 rfl ?_
      refine Sq.call fn16 .plain rfl rfl (prod_c_T _ aX8 aY9 _ _ _ _ hnX12 haX13 hnY16 haY17 2 (by exact prodOk_kind hC (by decide))) ?_
      rintro _ w98 ⟨⟨_, rfl, nx100, ac101, rfl, hn102, ha103⟩, e99⟩
      have hs104 := Below.size E
      have hs105 := Below.size e99
      replace E := E.trans e99
      replace hnX12 := hnX12.ext e99
      replace haX13 := haX13.ext e99
      replace hnY16 := hnY16.ext e99
      replace haY17 := haY17.ext e99
      replace hB26 := hB26.ext e99
      replace hB33 := hB33.ext e99
      replace hn50 := hn50.ext e99
      replace ha51 := ha51.ext e99
      replace hB57 := hB57.ext e99
      replace hn71 := hn71.ext e99
      replace ha72 := ha72.ext e99
      replace hB78 := hB78.ext e99
      refine Sq.move .plain rfl rfl ?_
      refine Sq.extract .plain rfl rfl rfl ?_
      refine Sq.extract .plain rfl rfl rfl ?_
      refine Sq.alloc zero26 .plain rfl (fun b106 w107 e108 hB109 hlo110 => ?_)
      have hd111 := Nat.le_trans (Below.size E) hlo110
      have hd112 := Nat.lt_of_lt_of_le hB26.lt hlo110
      have hd113 := Nat.lt_of_lt_of_le hB33.lt hlo110
      have hd114 := Nat.lt_of_lt_of_le hB57.lt hlo110
      have hd115 := Nat.lt_of_lt_of_le hB78.lt hlo110
      have hs116 := Below.size e108
      replace E := E.trans e108
      replace hnX12 := hnX12.ext e108
      replace haX13 := haX13.ext e108
      replace hnY16 := hnY16.ext e108
      replace haY17 := haY17.ext e108
      replace hB26 := hB26.ext e108
      replace hB33 := hB33.ext e108
      replace hn50 := hn50.ext e108
      replace ha51 := ha51.ext e108
      replace hB57 := hB57.ext e108
      replace hn71 := hn71.ext e108
      replace ha72 := ha72.ext e108
      replace hB78 := hB78.ext e108
      replace hn102 := hn102.ext e108
      replace ha103 := ha103.ext e108
      refine Sq.storeAgg agg26 .plain rfl rfl (one_cons rfl (one_cons (Rows.one (OwnRows.rows hn102)) (one_cons (Row.one (Own.row ha103)) one_nil))) hB109 rfl rfl (fun w117 g118 hB119 => ?_)
      have hs120 := World.grownBy.size g118
      replace E := E.grown g118 (fun k hk => by injection hk with hk; subst hk; omega)
      replace hnX12 := hnX12.stored g118 hB109 (by decide) (by decide)
      replace haX13 := haX13.stored g118 hB109 (by decide)
      replace hnY16 := hnY16.stored g118 hB109 (by decide) (by decide)
      replace haY17 := haY17.stored g118 hB109 (by decide)
      replace hB26 := hB26.grown g118 (by intro h; injection h with h; omega)
      replace hB33 := hB33.grown g118 (by intro h; injection h with h; omega)
      replace hn50 := hn50.stored g118 hB109 (by decide) (by decide)
      replace ha51 := ha51.stored g118 hB109 (by decide)
      replace hB57 := hB57.grown g118 (by intro h; injection h with h; omega)
      replace hn71 := hn71.stored g118 hB109 (by decide) (by decide)
      replace ha72 := ha72.stored g118 hB109 (by decide)
      replace hB78 := hB78.grown g118 (by intro h; injection h with h; omega)
      replace hn102 := hn102.stored g118 hB109 (by decide) (by decide)
      replace ha103 := ha103.stored g118 hB109 (by decide)
      replace hB109 := hB119
      refine Sq.assign .plain rfl rfl ?_
      refine Sq.nil ?_
      refine Eq.next ?_
      refine Cq.seq ?_
      refine Cq.region ?_
      refine Sq.loadAgg agg26 .plain rfl rfl hB33 rfl ?_
      refine Sq.call fn21 .plain rfl rfl (compl_c_T _ aY9 _ _ hnY16 haY17 (by exact hv')) ?_
      rintro _ w122 ⟨⟨_, rfl, nx124, ac125, rfl, hn126, ha127⟩, e123⟩
      have hs128 := Below.size E
      have hs129 := Below.size e123
      replace E := E.trans e123
      replace hnX12 := hnX12.ext e123
      replace haX13 := haX13.ext e123
      replace hnY16 := hnY16.ext e123
      replace haY17 := haY17.ext e123
      replace hB26 := hB26.ext e123
      replace hB33 := hB33.ext e123
      replace hn50 := hn50.ext e123
      replace ha51 := ha51.ext e123
      replace hB57 := hB57.ext e123
      replace hn71 := hn71.ext e123
      replace ha72 := ha72.ext e123
      replace hB78 := hB78.ext e123
      replace hn102 := hn102.ext e123
      replace ha103 := ha103.ext e123
      replace hB109 := hB109.ext e123
      refine Sq.move .plain rfl rfl ?_
      refine Sq.extract .plain rfl rfl rfl ?_
      refine Sq.extract .plain rfl rfl rfl ?_
      refine Sq.alloc zero26 .plain rfl (fun b130 w131 e132 hB133 hlo134 => ?_)
      have hd135 := Nat.le_trans (Below.size E) hlo134
      have hd136 := Nat.lt_of_lt_of_le hB26.lt hlo134
      have hd137 := Nat.lt_of_lt_of_le hB33.lt hlo134
      have hd138 := Nat.lt_of_lt_of_le hB57.lt hlo134
      have hd139 := Nat.lt_of_lt_of_le hB78.lt hlo134
      have hd140 := Nat.lt_of_lt_of_le hB109.lt hlo134
      have hs141 := Below.size e132
      replace E := E.trans e132
      replace hnX12 := hnX12.ext e132
      replace haX13 := haX13.ext e132
      replace hnY16 := hnY16.ext e132
      replace haY17 := haY17.ext e132
      replace hB26 := hB26.ext e132
      replace hB33 := hB33.ext e132
      replace hn50 := hn50.ext e132
      replace ha51 := ha51.ext e132
      replace hB57 := hB57.ext e132
      replace hn71 := hn71.ext e132
      replace ha72 := ha72.ext e132
      replace hB78 := hB78.ext e132
      replace hn102 := hn102.ext e132
      replace ha103 := ha103.ext e132
      replace hB109 := hB109.ext e132
      replace hn126 := hn126.ext e132
      replace ha127 := ha127.ext e132
      refine Sq.storeAgg agg26 .plain rfl rfl (one_cons rfl (one_cons (Rows.one (OwnRows.rows hn126)) (one_cons (Row.one (Own.row ha127)) one_nil))) hB133 rfl rfl (fun w142 g143 hB144 => ?_)
      have hs145 := World.grownBy.size g143
      replace E := E.grown g143 (fun k hk => by injection hk with hk; subst hk; omega)
      replace hnX12 := hnX12.stored g143 hB133 (by decide) (by decide)
      replace haX13 := haX13.stored g143 hB133 (by decide)
      replace hnY16 := hnY16.stored g143 hB133 (by decide) (by decide)
      replace haY17 := haY17.stored g143 hB133 (by decide)
      replace hB26 := hB26.grown g143 (by intro h; injection h with h; omega)
      replace hB33 := hB33.grown g143 (by intro h; injection h with h; omega)
      replace hn50 := hn50.stored g143 hB133 (by decide) (by decide)
      replace ha51 := ha51.stored g143 hB133 (by decide)
      replace hB57 := hB57.grown g143 (by intro h; injection h with h; omega)
      replace hn71 := hn71.stored g143 hB133 (by decide) (by decide)
      replace ha72 := ha72.stored g143 hB133 (by decide)
      replace hB78 := hB78.grown g143 (by intro h; injection h with h; omega)
      replace hn102 := hn102.stored g143 hB133 (by decide) (by decide)
      replace ha103 := ha103.stored g143 hB133 (by decide)
      replace hB109 := hB109.grown g143 (by intro h; injection h with h; omega)
      replace hn126 := hn126.stored g143 hB133 (by decide) (by decide)
      replace ha127 := ha127.stored g143 hB133 (by decide)
      replace hB133 := hB144
      refine Sq.assign .plain rfl rfl ?_
      refine Sq.nil ?_
      refine Eq.next ?_
      refine Cq.seq ?_
      refine Cq.region ?_
      refine Sq.loadAgg agg26 .plain rfl rfl hB26 rfl ?_
      refine Sq.loadAgg agg26 .plain rfl rfl hB133 rfl ?_
      refine Sq.call fn16 .plain rfl rfl (prod_c_T _ aX8 (compl aY9) _ _ _ _ hnX12 haX13 (OwnRows.rows hn126) (Own.row ha127) 0 (by exact prodOk_compl2 (prodOk_kind hC (by decide)))) ?_
      rintro _ w146 ⟨⟨_, rfl, nx148, ac149, rfl, hn150, ha151⟩, e147⟩
      have hs152 := Below.size E
      have hs153 := Below.size e147
      replace E := E.trans e147
      replace hnX12 := hnX12.ext e147
      replace haX13 := haX13.ext e147
      replace hnY16 := hnY16.ext e147
      replace haY17 := haY17.ext e147
      replace hB26 := hB26.ext e147
      replace hB33 := hB33.ext e147
      replace hn50 := hn50.ext e147
      replace ha51 := ha51.ext e147
      replace hB57 := hB57.ext e147
      replace hn71 := hn71.ext e147
      replace ha72 := ha72.ext e147
      replace hB78 := hB78.ext e147
      replace hn102 := hn102.ext e147
      replace ha103 := ha103.ext e147
      replace hB109 := hB109.ext e147
      replace hn126 := hn126.ext e147
      replace ha127 := ha127.ext e147
      replace hB133 := hB133.ext e147
      refine Sq.move .plain rfl rfl ?_
      refine Sq.extract .plain rfl rfl rfl ?_
      refine Sq.extract .plain rfl rfl rfl ?_
      refine Sq.alloc zero26 .plain rfl (fun b154 w155 e156 hB157 hlo158 => ?_)
      have hd159 := Nat.le_trans (Below.size E) hlo158
      have hd160 := Nat.lt_of_lt_of_le hB26.lt hlo158
      have hd161 := Nat.lt_of_lt_of_le hB33.lt hlo158
      have hd162 := Nat.lt_of_lt_of_le hB57.lt hlo158
      have hd163 := Nat.lt_of_lt_of_le hB78.lt hlo158
      have hd164 := Nat.lt_of_lt_of_le hB109.lt hlo158
      have hd165 := Nat.lt_of_lt_of_le hB133.lt hlo158
      have hs166 := Below.size e156
      replace E := E.trans e156
      replace hnX12 := hnX12.ext e156
      replace haX13 := haX13.ext e156
      replace hnY16 := hnY16.ext e156
      replace haY17 := haY17.ext e156
      replace hB26 := hB26.ext e156
      replace hB33 := hB33.ext e156
      replace hn50 := hn50.ext e156
      replace ha51 := ha51.ext e156
      replace hB57 := hB57.ext e156
      replace hn71 := hn71.ext e156
      replace ha72 := ha72.ext e156
      replace hB78 := hB78.ext e156
      replace hn102 := hn102.ext e156
      replace ha103 := ha103.ext e156
      replace hB109 := hB109.ext e156
      replace hn126 := hn126.ext e156
      replace ha127 := ha127.ext e156
      replace hB133 := hB133.ext e156
      replace hn150 := hn150.ext e156
      replace ha151 := ha151.ext e156
      refine Sq.storeAgg agg26 .plain rfl rfl (one_cons rfl (one_cons (Rows.one (OwnRows.rows hn150)) (one_cons (Row.one (Own.row ha151)) one_nil))) hB157 rfl rfl (fun w167 g168 hB169 => ?_)
      have hs170 := World.grownBy.size g168
      replace E := E.grown g168 (fun k hk => by injection hk with hk; subst hk; omega)
      replace hnX12 := hnX12.stored g168 hB157 (by decide) (by decide)
      replace haX13 := haX13.stored g168 hB157 (by decide)
      replace hnY16 := hnY16.stored g168 hB157 (by decide) (by decide)
      replace haY17 := haY17.stored g168 hB157 (by decide)
      replace hB26 := hB26.grown g168 (by intro h; injection h with h; omega)
      replace hB33 := hB33.grown g168 (by intro h; injection h with h; omega)
      replace hn50 := hn50.stored g168 hB157 (by decide) (by decide)
      replace ha51 := ha51.stored g168 hB157 (by decide)
      replace hB57 := hB57.grown g168 (by intro h; injection h with h; omega)
      replace hn71 := hn71.stored g168 hB157 (by decide) (by decide)
      replace ha72 := ha72.stored g168 hB157 (by decide)
      replace hB78 := hB78.grown g168 (by intro h; injection h with h; omega)
      replace hn102 := hn102.stored g168 hB157 (by decide) (by decide)
      replace ha103 := ha103.stored g168 hB157 (by decide)
      replace hB109 := hB109.grown g168 (by intro h; injection h with h; omega)
      replace hn126 := hn126.stored g168 hB157 (by decide) (by decide)
      replace ha127 := ha127.stored g168 hB157 (by decide)
      replace hB133 := hB133.grown g168 (by intro h; injection h with h; omega)
      replace hn150 := hn150.stored g168 hB157 (by decide) (by decide)
      replace ha151 := ha151.stored g168 hB157 (by decide)
      replace hB157 := hB169
      refine Sq.assign .plain rfl rfl ?_
      refine Sq.nil ?_
      refine Eq.next ?_
      refine Cq.seq ?_
      refine Cq.region ?_
      refine Sq.move .plain rfl rfl ?_
      refine Sq.move .plain rfl rfl ?_
      refine Sq.move (.met rfl rfl rfl) rfl rfl ?_
      refine Sq.pickT .plain rfl rfl rfl ?_
      refine Sq.move .plain rfl rfl ?_
      refine Sq.loadAgg agg26 (.met rfl rfl rfl) rfl rfl hB109 rfl ?_
      refine Sq.loadAgg agg26 (.met rfl rfl rfl) rfl rfl hB157 rfl ?_
      have hd174 := hB26.lt
      have hd175 := hB33.lt
      have hd176 := hB57.lt
      have hd177 := hB78.lt
      have hd178 := hB109.lt
      have hd179 := hB133.lt
      have hd180 := hB157.lt
      refine Sq.call fn18 (.met rfl rfl rfl) rfl rfl (agAutomata_c _ (prodA aX8 aY9 2) ((prodA aX8 (compl aY9) 0)) _ _ _ _ (OwnRows.rows hn102) (Own.row ha103) (OwnRows.rows hn150) (Own.row ha151) (by first | exact fit_zero | exact fit_of_valid (by first | assumption | exact extend_valid hv hk | exact compl_valid' (extend_valid hv hk) | exact prod_valid hC | exact prod_valid (prodOk_kind hC (by decide))) | assumption)) ?_
      rintro _ w172 ⟨rfl, e173⟩
      have hs181 := Below.size E
      have hs182 := Below.size e173
      replace E := E.trans e173
      replace hnX12 := hnX12.ext e173
      replace haX13 := haX13.ext e173
      replace hnY16 := hnY16.ext e173
      replace haY17 := haY17.ext e173
      replace hB26 := hB26.ext e173
      replace hB33 := hB33.ext e173
      replace hn50 := hn50.ext e173
      replace ha51 := ha51.ext e173
      replace hB57 := hB57.ext e173
      replace hn71 := hn71.ext e173
      replace ha72 := ha72.ext e173
      replace hB78 := hB78.ext e173
      replace hn102 := hn102.ext e173
      replace ha103 := ha103.ext e173
      replace hB109 := hB109.ext e173
      replace hn126 := hn126.ext e173
      replace ha127 := ha127.ext e173
      replace hB133 := hB133.ext e173
      replace hn150 := hn150.ext e173
      replace ha151 := ha151.ext e173
      replace hB157 := hB157.ext e173
      refine Sq.beT (by rw [prod_first hv hv']; exact eqA_refl _) ?_
      refine Sq.pickT .plain rfl rfl rfl ?_
      refine Sq.assign .plain rfl rfl ?_
      refine Sq.nil ?_
      refine Eq.next ?_
      refine Cq.ret ?_
      refine Eq.ret1 rfl rfl ?_
      exact ⟨rfl, E⟩
    · refine Sq.call fn16 .plain rfl rfl (prod_c_F _ aX8 aY9 _ _ _ _ hnX12 haX13 hnY16 haY17 k7 hC) ?_
      rintro _ w183 ⟨⟨_, rfl, nx185, ac186, rfl, hn187, ha188⟩, e184⟩
      have hs189 := Below.size E
      have hs190 := Below.size e184
      replace E := E.trans e184
      replace hnX12 := hnX12.ext e184
      replace haX13 := haX13.ext e184
      replace hnY16 := hnY16.ext e184
      replace haY17 := haY17.ext e184
      replace hB26 := hB26.ext e184
      replace hB33 := hB33.ext e184
      refine Sq.move .plain rfl rfl ?_
      refine Sq.extract .plain rfl rfl rfl ?_
      refine Sq.extract .plain rfl rfl rfl ?_
      refine Sq.alloc zero26 .plain rfl (fun b191 w192 e193 hB194 hlo195 => ?_)
      have hd196 := Nat.le_trans (Below.size E) hlo195
      have hd197 := Nat.lt_of_lt_of_le hB26.lt hlo195
      have hd198 := Nat.lt_of_lt_of_le hB33.lt hlo195
      have hs199 := Below.size e193
      replace E := E.trans e193
      replace hnX12 := hnX12.ext e193
      replace haX13 := haX13.ext e193
      replace hnY16 := hnY16.ext e193
      replace haY17 := haY17.ext e193
      replace hB26 := hB26.ext e193
      replace hB33 := hB33.ext e193
      replace hn187 := hn187.ext e193
      replace ha188 := ha188.ext e193
      refine Sq.storeAgg agg26 .plain rfl rfl (one_cons rfl (one_cons (Rows.one (OwnRows.rows hn187)) (one_cons (Row.one (Own.row ha188)) one_nil))) hB194 rfl rfl (fun w200 g201 hB202 => ?_)
      have hs203 := World.grownBy.size g201
      replace E := E.grown g201 (fun k hk => by injection hk with hk; subst hk; omega)
      replace hnX12 := hnX12.stored g201 hB194 (by decide) (by decide)
      replace haX13 := haX13.stored g201 hB194 (by decide)
      replace hnY16 := hnY16.stored g201 hB194 (by decide) (by decide)
      replace haY17 := haY17.stored g201 hB194 (by decide)
      replace hB26 := hB26.grown g201 (by intro h; injection h with h; omega)
      replace hB33 := hB33.grown g201 (by intro h; injection h with h; omega)
      replace hn187 := hn187.stored g201 hB194 (by decide) (by decide)
      replace ha188 := ha188.stored g201 hB194 (by decide)
      replace hB194 := hB202
      refine Sq.assign .plain rfl rfl ?_
      refine Sq.nil ?_
      refine Eq.next ?_
      refine Cq.seq ?_
      refine Cq.region ?_
      refine Sq.loadAgg agg26 .plain rfl rfl hB26 rfl ?_
      refine Sq.loadAgg agg26 .plain rfl rfl hB33 rfl ?_
      refine Sq.move .plain rfl rfl ?_
      refine Sq.call fn17 .plain rfl rfl (sProd_c_F _ aX8 aY9 _ _ _ _ hnX12 haX13 hnY16 haY17 k7 hC) ?_
      rintro _ w204 ⟨⟨_, rfl, nx206, ac207, rfl, hn208, ha209⟩, e205⟩
      have hs210 := Below.size E
      have hs211 := Below.size e205
      replace E := E.trans e205
      replace hnX12 := hnX12.ext e205
      replace haX13 := haX13.ext e205
      replace hnY16 := hnY16.ext e205
      replace haY17 := haY17.ext e205
      replace hB26 := hB26.ext e205
      replace hB33 := hB33.ext e205
      replace hn187 := hn187.ext e205
      replace ha188 := ha188.ext e205
      replace hB194 := hB194.ext e205
      refine Sq.move .plain rfl rfl ?_
      refine Sq.extract .plain rfl rfl rfl ?_
      refine Sq.extract .plain rfl rfl rfl ?_
      refine Sq.alloc zero26 .plain rfl (fun b212 w213 e214 hB215 hlo216 => ?_)
      have hd217 := Nat.le_trans (Below.size E) hlo216
      have hd218 := Nat.lt_of_lt_of_le hB26.lt hlo216
      have hd219 := Nat.lt_of_lt_of_le hB33.lt hlo216
      have hd220 := Nat.lt_of_lt_of_le hB194.lt hlo216
      have hs221 := Below.size e214
      replace E := E.trans e214
      replace hnX12 := hnX12.ext e214
      replace haX13 := haX13.ext e214
      replace hnY16 := hnY16.ext e214
      replace haY17 := haY17.ext e214
      replace hB26 := hB26.ext e214
      replace hB33 := hB33.ext e214
      replace hn187 := hn187.ext e214
      replace ha188 := ha188.ext e214
      replace hB194 := hB194.ext e214
      replace hn208 := hn208.ext e214
      replace ha209 := ha209.ext e214
      refine Sq.storeAgg agg26 .plain rfl rfl (one_cons rfl (one_cons (Rows.one (OwnRows.rows hn208)) (one_cons (Row.one (Own.row ha209)) one_nil))) hB215 rfl rfl (fun w222 g223 hB224 => ?_)
      have hs225 := World.grownBy.size g223
      replace E := E.grown g223 (fun k hk => by injection hk with hk; subst hk; omega)
      replace hnX12 := hnX12.stored g223 hB215 (by decide) (by decide)
      replace haX13 := haX13.stored g223 hB215 (by decide)
      replace hnY16 := hnY16.stored g223 hB215 (by decide) (by decide)
      replace haY17 := haY17.stored g223 hB215 (by decide)
      replace hB26 := hB26.grown g223 (by intro h; injection h with h; omega)
      replace hB33 := hB33.grown g223 (by intro h; injection h with h; omega)
      replace hn187 := hn187.stored g223 hB215 (by decide) (by decide)
      replace ha188 := ha188.stored g223 hB215 (by decide)
      replace hB194 := hB194.grown g223 (by intro h; injection h with h; omega)
      replace hn208 := hn208.stored g223 hB215 (by decide) (by decide)
      replace ha209 := ha209.stored g223 hB215 (by decide)
      replace hB215 := hB224
      refine Sq.assign .plain rfl rfl ?_
      refine Sq.nil ?_
      refine Eq.next ?_
      refine Cq.seq ?_
      refine Cq.seq ?_
      refine Cq.region ?_
      refine Sq.loadAgg agg26 .plain rfl rfl hB194 rfl ?_
      refine Sq.loadAgg agg26 .plain rfl rfl hB215 rfl ?_
      have hd229 := hB26.lt
      have hd230 := hB33.lt
      have hd231 := hB194.lt
      have hd232 := hB215.lt
      refine Sq.call fn18 .plain rfl rfl (agAutomata_c _ zeroA zeroA _ _ _ _ (OwnRows.rows hn187) (Own.row ha188) (OwnRows.rows hn208) (Own.row ha209) (by first | exact fit_zero | exact fit_of_valid (by first | assumption | exact extend_valid hv hk | exact compl_valid' (extend_valid hv hk) | exact prod_valid hC | exact prod_valid (prodOk_kind hC (by decide))) | assumption)) ?_
      rintro _ w227 ⟨rfl, e228⟩
      have hs233 := Below.size E
      have hs234 := Below.size e228
      replace E := E.trans e228
      replace hnX12 := hnX12.ext e228
      replace haX13 := haX13.ext e228
      replace hnY16 := hnY16.ext e228
      replace haY17 := haY17.ext e228
      replace hB26 := hB26.ext e228
      replace hB33 := hB33.ext e228
      replace hn187 := hn187.ext e228
      replace ha188 := ha188.ext e228
      replace hB194 := hB194.ext e228
      replace hn208 := hn208.ext e228
      replace ha209 := ha209.ext e228
      replace hB215 := hB215.ext e228
      refine Sq.beT (by exact eqA_refl _) ?_
      refine Sq.notT .plain rfl rfl ?_
      refine Sq.move .plain rfl rfl ?_
      refine Sq.move (.met rfl rfl rfl) rfl rfl ?_
      refine Sq.move (.met rfl rfl rfl) rfl rfl ?_
      refine Sq.neqB und4 (.met rfl rfl rfl) rfl rfl rfl ?_
      refine Sq.pickF .plain rfl rfl rfl ?_
      refine Sq.move .plain rfl rfl ?_
      refine Sq.move (.met rfl rfl rfl) rfl rfl ?_
      refine Sq.notF (.met rfl rfl rfl) rfl rfl ?_
      refine Sq.pickF .plain rfl rfl rfl ?_
      refine Sq.nil ?_
      refine Eq.next ?_
      refine Cq.thn rfl ?_
      refine Cq.seq ?_
      refine Cq.region ?_
      refine Sq.loadAgg agg26 .plain rfl rfl hB194 rfl ?_
      refine Sq.loadAgg agg26 .plain rfl rfl hB215 rfl ?_
      have hd238 := hB26.lt
      have hd239 := hB33.lt
      have hd240 := hB194.lt
      have hd241 := hB215.lt
      refine Sq.call fn18 .plain rfl rfl (agAutomata_c _ zeroA zeroA _ _ _ _ (OwnRows.rows hn187) (Own.row ha188) (OwnRows.rows hn208) (Own.row ha209) (by first | exact fit_zero | exact fit_of_valid (by first | assumption | exact extend_valid hv hk | exact compl_valid' (extend_valid hv hk) | exact prod_valid hC | exact prod_valid (prodOk_kind hC (by decide))) | assumption)) ?_
      rintro _ w236 ⟨rfl, e237⟩
      have hs242 := Below.size E
      have hs243 := Below.size e237
      replace E := E.trans e237
      replace hnX12 := hnX12.ext e237
      replace haX13 := haX13.ext e237
      replace hnY16 := hnY16.ext e237
      replace haY17 := haY17.ext e237
      replace hB26 := hB26.ext e237
      replace hB33 := hB33.ext e237
      replace hn187 := hn187.ext e237
      replace ha188 := ha188.ext e237
      replace hB194 := hB194.ext e237
      replace hn208 := hn208.ext e237
      replace ha209 := ha209.ext e237
      replace hB215 := hB215.ext e237
      refine Sq.beT (by exact eqA_refl _) ?_
      refine Sq.move .plain rfl rfl ?_
      refine Sq.move (.met rfl rfl rfl) rfl rfl ?_
      refine Sq.move (.met rfl rfl rfl) rfl rfl ?_
      refine Sq.eqlB und4 (.met rfl rfl rfl) rfl rfl rfl ?_
      refine Sq.pickT .plain rfl rfl rfl ?_
      refine Sq.assign .plain rfl rfl ?_
      refine Sq.nil ?_
      refine Eq.next ?_
      refine Cq.ret ?_
      refine Eq.pastRet ?_
      refine Eq.ret1 rfl rfl ?_
      exact ⟨rfl, E⟩

set_option maxRecDepth 100000 in
theorem lProdMorgan (w0 : World) (e : TypeId) (a0 : Option Addr) (c0 : Nat) (cs : List UInt8) (hc : Bytes w0 e (.slice a0 cs.length c0) cs) (hcap : cs.length ≤ c0) : Ret Try.prog 7 #[Value.slice a0 cs.length c0] w0 (fun v w => v = .bool true ∧ Ext w0 w) := by
  have E := Ext.refl w0
  refine Ret.of (args := [Value.slice a0 cs.length c0]) Try.func7 rfl rfl rfl ?_
  rintro _ rfl
  show Cq _ _ _ _ [(0, Value.slice a0 cs.length c0)] _
  refine Cq.seq ?_
  refine Cq.region ?_
  refine Sq.assign .plain rfl rfl ?_
  refine Sq.nil ?_
  refine Eq.next ?_
  refine Cq.seq ?_
  refine Cq.seq ?_
  refine Cq.region ?_
  refine Sq.move .plain rfl rfl ?_
  refine Sq.lenBytes (hc.ext E) .plain rfl und22 rfl ?_
  refine Sq.gtr .plain rfl rfl rfl ?_
  refine Sq.part (fun c1 => ?_) (fun c1 => ?_)
  · refine Sq.nil ?_
    refine Eq.next ?_
    refine Cq.thn rfl ?_
    refine Cq.seq ?_
    refine Cq.region ?_
    refine Sq.assign .plain rfl rfl ?_
    refine Sq.nil ?_
    refine Eq.next ?_
    refine Cq.ret ?_
    refine Eq.pastRet ?_
    refine Eq.ret1 rfl rfl ?_
    exact ⟨rfl, E⟩
  · refine Sq.nil ?_
    refine Eq.next ?_
    refine Cq.els rfl ?_
    refine Cq.skip ?_
    refine Eq.next ?_
    refine Cq.seq ?_
    refine Cq.region ?_
    refine Sq.move .plain rfl rfl ?_
    refine Sq.call fn15 .plain rfl rfl (drawProd_c _ _ _ _ _ (hc.ext E) hcap) ?_
    rintro v2 w3 ⟨⟨u5, v6, k7, aX8, aY9, rfl, ⟨nxX10, acX11, rfl, hnX12, haX13⟩, ⟨nxY14, acY15, rfl, hnY16, haY17⟩, hsmX18, hsmY19, hk20⟩, e4⟩
    have hs21 := Below.size E
    have hs22 := Below.size e4
    replace E := E.trans e4
    refine Sq.move .plain rfl rfl ?_
    refine Sq.extract .plain rfl rfl rfl ?_
    refine Sq.extract .plain rfl rfl rfl ?_
    refine Sq.extract .plain rfl rfl rfl ?_
    refine Sq.alloc zero26 .plain rfl (fun b23 w24 e25 hB26 hlo27 => ?_)
    have hd28 := Nat.le_trans (Below.size E) hlo27
    have hs29 := Below.size e25
    replace E := E.trans e25
    replace hnX12 := hnX12.ext e25
    replace haX13 := haX13.ext e25
    replace hnY16 := hnY16.ext e25
    replace haY17 := haY17.ext e25
    refine Sq.alloc zero26 .plain rfl (fun b30 w31 e32 hB33 hlo34 => ?_)
    have hd35 := Nat.le_trans (Below.size E) hlo34
    have hd36 := Nat.lt_of_lt_of_le hB26.lt hlo34
    have hs37 := Below.size e32
    replace E := E.trans e32
    replace hnX12 := hnX12.ext e32
    replace haX13 := haX13.ext e32
    replace hnY16 := hnY16.ext e32
    replace haY17 := haY17.ext e32
    replace hB26 := hB26.ext e32
    refine Sq.storeAgg agg26 .plain rfl rfl (one_cons rfl (one_cons (Rows.one hnX12) (one_cons (Row.one haX13) one_nil))) hB26 rfl rfl (fun w38 g39 hB40 => ?_)
    have hs41 := World.grownBy.size g39
    replace E := E.grown g39 (fun k hk => by injection hk with hk; subst hk; omega)
    replace hnX12 := hnX12.stored g39 hB26 (by decide) (by decide)
    replace haX13 := haX13.stored g39 hB26 (by decide)
    replace hnY16 := hnY16.stored g39 hB26 (by decide) (by decide)
    replace haY17 := haY17.stored g39 hB26 (by decide)
    replace hB33 := hB33.grown g39 (by intro h; injection h with h; omega)
    replace hB26 := hB40
    refine Sq.storeAgg agg26 .plain rfl rfl (one_cons rfl (one_cons (Rows.one hnY16) (one_cons (Row.one haY17) one_nil))) hB33 rfl rfl (fun w42 g43 hB44 => ?_)
    have hs45 := World.grownBy.size g43
    replace E := E.grown g43 (fun k hk => by injection hk with hk; subst hk; omega)
    replace hnX12 := hnX12.stored g43 hB33 (by decide) (by decide)
    replace haX13 := haX13.stored g43 hB33 (by decide)
    replace hnY16 := hnY16.stored g43 hB33 (by decide) (by decide)
    replace haY17 := haY17.stored g43 hB33 (by decide)
    replace hB26 := hB26.grown g43 (by intro h; injection h with h; omega)
    replace hB33 := hB44
    refine Sq.assign .plain rfl rfl ?_
    refine Sq.nil ?_
    refine Eq.next ?_
    refine Cq.seq ?_
    refine Cq.region ?_
    refine Sq.loadAgg agg26 .plain rfl rfl hB26 rfl ?_
    refine Sq.loadAgg agg26 .plain rfl rfl hB33 rfl ?_
    refine Sq.move .plain rfl rfl ?_
    rcases Bool.eq_false_or_eq_true (prodOk aX8 aY9 k7) with hC | hC
    · obtain ⟨hv, hv', hk, hl12⟩ := prodOk_spec.1 hC
      refine Sq.call fn16 .plain rfl rfl (prod_c_T _ aX8 aY9 _ _ _ _ hnX12 haX13 hnY16 haY17 k7 hC) ?_
      rintro _ w46 ⟨⟨_, rfl, nx48, ac49, rfl, hn50, ha51⟩, e47⟩
      have hs52 := Below.size E
      have hs53 := Below.size e47
      replace E := E.trans e47
      replace hnX12 := hnX12.ext e47
      replace haX13 := haX13.ext e47
      replace hnY16 := hnY16.ext e47
      replace haY17 := haY17.ext e47
      replace hB26 := hB26.ext e47
      replace hB33 := hB33.ext e47
      refine Sq.move .plain rfl rfl ?_
      refine Sq.extract .plain rfl rfl rfl ?_
      refine Sq.extract .plain rfl rfl rfl ?_
      refine Sq.alloc zero26 .plain rfl (fun b54 w55 e56 hB57 hlo58 => ?_)
      have hd59 := Nat.le_trans (Below.size E) hlo58
      have hd60 := Nat.lt_of_lt_of_le hB26.lt hlo58
      have hd61 := Nat.lt_of_lt_of_le hB33.lt hlo58
      have hs62 := Below.size e56
      replace E := E.trans e56
      replace hnX12 := hnX12.ext e56
      replace haX13 := haX13.ext e56
      replace hnY16 := hnY16.ext e56
      replace haY17 := haY17.ext e56
      replace hB26 := hB26.ext e56
      replace hB33 := hB33.ext e56
      replace hn50 := hn50.ext e56
      replace ha51 := ha51.ext e56
      refine Sq.storeAgg agg26 .plain rfl rfl (one_cons rfl (one_cons (Rows.one (OwnRows.rows hn50)) (one_cons (Row.one (Own.row ha51)) one_nil))) hB57 rfl rfl (fun w63 g64 hB65 => ?_)
      have hs66 := World.grownBy.size g64
      replace E := E.grown g64 (fun k hk => by injection hk with hk; subst hk; omega)
      replace hnX12 := hnX12.stored g64 hB57 (by decide) (by decide)
      replace haX13 := haX13.stored g64 hB57 (by decide)
      replace hnY16 := hnY16.stored g64 hB57 (by decide) (by decide)
      replace haY17 := haY17.stored g64 hB57 (by decide)
      replace hB26 := hB26.grown g64 (by intro h; injection h with h; omega)
      replace hB33 := hB33.grown g64 (by intro h; injection h with h; omega)
      replace hn50 := hn50.stored g64 hB57 (by decide) (by decide)
      replace ha51 := ha51.stored g64 hB57 (by decide)
      replace hB57 := hB65
      refine Sq.assign .plain rfl rfl ?_
      refine Sq.nil ?_
      refine Eq.next ?_
      refine Cq.seq ?_
      refine Cq.region ?_
      refine Sq.loadAgg agg26 .plain rfl rfl hB26 rfl ?_
      refine Sq.loadAgg agg26 .plain rfl rfl hB33 rfl ?_
      refine Sq.move .plain rfl rfl ?_
      refine Sq.call fn17 .plain rfl rfl (sProd_c_T _ aX8 aY9 _ _ _ _ hnX12 haX13 hnY16 haY17 k7 hC) ?_
      rintro _ w67 ⟨⟨_, rfl, nx69, ac70, rfl, hn71, ha72⟩, e68⟩
      have hs73 := Below.size E
      have hs74 := Below.size e68
      replace E := E.trans e68
      replace hnX12 := hnX12.ext e68
      replace haX13 := haX13.ext e68
      replace hnY16 := hnY16.ext e68
      replace haY17 := haY17.ext e68
      replace hB26 := hB26.ext e68
      replace hB33 := hB33.ext e68
      replace hn50 := hn50.ext e68
      replace ha51 := ha51.ext e68
      replace hB57 := hB57.ext e68
      refine Sq.move .plain rfl rfl ?_
      refine Sq.extract .plain rfl rfl rfl ?_
      refine Sq.extract .plain rfl rfl rfl ?_
      refine Sq.alloc zero26 .plain rfl (fun b75 w76 e77 hB78 hlo79 => ?_)
      have hd80 := Nat.le_trans (Below.size E) hlo79
      have hd81 := Nat.lt_of_lt_of_le hB26.lt hlo79
      have hd82 := Nat.lt_of_lt_of_le hB33.lt hlo79
      have hd83 := Nat.lt_of_lt_of_le hB57.lt hlo79
      have hs84 := Below.size e77
      replace E := E.trans e77
      replace hnX12 := hnX12.ext e77
      replace haX13 := haX13.ext e77
      replace hnY16 := hnY16.ext e77
      replace haY17 := haY17.ext e77
      replace hB26 := hB26.ext e77
      replace hB33 := hB33.ext e77
      replace hn50 := hn50.ext e77
      replace ha51 := ha51.ext e77
      replace hB57 := hB57.ext e77
      replace hn71 := hn71.ext e77
      replace ha72 := ha72.ext e77
      refine Sq.storeAgg agg26 .plain rfl rfl (one_cons rfl (one_cons (Rows.one (OwnRows.rows hn71)) (one_cons (Row.one (Own.row ha72)) one_nil))) hB78 rfl rfl (fun w85 g86 hB87 => ?_)
      have hs88 := World.grownBy.size g86
      replace E := E.grown g86 (fun k hk => by injection hk with hk; subst hk; omega)
      replace hnX12 := hnX12.stored g86 hB78 (by decide) (by decide)
      replace haX13 := haX13.stored g86 hB78 (by decide)
      replace hnY16 := hnY16.stored g86 hB78 (by decide) (by decide)
      replace haY17 := haY17.stored g86 hB78 (by decide)
      replace hB26 := hB26.grown g86 (by intro h; injection h with h; omega)
      replace hB33 := hB33.grown g86 (by intro h; injection h with h; omega)
      replace hn50 := hn50.stored g86 hB78 (by decide) (by decide)
      replace ha51 := ha51.stored g86 hB78 (by decide)
      replace hB57 := hB57.grown g86 (by intro h; injection h with h; omega)
      replace hn71 := hn71.stored g86 hB78 (by decide) (by decide)
      replace ha72 := ha72.stored g86 hB78 (by decide)
      replace hB78 := hB87
      refine Sq.assign .plain rfl rfl ?_
      refine Sq.nil ?_
      refine Eq.next ?_
      refine Cq.seq ?_
      refine Cq.seq ?_
      refine Cq.region ?_
      refine Sq.loadAgg agg26 .plain rfl rfl hB57 rfl ?_
      refine Sq.loadAgg agg26 .plain rfl rfl hB78 rfl ?_
      have hd92 := hB26.lt
      have hd93 := hB33.lt
      have hd94 := hB57.lt
      have hd95 := hB78.lt
      refine Sq.call fn18 .plain rfl rfl (agAutomata_c _ (prodA aX8 aY9 k7) (prodA aX8 aY9 k7) _ _ _ _ (OwnRows.rows hn50) (Own.row ha51) (OwnRows.rows hn71) (Own.row ha72) (by first | exact fit_zero | exact fit_of_valid (by first | assumption | exact extend_valid hv hk | exact compl_valid' (extend_valid hv hk) | exact prod_valid hC | exact prod_valid (prodOk_kind hC (by decide)) | exact compl_valid' (prod_valid (prodOk_kind hC (by decide)))) | assumption)) ?_
      rintro _ w90 ⟨rfl, e91⟩
      have hs96 := Below.size E
      have hs97 := Below.size e91
      replace E := E.trans e91
      replace hnX12 := hnX12.ext e91
      replace haX13 := haX13.ext e91
      replace hnY16 := hnY16.ext e91
      replace haY17 := haY17.ext e91
      replace hB26 := hB26.ext e91
      replace hB33 := hB33.ext e91
      replace hn50 := hn50.ext e91
      replace ha51 := ha51.ext e91
      replace hB57 := hB57.ext e91
      replace hn71 := hn71.ext e91
      replace ha72 := ha72.ext e91
      replace hB78 := hB78.ext e91
      refine Sq.beT (by exact eqA_refl _) ?_
      refine Sq.notT .plain rfl rfl ?_
      refine Sq.move .plain rfl rfl ?_
      refine Sq.move (.met rfl rfl rfl) rfl rfl ?_
      refine Sq.move (.met rfl rfl rfl) rfl rfl ?_
      refine Sq.neqB und4 (.met rfl rfl rfl) rfl rfl rfl ?_
      refine Sq.pickF .plain rfl rfl rfl ?_
      refine Sq.move .plain rfl rfl ?_
      refine Sq.move (.met rfl rfl rfl) rfl rfl ?_
      refine Sq.notT (.met rfl rfl rfl) rfl rfl ?_
      refine Sq.pickF .plain rfl rfl rfl ?_
      refine Sq.nil ?_
      refine Eq.next ?_
      refine Cq.els rfl ?_
      refine Cq.skip ?_
      refine Eq.next ?_
      refine Cq.seq ?_
      refine Cq.region ?_
      refine Sq.loadAgg agg26 .plain rfl rfl hB26 rfl ?_
      refine Sq.loadAgg agg26 .plain rfl rfl hB33 rfl ?_
      refine Sq.call fn16 .plain rfl rfl (prod_c_T _ aX8 aY9 _ _ _ _ hnX12 haX13 hnY16 haY17 1 (by exact prodOk_kind hC (by decide))) ?_
      rintro _ w98 ⟨⟨_, rfl, nx100, ac101, rfl, hn102, ha103⟩, e99⟩
      have hs104 := Below.size E
      have hs105 := Below.size e99
      replace E := E.trans e99
      replace hnX12 := hnX12.ext e99
      replace haX13 := haX13.ext e99
      replace hnY16 := hnY16.ext e99
      replace haY17 := haY17.ext e99
      replace hB26 := hB26.ext e99
      replace hB33 := hB33.ext e99
      replace hn50 := hn50.ext e99
      replace ha51 := ha51.ext e99
      replace hB57 := hB57.ext e99
      replace hn71 := hn71.ext e99
      replace ha72 := ha72.ext e99
      replace hB78 := hB78.ext e99
      refine Sq.move .plain rfl rfl ?_
      refine Sq.extract .plain rfl rfl rfl ?_
      refine Sq.extract .plain rfl rfl rfl ?_
      refine Sq.alloc zero26 .plain rfl (fun b106 w107 e108 hB109 hlo110 => ?_)
      have hd111 := Nat.le_trans (Below.size E) hlo110
      have hd112 := Nat.lt_of_lt_of_le hB26.lt hlo110
      have hd113 := Nat.lt_of_lt_of_le hB33.lt hlo110
      have hd114 := Nat.lt_of_lt_of_le hB57.lt hlo110
      have hd115 := Nat.lt_of_lt_of_le hB78.lt hlo110
      have hs116 := Below.size e108
      replace E := E.trans e108
      replace hnX12 := hnX12.ext e108
      replace haX13 := haX13.ext e108
      replace hnY16 := hnY16.ext e108
      replace haY17 := haY17.ext e108
      replace hB26 := hB26.ext e108
      replace hB33 := hB33.ext e108
      replace hn50 := hn50.ext e108
      replace ha51 := ha51.ext e108
      replace hB57 := hB57.ext e108
      replace hn71 := hn71.ext e108
      replace ha72 := ha72.ext e108
      replace hB78 := hB78.ext e108
      replace hn102 := hn102.ext e108
      replace ha103 := ha103.ext e108
      refine Sq.storeAgg agg26 .plain rfl rfl (one_cons rfl (one_cons (Rows.one (OwnRows.rows hn102)) (one_cons (Row.one (Own.row ha103)) one_nil))) hB109 rfl rfl (fun w117 g118 hB119 => ?_)
      have hs120 := World.grownBy.size g118
      replace E := E.grown g118 (fun k hk => by injection hk with hk; subst hk; omega)
      replace hnX12 := hnX12.stored g118 hB109 (by decide) (by decide)
      replace haX13 := haX13.stored g118 hB109 (by decide)
      replace hnY16 := hnY16.stored g118 hB109 (by decide) (by decide)
      replace haY17 := haY17.stored g118 hB109 (by decide)
      replace hB26 := hB26.grown g118 (by intro h; injection h with h; omega)
      replace hB33 := hB33.grown g118 (by intro h; injection h with h; omega)
      replace hn50 := hn50.stored g118 hB109 (by decide) (by decide)
      replace ha51 := ha51.stored g118 hB109 (by decide)
      replace hB57 := hB57.grown g118 (by intro h; injection h with h; omega)
      replace hn71 := hn71.stored g118 hB109 (by decide) (by decide)
      replace ha72 := ha72.stored g118 hB109 (by decide)
      replace hB78 := hB78.grown g118 (by intro h; injection h with h; omega)
      replace hn102 := hn102.stored g118 hB109 (by decide) (by decide)
      replace ha103 := ha103.stored g118 hB109 (by decide)
      replace hB109 := hB119
      refine Sq.assign .plain rfl rfl ?_
      refine Sq.nil ?_
      refine Eq.next ?_
      refine Cq.seq ?_
      refine Cq.region ?_
      refine Sq.loadAgg agg26 .plain rfl rfl hB26 rfl ?_
      refine Sq.call fn21 .plain rfl rfl (compl_c_T _ aX8 _ _ hnX12 haX13 (by exact hv)) ?_
      rintro _ w122 ⟨⟨_, rfl, nx124, ac125, rfl, hn126, ha127⟩, e123⟩
      have hs128 := Below.size E
      have hs129 := Below.size e123
      replace E := E.trans e123
      replace hnX12 := hnX12.ext e123
      replace haX13 := haX13.ext e123
      replace hnY16 := hnY16.ext e123
      replace haY17 := haY17.ext e123
      replace hB26 := hB26.ext e123
      replace hB33 := hB33.ext e123
      replace hn50 := hn50.ext e123
      replace ha51 := ha51.ext e123
      replace hB57 := hB57.ext e123
      replace hn71 := hn71.ext e123
      replace ha72 := ha72.ext e123
      replace hB78 := hB78.ext e123
      replace hn102 := hn102.ext e123
      replace ha103 := ha103.ext e123
      replace hB109 := hB109.ext e123
      refine Sq.move .plain rfl rfl ?_
      refine Sq.extract .plain rfl rfl rfl ?_
      refine Sq.extract .plain rfl rfl rfl ?_
      refine Sq.alloc zero26 .plain rfl (fun b130 w131 e132 hB133 hlo134 => ?_)
      have hd135 := Nat.le_trans (Below.size E) hlo134
      have hd136 := Nat.lt_of_lt_of_le hB26.lt hlo134
      have hd137 := Nat.lt_of_lt_of_le hB33.lt hlo134
      have hd138 := Nat.lt_of_lt_of_le hB57.lt hlo134
      have hd139 := Nat.lt_of_lt_of_le hB78.lt hlo134
      have hd140 := Nat.lt_of_lt_of_le hB109.lt hlo134
      have hs141 := Below.size e132
      replace E := E.trans e132
      replace hnX12 := hnX12.ext e132
      replace haX13 := haX13.ext e132
      replace hnY16 := hnY16.ext e132
      replace haY17 := haY17.ext e132
      replace hB26 := hB26.ext e132
      replace hB33 := hB33.ext e132
      replace hn50 := hn50.ext e132
      replace ha51 := ha51.ext e132
      replace hB57 := hB57.ext e132
      replace hn71 := hn71.ext e132
      replace ha72 := ha72.ext e132
      replace hB78 := hB78.ext e132
      replace hn102 := hn102.ext e132
      replace ha103 := ha103.ext e132
      replace hB109 := hB109.ext e132
      replace hn126 := hn126.ext e132
      replace ha127 := ha127.ext e132
      refine Sq.storeAgg agg26 .plain rfl rfl (one_cons rfl (one_cons (Rows.one (OwnRows.rows hn126)) (one_cons (Row.one (Own.row ha127)) one_nil))) hB133 rfl rfl (fun w142 g143 hB144 => ?_)
      have hs145 := World.grownBy.size g143
      replace E := E.grown g143 (fun k hk => by injection hk with hk; subst hk; omega)
      replace hnX12 := hnX12.stored g143 hB133 (by decide) (by decide)
      replace haX13 := haX13.stored g143 hB133 (by decide)
      replace hnY16 := hnY16.stored g143 hB133 (by decide) (by decide)
      replace haY17 := haY17.stored g143 hB133 (by decide)
      replace hB26 := hB26.grown g143 (by intro h; injection h with h; omega)
      replace hB33 := hB33.grown g143 (by intro h; injection h with h; omega)
      replace hn50 := hn50.stored g143 hB133 (by decide) (by decide)
      replace ha51 := ha51.stored g143 hB133 (by decide)
      replace hB57 := hB57.grown g143 (by intro h; injection h with h; omega)
      replace hn71 := hn71.stored g143 hB133 (by decide) (by decide)
      replace ha72 := ha72.stored g143 hB133 (by decide)
      replace hB78 := hB78.grown g143 (by intro h; injection h with h; omega)
      replace hn102 := hn102.stored g143 hB133 (by decide) (by decide)
      replace ha103 := ha103.stored g143 hB133 (by decide)
      replace hB109 := hB109.grown g143 (by intro h; injection h with h; omega)
      replace hn126 := hn126.stored g143 hB133 (by decide) (by decide)
      replace ha127 := ha127.stored g143 hB133 (by decide)
      replace hB133 := hB144
      refine Sq.assign .plain rfl rfl ?_
      refine Sq.nil ?_
      refine Eq.next ?_
      refine Cq.seq ?_
      refine Cq.region ?_
      refine Sq.loadAgg agg26 .plain rfl rfl hB33 rfl ?_
      refine Sq.call fn21 .plain rfl rfl (compl_c_T _ aY9 _ _ hnY16 haY17 (by exact hv')) ?_
      rintro _ w147 ⟨⟨_, rfl, nx149, ac150, rfl, hn151, ha152⟩, e148⟩
      have hs153 := Below.size E
      have hs154 := Below.size e148
      replace E := E.trans e148
      replace hnX12 := hnX12.ext e148
      replace haX13 := haX13.ext e148
      replace hnY16 := hnY16.ext e148
      replace haY17 := haY17.ext e148
      replace hB26 := hB26.ext e148
      replace hB33 := hB33.ext e148
      replace hn50 := hn50.ext e148
      replace ha51 := ha51.ext e148
      replace hB57 := hB57.ext e148
      replace hn71 := hn71.ext e148
      replace ha72 := ha72.ext e148
      replace hB78 := hB78.ext e148
      replace hn102 := hn102.ext e148
      replace ha103 := ha103.ext e148
      replace hB109 := hB109.ext e148
      replace hn126 := hn126.ext e148
      replace ha127 := ha127.ext e148
      replace hB133 := hB133.ext e148
      refine Sq.move .plain rfl rfl ?_
      refine Sq.extract .plain rfl rfl rfl ?_
      refine Sq.extract .plain rfl rfl rfl ?_
      refine Sq.alloc zero26 .plain rfl (fun b155 w156 e157 hB158 hlo159 => ?_)
      have hd160 := Nat.le_trans (Below.size E) hlo159
      have hd161 := Nat.lt_of_lt_of_le hB26.lt hlo159
      have hd162 := Nat.lt_of_lt_of_le hB33.lt hlo159
      have hd163 := Nat.lt_of_lt_of_le hB57.lt hlo159
      have hd164 := Nat.lt_of_lt_of_le hB78.lt hlo159
      have hd165 := Nat.lt_of_lt_of_le hB109.lt hlo159
      have hd166 := Nat.lt_of_lt_of_le hB133.lt hlo159
      have hs167 := Below.size e157
      replace E := E.trans e157
      replace hnX12 := hnX12.ext e157
      replace haX13 := haX13.ext e157
      replace hnY16 := hnY16.ext e157
      replace haY17 := haY17.ext e157
      replace hB26 := hB26.ext e157
      replace hB33 := hB33.ext e157
      replace hn50 := hn50.ext e157
      replace ha51 := ha51.ext e157
      replace hB57 := hB57.ext e157
      replace hn71 := hn71.ext e157
      replace ha72 := ha72.ext e157
      replace hB78 := hB78.ext e157
      replace hn102 := hn102.ext e157
      replace ha103 := ha103.ext e157
      replace hB109 := hB109.ext e157
      replace hn126 := hn126.ext e157
      replace ha127 := ha127.ext e157
      replace hB133 := hB133.ext e157
      replace hn151 := hn151.ext e157
      replace ha152 := ha152.ext e157
      refine Sq.storeAgg agg26 .plain rfl rfl (one_cons rfl (one_cons (Rows.one (OwnRows.rows hn151)) (one_cons (Row.one (Own.row ha152)) one_nil))) hB158 rfl rfl (fun w168 g169 hB170 => ?_)
      have hs171 := World.grownBy.size g169
      replace E := E.grown g169 (fun k hk => by injection hk with hk; subst hk; omega)
      replace hnX12 := hnX12.stored g169 hB158 (by decide) (by decide)
      replace haX13 := haX13.stored g169 hB158 (by decide)
      replace hnY16 := hnY16.stored g169 hB158 (by decide) (by decide)
      replace haY17 := haY17.stored g169 hB158 (by decide)
      replace hB26 := hB26.grown g169 (by intro h; injection h with h; omega)
      replace hB33 := hB33.grown g169 (by intro h; injection h with h; omega)
      replace hn50 := hn50.stored g169 hB158 (by decide) (by decide)
      replace ha51 := ha51.stored g169 hB158 (by decide)
      replace hB57 := hB57.grown g169 (by intro h; injection h with h; omega)
      replace hn71 := hn71.stored g169 hB158 (by decide) (by decide)
      replace ha72 := ha72.stored g169 hB158 (by decide)
      replace hB78 := hB78.grown g169 (by intro h; injection h with h; omega)
      replace hn102 := hn102.stored g169 hB158 (by decide) (by decide)
      replace ha103 := ha103.stored g169 hB158 (by decide)
      replace hB109 := hB109.grown g169 (by intro h; injection h with h; omega)
      replace hn126 := hn126.stored g169 hB158 (by decide) (by decide)
      replace ha127 := ha127.stored g169 hB158 (by decide)
      replace hB133 := hB133.grown g169 (by intro h; injection h with h; omega)
      replace hn151 := hn151.stored g169 hB158 (by decide) (by decide)
      replace ha152 := ha152.stored g169 hB158 (by decide)
      replace hB158 := hB170
      refine Sq.assign .plain rfl rfl ?_
      refine Sq.nil ?_
      refine Eq.next ?_
      refine Cq.seq ?_
      refine Cq.region ?_
      refine Sq.loadAgg agg26 .plain rfl rfl hB133 rfl ?_
      refine Sq.loadAgg agg26 .plain rfl rfl hB158 rfl ?_
      refine Sq.call fn16 .plain rfl rfl (prod_c_T _ (compl aX8) (compl aY9) _ _ _ _ (OwnRows.rows hn126) (Own.row ha127) (OwnRows.rows hn151) (Own.row ha152) 0 (by exact prodOk_compl (prodOk_kind hC (by decide)))) ?_
      rintro _ w172 ⟨⟨_, rfl, nx174, ac175, rfl, hn176, ha177⟩, e173⟩
      have hs178 := Below.size E
      have hs179 := Below.size e173
      replace E := E.trans e173
      replace hnX12 := hnX12.ext e173
      replace haX13 := haX13.ext e173
      replace hnY16 := hnY16.ext e173
      replace haY17 := haY17.ext e173
      replace hB26 := hB26.ext e173
      replace hB33 := hB33.ext e173
      replace hn50 := hn50.ext e173
      replace ha51 := ha51.ext e173
      replace hB57 := hB57.ext e173
      replace hn71 := hn71.ext e173
      replace ha72 := ha72.ext e173
      replace hB78 := hB78.ext e173
      replace hn102 := hn102.ext e173
      replace ha103 := ha103.ext e173
      replace hB109 := hB109.ext e173
      replace hn126 := hn126.ext e173
      replace ha127 := ha127.ext e173
      replace hB133 := hB133.ext e173
      replace hn151 := hn151.ext e173
      replace ha152 := ha152.ext e173
      replace hB158 := hB158.ext e173
      refine Sq.move .plain rfl rfl ?_
      refine Sq.extract .plain rfl rfl rfl ?_
      refine Sq.extract .plain rfl rfl rfl ?_
      refine Sq.alloc zero26 .plain rfl (fun b180 w181 e182 hB183 hlo184 => ?_)
      have hd185 := Nat.le_trans (Below.size E) hlo184
      have hd186 := Nat.lt_of_lt_of_le hB26.lt hlo184
      have hd187 := Nat.lt_of_lt_of_le hB33.lt hlo184
      have hd188 := Nat.lt_of_lt_of_le hB57.lt hlo184
      have hd189 := Nat.lt_of_lt_of_le hB78.lt hlo184
      have hd190 := Nat.lt_of_lt_of_le hB109.lt hlo184
      have hd191 := Nat.lt_of_lt_of_le hB133.lt hlo184
      have hd192 := Nat.lt_of_lt_of_le hB158.lt hlo184
      have hs193 := Below.size e182
      replace E := E.trans e182
      replace hnX12 := hnX12.ext e182
      replace haX13 := haX13.ext e182
      replace hnY16 := hnY16.ext e182
      replace haY17 := haY17.ext e182
      replace hB26 := hB26.ext e182
      replace hB33 := hB33.ext e182
      replace hn50 := hn50.ext e182
      replace ha51 := ha51.ext e182
      replace hB57 := hB57.ext e182
      replace hn71 := hn71.ext e182
      replace ha72 := ha72.ext e182
      replace hB78 := hB78.ext e182
      replace hn102 := hn102.ext e182
      replace ha103 := ha103.ext e182
      replace hB109 := hB109.ext e182
      replace hn126 := hn126.ext e182
      replace ha127 := ha127.ext e182
      replace hB133 := hB133.ext e182
      replace hn151 := hn151.ext e182
      replace ha152 := ha152.ext e182
      replace hB158 := hB158.ext e182
      replace hn176 := hn176.ext e182
      replace ha177 := ha177.ext e182
      refine Sq.storeAgg agg26 .plain rfl rfl (one_cons rfl (one_cons (Rows.one (OwnRows.rows hn176)) (one_cons (Row.one (Own.row ha177)) one_nil))) hB183 rfl rfl (fun w194 g195 hB196 => ?_)
      have hs197 := World.grownBy.size g195
      replace E := E.grown g195 (fun k hk => by injection hk with hk; subst hk; omega)
      replace hnX12 := hnX12.stored g195 hB183 (by decide) (by decide)
      replace haX13 := haX13.stored g195 hB183 (by decide)
      replace hnY16 := hnY16.stored g195 hB183 (by decide) (by decide)
      replace haY17 := haY17.stored g195 hB183 (by decide)
      replace hB26 := hB26.grown g195 (by intro h; injection h with h; omega)
      replace hB33 := hB33.grown g195 (by intro h; injection h with h; omega)
      replace hn50 := hn50.stored g195 hB183 (by decide) (by decide)
      replace ha51 := ha51.stored g195 hB183 (by decide)
      replace hB57 := hB57.grown g195 (by intro h; injection h with h; omega)
      replace hn71 := hn71.stored g195 hB183 (by decide) (by decide)
      replace ha72 := ha72.stored g195 hB183 (by decide)
      replace hB78 := hB78.grown g195 (by intro h; injection h with h; omega)
      replace hn102 := hn102.stored g195 hB183 (by decide) (by decide)
      replace ha103 := ha103.stored g195 hB183 (by decide)
      replace hB109 := hB109.grown g195 (by intro h; injection h with h; omega)
      replace hn126 := hn126.stored g195 hB183 (by decide) (by decide)
      replace ha127 := ha127.stored g195 hB183 (by decide)
      replace hB133 := hB133.grown g195 (by intro h; injection h with h; omega)
      replace hn151 := hn151.stored g195 hB183 (by decide) (by decide)
      replace ha152 := ha152.stored g195 hB183 (by decide)
      replace hB158 := hB158.grown g195 (by intro h; injection h with h; omega)
      replace hn176 := hn176.stored g195 hB183 (by decide) (by decide)
      replace ha177 := ha177.stored g195 hB183 (by decide)
      replace hB183 := hB196
      refine Sq.assign .plain rfl rfl ?_
      refine Sq.nil ?_
      refine Eq.next ?_
      refine Cq.seq ?_
      refine Cq.region ?_
      refine Sq.loadAgg agg26 .plain rfl rfl hB109 rfl ?_
      refine Sq.call fn21 .plain rfl rfl (compl_c_T _ (prodA aX8 aY9 1) _ _ (OwnRows.rows hn102) (Own.row ha103) (by exact prod_valid (prodOk_kind hC (by decide)))) ?_
      rintro _ w199 ⟨⟨_, rfl, nx201, ac202, rfl, hn203, ha204⟩, e200⟩
      have hs205 := Below.size E
      have hs206 := Below.size e200
      replace E := E.trans e200
      replace hnX12 := hnX12.ext e200
      replace haX13 := haX13.ext e200
      replace hnY16 := hnY16.ext e200
      replace haY17 := haY17.ext e200
      replace hB26 := hB26.ext e200
      replace hB33 := hB33.ext e200
      replace hn50 := hn50.ext e200
      replace ha51 := ha51.ext e200
      replace hB57 := hB57.ext e200
      replace hn71 := hn71.ext e200
      replace ha72 := ha72.ext e200
      replace hB78 := hB78.ext e200
      replace hn102 := hn102.ext e200
      replace ha103 := ha103.ext e200
      replace hB109 := hB109.ext e200
      replace hn126 := hn126.ext e200
      replace ha127 := ha127.ext e200
      replace hB133 := hB133.ext e200
      replace hn151 := hn151.ext e200
      replace ha152 := ha152.ext e200
      replace hB158 := hB158.ext e200
      replace hn176 := hn176.ext e200
      replace ha177 := ha177.ext e200
      replace hB183 := hB183.ext e200
      refine Sq.move .plain rfl rfl ?_
      refine Sq.extract .plain rfl rfl rfl ?_
      refine Sq.extract .plain rfl rfl rfl ?_
      refine Sq.alloc zero26 .plain rfl (fun b207 w208 e209 hB210 hlo211 => ?_)
      have hd212 := Nat.le_trans (Below.size E) hlo211
      have hd213 := Nat.lt_of_lt_of_le hB26.lt hlo211
      have hd214 := Nat.lt_of_lt_of_le hB33.lt hlo211
      have hd215 := Nat.lt_of_lt_of_le hB57.lt hlo211
      have hd216 := Nat.lt_of_lt_of_le hB78.lt hlo211
      have hd217 := Nat.lt_of_lt_of_le hB109.lt hlo211
      have hd218 := Nat.lt_of_lt_of_le hB133.lt hlo211
      have hd219 := Nat.lt_of_lt_of_le hB158.lt hlo211
      have hd220 := Nat.lt_of_lt_of_le hB183.lt hlo211
      have hs221 := Below.size e209
      replace E := E.trans e209
      replace hnX12 := hnX12.ext e209
      replace haX13 := haX13.ext e209
      replace hnY16 := hnY16.ext e209
      replace haY17 := haY17.ext e209
      replace hB26 := hB26.ext e209
      replace hB33 := hB33.ext e209
      replace hn50 := hn50.ext e209
      replace ha51 := ha51.ext e209
      replace hB57 := hB57.ext e209
      replace hn71 := hn71.ext e209
      replace ha72 := ha72.ext e209
      replace hB78 := hB78.ext e209
      replace hn102 := hn102.ext e209
      replace ha103 := ha103.ext e209
      replace hB109 := hB109.ext e209
      replace hn126 := hn126.ext e209
      replace ha127 := ha127.ext e209
      replace hB133 := hB133.ext e209
      replace hn151 := hn151.ext e209
      replace ha152 := ha152.ext e209
      replace hB158 := hB158.ext e209
      replace hn176 := hn176.ext e209
      replace ha177 := ha177.ext e209
      replace hB183 := hB183.ext e209
      replace hn203 := hn203.ext e209
      replace ha204 := ha204.ext e209
      refine Sq.storeAgg agg26 .plain rfl rfl (one_cons rfl (one_cons (Rows.one (OwnRows.rows hn203)) (one_cons (Row.one (Own.row ha204)) one_nil))) hB210 rfl rfl (fun w222 g223 hB224 => ?_)
      have hs225 := World.grownBy.size g223
      replace E := E.grown g223 (fun k hk => by injection hk with hk; subst hk; omega)
      replace hnX12 := hnX12.stored g223 hB210 (by decide) (by decide)
      replace haX13 := haX13.stored g223 hB210 (by decide)
      replace hnY16 := hnY16.stored g223 hB210 (by decide) (by decide)
      replace haY17 := haY17.stored g223 hB210 (by decide)
      replace hB26 := hB26.grown g223 (by intro h; injection h with h; omega)
      replace hB33 := hB33.grown g223 (by intro h; injection h with h; omega)
      replace hn50 := hn50.stored g223 hB210 (by decide) (by decide)
      replace ha51 := ha51.stored g223 hB210 (by decide)
      replace hB57 := hB57.grown g223 (by intro h; injection h with h; omega)
      replace hn71 := hn71.stored g223 hB210 (by decide) (by decide)
      replace ha72 := ha72.stored g223 hB210 (by decide)
      replace hB78 := hB78.grown g223 (by intro h; injection h with h; omega)
      replace hn102 := hn102.stored g223 hB210 (by decide) (by decide)
      replace ha103 := ha103.stored g223 hB210 (by decide)
      replace hB109 := hB109.grown g223 (by intro h; injection h with h; omega)
      replace hn126 := hn126.stored g223 hB210 (by decide) (by decide)
      replace ha127 := ha127.stored g223 hB210 (by decide)
      replace hB133 := hB133.grown g223 (by intro h; injection h with h; omega)
      replace hn151 := hn151.stored g223 hB210 (by decide) (by decide)
      replace ha152 := ha152.stored g223 hB210 (by decide)
      replace hB158 := hB158.grown g223 (by intro h; injection h with h; omega)
      replace hn176 := hn176.stored g223 hB210 (by decide) (by decide)
      replace ha177 := ha177.stored g223 hB210 (by decide)
      replace hB183 := hB183.grown g223 (by intro h; injection h with h; omega)
      replace hn203 := hn203.stored g223 hB210 (by decide) (by decide)
      replace ha204 := ha204.stored g223 hB210 (by decide)
      replace hB210 := hB224
      refine Sq.assign .plain rfl rfl ?_
      refine Sq.nil ?_
      refine Eq.next ?_
      refine Cq.seq ?_
      refine Cq.region ?_
      refine Sq.move .plain rfl rfl ?_
      refine Sq.move .plain rfl rfl ?_
      refine Sq.move (.met rfl rfl rfl) rfl rfl ?_
      refine Sq.pickT .plain rfl rfl rfl ?_
      refine Sq.move .plain rfl rfl ?_
      refine Sq.loadAgg agg26 (.met rfl rfl rfl) rfl rfl hB210 rfl ?_
      refine Sq.loadAgg agg26 (.met rfl rfl rfl) rfl rfl hB183 rfl ?_
      have hd229 := hB26.lt
      have hd230 := hB33.lt
      have hd231 := hB57.lt
      have hd232 := hB78.lt
      have hd233 := hB109.lt
      have hd234 := hB133.lt
      have hd235 := hB158.lt
      have hd236 := hB183.lt
      have hd237 := hB210.lt
      refine Sq.call fn18 (.met rfl rfl rfl) rfl rfl (agAutomata_c _ ((compl (prodA aX8 aY9 1))) ((prodA (compl aX8) (compl aY9) 0)) _ _ _ _ (OwnRows.rows hn203) (Own.row ha204) (OwnRows.rows hn176) (Own.row ha177) (by first | exact fit_zero | exact fit_of_valid (by first | assumption | exact extend_valid hv hk | exact compl_valid' (extend_valid hv hk) | exact prod_valid hC | exact prod_valid (prodOk_kind hC (by decide)) | exact compl_valid' (prod_valid (prodOk_kind hC (by decide)))) | assumption)) ?_
      rintro _ w227 ⟨rfl, e228⟩
      have hs238 := Below.size E
      have hs239 := Below.size e228
      replace E := E.trans e228
      replace hnX12 := hnX12.ext e228
      replace haX13 := haX13.ext e228
      replace hnY16 := hnY16.ext e228
      replace haY17 := haY17.ext e228
      replace hB26 := hB26.ext e228
      replace hB33 := hB33.ext e228
      replace hn50 := hn50.ext e228
      replace ha51 := ha51.ext e228
      replace hB57 := hB57.ext e228
      replace hn71 := hn71.ext e228
      replace ha72 := ha72.ext e228
      replace hB78 := hB78.ext e228
      replace hn102 := hn102.ext e228
      replace ha103 := ha103.ext e228
      replace hB109 := hB109.ext e228
      replace hn126 := hn126.ext e228
      replace ha127 := ha127.ext e228
      replace hB133 := hB133.ext e228
      replace hn151 := hn151.ext e228
      replace ha152 := ha152.ext e228
      replace hB158 := hB158.ext e228
      replace hn176 := hn176.ext e228
      replace ha177 := ha177.ext e228
      replace hB183 := hB183.ext e228
      replace hn203 := hn203.ext e228
      replace ha204 := ha204.ext e228
      replace hB210 := hB210.ext e228
      refine Sq.beT (by rw [prod_morgan hv hv']; exact eqA_refl _) ?_
      refine Sq.pickT .plain rfl rfl rfl ?_
      refine Sq.assign .plain rfl rfl ?_
      refine Sq.nil ?_
      refine Eq.next ?_
      refine Cq.ret ?_
      refine Eq.ret1 rfl rfl ?_
      exact ⟨rfl, E⟩
    · refine Sq.call fn16 .plain rfl rfl (prod_c_F _ aX8 aY9 _ _ _ _ hnX12 haX13 hnY16 haY17 k7 hC) ?_
      rintro _ w240 ⟨⟨_, rfl, nx242, ac243, rfl, hn244, ha245⟩, e241⟩
      have hs246 := Below.size E
      have hs247 := Below.size e241
      replace E := E.trans e241
      replace hnX12 := hnX12.ext e241
      replace haX13 := haX13.ext e241
      replace hnY16 := hnY16.ext e241
      replace haY17 := haY17.ext e241
      replace hB26 := hB26.ext e241
      replace hB33 := hB33.ext e241
      refine Sq.move .plain rfl rfl ?_
      refine Sq.extract .plain rfl rfl rfl ?_
      refine Sq.extract .plain rfl rfl rfl ?_
      refine Sq.alloc zero26 .plain rfl (fun b248 w249 e250 hB251 hlo252 => ?_)
      have hd253 := Nat.le_trans (Below.size E) hlo252
      have hd254 := Nat.lt_of_lt_of_le hB26.lt hlo252
      have hd255 := Nat.lt_of_lt_of_le hB33.lt hlo252
      have hs256 := Below.size e250
      replace E := E.trans e250
      replace hnX12 := hnX12.ext e250
      replace haX13 := haX13.ext e250
      replace hnY16 := hnY16.ext e250
      replace haY17 := haY17.ext e250
      replace hB26 := hB26.ext e250
      replace hB33 := hB33.ext e250
      replace hn244 := hn244.ext e250
      replace ha245 := ha245.ext e250
      refine Sq.storeAgg agg26 .plain rfl rfl (one_cons rfl (one_cons (Rows.one (OwnRows.rows hn244)) (one_cons (Row.one (Own.row ha245)) one_nil))) hB251 rfl rfl (fun w257 g258 hB259 => ?_)
      have hs260 := World.grownBy.size g258
      replace E := E.grown g258 (fun k hk => by injection hk with hk; subst hk; omega)
      replace hnX12 := hnX12.stored g258 hB251 (by decide) (by decide)
      replace haX13 := haX13.stored g258 hB251 (by decide)
      replace hnY16 := hnY16.stored g258 hB251 (by decide) (by decide)
      replace haY17 := haY17.stored g258 hB251 (by decide)
      replace hB26 := hB26.grown g258 (by intro h; injection h with h; omega)
      replace hB33 := hB33.grown g258 (by intro h; injection h with h; omega)
      replace hn244 := hn244.stored g258 hB251 (by decide) (by decide)
      replace ha245 := ha245.stored g258 hB251 (by decide)
      replace hB251 := hB259
      refine Sq.assign .plain rfl rfl ?_
      refine Sq.nil ?_
      refine Eq.next ?_
      refine Cq.seq ?_
      refine Cq.region ?_
      refine Sq.loadAgg agg26 .plain rfl rfl hB26 rfl ?_
      refine Sq.loadAgg agg26 .plain rfl rfl hB33 rfl ?_
      refine Sq.move .plain rfl rfl ?_
      refine Sq.call fn17 .plain rfl rfl (sProd_c_F _ aX8 aY9 _ _ _ _ hnX12 haX13 hnY16 haY17 k7 hC) ?_
      rintro _ w261 ⟨⟨_, rfl, nx263, ac264, rfl, hn265, ha266⟩, e262⟩
      have hs267 := Below.size E
      have hs268 := Below.size e262
      replace E := E.trans e262
      replace hnX12 := hnX12.ext e262
      replace haX13 := haX13.ext e262
      replace hnY16 := hnY16.ext e262
      replace haY17 := haY17.ext e262
      replace hB26 := hB26.ext e262
      replace hB33 := hB33.ext e262
      replace hn244 := hn244.ext e262
      replace ha245 := ha245.ext e262
      replace hB251 := hB251.ext e262
      refine Sq.move .plain rfl rfl ?_
      refine Sq.extract .plain rfl rfl rfl ?_
      refine Sq.extract .plain rfl rfl rfl ?_
      refine Sq.alloc zero26 .plain rfl (fun b269 w270 e271 hB272 hlo273 => ?_)
      have hd274 := Nat.le_trans (Below.size E) hlo273
      have hd275 := Nat.lt_of_lt_of_le hB26.lt hlo273
      have hd276 := Nat.lt_of_lt_of_le hB33.lt hlo273
      have hd277 := Nat.lt_of_lt_of_le hB251.lt hlo273
      have hs278 := Below.size e271
      replace E := E.trans e271
      replace hnX12 := hnX12.ext e271
      replace haX13 := haX13.ext e271
      replace hnY16 := hnY16.ext e271
      replace haY17 := haY17.ext e271
      replace hB26 := hB26.ext e271
      replace hB33 := hB33.ext e271
      replace hn244 := hn244.ext e271
      replace ha245 := ha245.ext e271
      replace hB251 := hB251.ext e271
      replace hn265 := hn265.ext e271
      replace ha266 := ha266.ext e271
      refine Sq.storeAgg agg26 .plain rfl rfl (one_cons rfl (one_cons (Rows.one (OwnRows.rows hn265)) (one_cons (Row.one (Own.row ha266)) one_nil))) hB272 rfl rfl (fun w279 g280 hB281 => ?_)
      have hs282 := World.grownBy.size g280
      replace E := E.grown g280 (fun k hk => by injection hk with hk; subst hk; omega)
      replace hnX12 := hnX12.stored g280 hB272 (by decide) (by decide)
      replace haX13 := haX13.stored g280 hB272 (by decide)
      replace hnY16 := hnY16.stored g280 hB272 (by decide) (by decide)
      replace haY17 := haY17.stored g280 hB272 (by decide)
      replace hB26 := hB26.grown g280 (by intro h; injection h with h; omega)
      replace hB33 := hB33.grown g280 (by intro h; injection h with h; omega)
      replace hn244 := hn244.stored g280 hB272 (by decide) (by decide)
      replace ha245 := ha245.stored g280 hB272 (by decide)
      replace hB251 := hB251.grown g280 (by intro h; injection h with h; omega)
      replace hn265 := hn265.stored g280 hB272 (by decide) (by decide)
      replace ha266 := ha266.stored g280 hB272 (by decide)
      replace hB272 := hB281
      refine Sq.assign .plain rfl rfl ?_
      refine Sq.nil ?_
      refine Eq.next ?_
      refine Cq.seq ?_
      refine Cq.seq ?_
      refine Cq.region ?_
      refine Sq.loadAgg agg26 .plain rfl rfl hB251 rfl ?_
      refine Sq.loadAgg agg26 .plain rfl rfl hB272 rfl ?_
      have hd286 := hB26.lt
      have hd287 := hB33.lt
      have hd288 := hB251.lt
      have hd289 := hB272.lt
      refine Sq.call fn18 .plain rfl rfl (agAutomata_c _ zeroA zeroA _ _ _ _ (OwnRows.rows hn244) (Own.row ha245) (OwnRows.rows hn265) (Own.row ha266) (by first | exact fit_zero | exact fit_of_valid (by first | assumption | exact extend_valid hv hk | exact compl_valid' (extend_valid hv hk) | exact prod_valid hC | exact prod_valid (prodOk_kind hC (by decide)) | exact compl_valid' (prod_valid (prodOk_kind hC (by decide)))) | assumption)) ?_
      rintro _ w284 ⟨rfl, e285⟩
      have hs290 := Below.size E
      have hs291 := Below.size e285
      replace E := E.trans e285
      replace hnX12 := hnX12.ext e285
      replace haX13 := haX13.ext e285
      replace hnY16 := hnY16.ext e285
      replace haY17 := haY17.ext e285
      replace hB26 := hB26.ext e285
      replace hB33 := hB33.ext e285
      replace hn244 := hn244.ext e285
      replace ha245 := ha245.ext e285
      replace hB251 := hB251.ext e285
      replace hn265 := hn265.ext e285
      replace ha266 := ha266.ext e285
      replace hB272 := hB272.ext e285
      refine Sq.beT (by exact eqA_refl _) ?_
      refine Sq.notT .plain rfl rfl ?_
      refine Sq.move .plain rfl rfl ?_
      refine Sq.move (.met rfl rfl rfl) rfl rfl ?_
      refine Sq.move (.met rfl rfl rfl) rfl rfl ?_
      refine Sq.neqB und4 (.met rfl rfl rfl) rfl rfl rfl ?_
      refine Sq.pickF .plain rfl rfl rfl ?_
      refine Sq.move .plain rfl rfl ?_
      refine Sq.move (.met rfl rfl rfl) rfl rfl ?_
      refine Sq.notF (.met rfl rfl rfl) rfl rfl ?_
      refine Sq.pickF .plain rfl rfl rfl ?_
      refine Sq.nil ?_
      refine Eq.next ?_
      refine Cq.thn rfl ?_
      refine Cq.seq ?_
      refine Cq.region ?_
      refine Sq.loadAgg agg26 .plain rfl rfl hB251 rfl ?_
      refine Sq.loadAgg agg26 .plain rfl rfl hB272 rfl ?_
      have hd295 := hB26.lt
      have hd296 := hB33.lt
      have hd297 := hB251.lt
      have hd298 := hB272.lt
      refine Sq.call fn18 .plain rfl rfl (agAutomata_c _ zeroA zeroA _ _ _ _ (OwnRows.rows hn244) (Own.row ha245) (OwnRows.rows hn265) (Own.row ha266) (by first | exact fit_zero | exact fit_of_valid (by first | assumption | exact extend_valid hv hk | exact compl_valid' (extend_valid hv hk) | exact prod_valid hC | exact prod_valid (prodOk_kind hC (by decide)) | exact compl_valid' (prod_valid (prodOk_kind hC (by decide)))) | assumption)) ?_
      rintro _ w293 ⟨rfl, e294⟩
      have hs299 := Below.size E
      have hs300 := Below.size e294
      replace E := E.trans e294
      replace hnX12 := hnX12.ext e294
      replace haX13 := haX13.ext e294
      replace hnY16 := hnY16.ext e294
      replace haY17 := haY17.ext e294
      replace hB26 := hB26.ext e294
      replace hB33 := hB33.ext e294
      replace hn244 := hn244.ext e294
      replace ha245 := ha245.ext e294
      replace hB251 := hB251.ext e294
      replace hn265 := hn265.ext e294
      replace ha266 := ha266.ext e294
      replace hB272 := hB272.ext e294
      refine Sq.beT (by exact eqA_refl _) ?_
      refine Sq.move .plain rfl rfl ?_
      refine Sq.move (.met rfl rfl rfl) rfl rfl ?_
      refine Sq.move (.met rfl rfl rfl) rfl rfl ?_
      refine Sq.eqlB und4 (.met rfl rfl rfl) rfl rfl rfl ?_
      refine Sq.pickT .plain rfl rfl rfl ?_
      refine Sq.assign .plain rfl rfl ?_
      refine Sq.nil ?_
      refine Eq.next ?_
      refine Cq.ret ?_
      refine Eq.pastRet ?_
      refine Eq.ret1 rfl rfl ?_
      exact ⟨rfl, E⟩

end Go.Proofs.Ytdejmfkpohgamaa
