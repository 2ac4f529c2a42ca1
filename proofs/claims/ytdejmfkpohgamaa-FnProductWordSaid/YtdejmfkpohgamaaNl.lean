/-
  Walks, printed by a program out of the translation and a contract for each function; each step is one law.
-/
import Derived.Test.YtdejmfkpohgamaaNh
import Derived.Test.YtdejmfkpohgamaaNj
import Derived.Test.YtdejmfkpohgamaaNe
import Derived.Test.YtdejmfkpohgamaaWr
import Derived.Test.YtdejmfkpohgamaaWq
set_option linter.unusedSimpArgs false
set_option linter.unusedVariables false
namespace Go.Proofs.Ytdejmfkpohgamaa
open Go.RowKit

set_option maxRecDepth 100000 in
theorem lProdWord (w0 : World) (e : TypeId) (a0 : Option Addr) (c0 : Nat) (cs : List UInt8) (hc : Bytes w0 e (.slice a0 cs.length c0) cs) (hcap : cs.length ≤ c0) (e' : TypeId) (a0' : Option Addr) (c0' : Nat) (cs' : List UInt8) (hc' : Bytes w0 e' (.slice a0' cs'.length c0') cs') (hcap' : cs'.length ≤ c0') : Ret Try.prog 9 #[Value.slice a0 cs.length c0, Value.slice a0' cs'.length c0'] w0 (fun v w => v = .bool true ∧ Ext w0 w) := by
  have E := Ext.refl w0
  refine Ret.of (args := [Value.slice a0 cs.length c0, Value.slice a0' cs'.length c0']) Try.func9 rfl rfl rfl ?_
  rintro _ rfl
  show Cq _ _ _ _ [(0, Value.slice a0 cs.length c0), (1, Value.slice a0' cs'.length c0')] _
  refine Cq.seq ?_
  refine Cq.region ?_
  refine Sq.assign .plain rfl rfl ?_
  refine Sq.nil ?_
  refine Eq.next ?_
  refine Cq.seq ?_
  refine Cq.seq ?_
  refine Cq.region ?_
  refine Sq.move .plain rfl rfl ?_
  refine Sq.lenBytes (hc.ext E) .plain rfl und22 rfl ?_
  refine Sq.gtr .plain rfl rfl rfl ?_
  refine Sq.part (fun c1 => ?_) (fun c1 => ?_)
  · refine Sq.move .plain rfl rfl ?_
    refine Sq.off rfl rfl rfl rfl rfl rfl ?_
    refine Sq.off rfl rfl rfl rfl rfl rfl ?_
    refine Sq.off rfl rfl rfl rfl rfl rfl ?_
    refine Sq.pickT .plain rfl rfl rfl ?_
    refine Sq.nil ?_
    refine Eq.next ?_
    refine Cq.thn rfl ?_
    refine Cq.seq ?_
    refine Cq.region ?_
    refine Sq.assign .plain rfl rfl ?_
    refine Sq.nil ?_
    refine Eq.next ?_
    refine Cq.ret ?_
    refine Eq.pastRet ?_
    refine Eq.ret1 rfl rfl ?_
    exact ⟨rfl, E⟩
  · refine Sq.move .plain rfl rfl ?_
    refine Sq.move (.met rfl rfl rfl) rfl rfl ?_
    refine Sq.lenBytes (hc'.ext E) (.met rfl rfl rfl) rfl und22 rfl ?_
    refine Sq.gtr (.met rfl rfl rfl) rfl rfl rfl ?_
    refine Sq.part (fun c2 => ?_) (fun c2 => ?_)
    · refine Sq.pickF .plain rfl rfl rfl ?_
      refine Sq.nil ?_
      refine Eq.next ?_
      refine Cq.thn rfl ?_
      refine Cq.seq ?_
      refine Cq.region ?_
      refine Sq.assign .plain rfl rfl ?_
      refine Sq.nil ?_
      refine Eq.next ?_
      refine Cq.ret ?_
      refine Eq.pastRet ?_
      refine Eq.ret1 rfl rfl ?_
      exact ⟨rfl, E⟩
    · refine Sq.pickF .plain rfl rfl rfl ?_
      refine Sq.nil ?_
      refine Eq.next ?_
      refine Cq.els rfl ?_
      refine Cq.skip ?_
      refine Eq.next ?_
      refine Cq.seq ?_
      refine Cq.region ?_
      refine Sq.move .plain rfl rfl ?_
      refine Sq.call fn15 .plain rfl rfl (drawProd_c _ _ _ _ _ (hc.ext E) hcap) ?_
      rintro v3 w4 ⟨⟨u6, v7, k8, aX9, aY10, rfl, ⟨nxX11, acX12, rfl, hnX13, haX14⟩, ⟨nxY15, acY16, rfl, hnY17, haY18⟩, hsmX19, hsmY20, hk21⟩, e5⟩
      have hs22 := Below.size E
      have hs23 := Below.size e5
      replace E := E.trans e5
      refine Sq.move .plain rfl rfl ?_
      refine Sq.extract .plain rfl rfl rfl ?_
      refine Sq.extract .plain rfl rfl rfl ?_
      refine Sq.extract .plain rfl rfl rfl ?_
      refine Sq.alloc zero26 .plain rfl (fun b24 w25 e26 hB27 hlo28 => ?_)
      have hd29 := Nat.le_trans (Below.size E) hlo28
      have hs30 := Below.size e26
      replace E := E.trans e26
      replace hnX13 := hnX13.ext e26
      replace haX14 := haX14.ext e26
      replace hnY17 := hnY17.ext e26
      replace haY18 := haY18.ext e26
      refine Sq.alloc zero26 .plain rfl (fun b31 w32 e33 hB34 hlo35 => ?_)
      have hd36 := Nat.le_trans (Below.size E) hlo35
      have hd37 := Nat.lt_of_lt_of_le hB27.lt hlo35
      have hs38 := Below.size e33
      replace E := E.trans e33
      replace hnX13 := hnX13.ext e33
      replace haX14 := haX14.ext e33
      replace hnY17 := hnY17.ext e33
      replace haY18 := haY18.ext e33
      replace hB27 := hB27.ext e33
      refine Sq.storeAgg agg26 .plain rfl rfl (one_cons rfl (one_cons (Rows.one hnX13) (one_cons (Row.one haX14) one_nil))) hB27 rfl rfl (fun w39 g40 hB41 => ?_)
      have hs42 := World.grownBy.size g40
      replace E := E.grown g40 (fun k hk => by injection hk with hk; subst hk; omega)
      replace hnX13 := hnX13.stored g40 hB27 (by decide) (by decide)
      replace haX14 := haX14.stored g40 hB27 (by decide)
      replace hnY17 := hnY17.stored g40 hB27 (by decide) (by decide)
      replace haY18 := haY18.stored g40 hB27 (by decide)
      replace hB34 := hB34.grown g40 (by intro h; injection h with h; omega)
      replace hB27 := hB41
      refine Sq.storeAgg agg26 .plain rfl rfl (one_cons rfl (one_cons (Rows.one hnY17) (one_cons (Row.one haY18) one_nil))) hB34 rfl rfl (fun w43 g44 hB45 => ?_)
      have hs46 := World.grownBy.size g44
      replace E := E.grown g44 (fun k hk => by injection hk with hk; subst hk; omega)
      replace hnX13 := hnX13.stored g44 hB34 (by decide) (by decide)
      replace haX14 := haX14.stored g44 hB34 (by decide)
      replace hnY17 := hnY17.stored g44 hB34 (by decide) (by decide)
      replace haY18 := haY18.stored g44 hB34 (by decide)
      replace hB27 := hB27.grown g44 (by intro h; injection h with h; omega)
      replace hB34 := hB45
      refine Sq.assign .plain rfl rfl ?_
      refine Sq.nil ?_
      refine Eq.next ?_
      refine Cq.seq ?_
      refine Cq.region ?_
      refine Sq.loadAgg agg26 .plain rfl rfl hB27 rfl ?_
      refine Sq.loadAgg agg26 .plain rfl rfl hB34 rfl ?_
      refine Sq.move .plain rfl rfl ?_
      rcases Bool.eq_false_or_eq_true (prodOk aX9 aY10 k8) with hC | hC
      · obtain ⟨hv, hv', hk, hl12⟩ := prodOk_spec.1 hC
        refine Sq.call fn16 .plain rfl rfl (prod_c_T _ aX9 aY10 _ _ _ _ hnX13 haX14 hnY17 haY18 k8 hC) ?_
        rintro _ w47 ⟨⟨_, rfl, nx49, ac50, rfl, hn51, ha52⟩, e48⟩
        have hs53 := Below.size E
        have hs54 := Below.size e48
        replace E := E.trans e48
        replace hnX13 := hnX13.ext e48
        replace haX14 := haX14.ext e48
        replace hnY17 := hnY17.ext e48
        replace haY18 := haY18.ext e48
        replace hB27 := hB27.ext e48
        replace hB34 := hB34.ext e48
        refine Sq.move .plain rfl rfl ?_
        refine Sq.extract .plain rfl rfl rfl ?_
        refine Sq.extract .plain rfl rfl rfl ?_
        refine Sq.alloc zero26 .plain rfl (fun b55 w56 e57 hB58 hlo59 => ?_)
        have hd60 := Nat.le_trans (Below.size E) hlo59
        have hd61 := Nat.lt_of_lt_of_le hB27.lt hlo59
        have hd62 := Nat.lt_of_lt_of_le hB34.lt hlo59
        have hs63 := Below.size e57
        replace E := E.trans e57
        replace hnX13 := hnX13.ext e57
        replace haX14 := haX14.ext e57
        replace hnY17 := hnY17.ext e57
        replace haY18 := haY18.ext e57
        replace hB27 := hB27.ext e57
        replace hB34 := hB34.ext e57
        replace hn51 := hn51.ext e57
        replace ha52 := ha52.ext e57
        refine Sq.storeAgg agg26 .plain rfl rfl (one_cons rfl (one_cons (Rows.one (OwnRows.rows hn51)) (one_cons (Row.one (Own.row ha52)) one_nil))) hB58 rfl rfl (fun w64 g65 hB66 => ?_)
        have hs67 := World.grownBy.size g65
        replace E := E.grown g65 (fun k hk => by injection hk with hk; subst hk; omega)
        replace hnX13 := hnX13.stored g65 hB58 (by decide) (by decide)
        replace haX14 := haX14.stored g65 hB58 (by decide)
        replace hnY17 := hnY17.stored g65 hB58 (by decide) (by decide)
        replace haY18 := haY18.stored g65 hB58 (by decide)
        replace hB27 := hB27.grown g65 (by intro h; injection h with h; omega)
        replace hB34 := hB34.grown g65 (by intro h; injection h with h; omega)
        replace hn51 := hn51.stored g65 hB58 (by decide) (by decide)
        replace ha52 := ha52.stored g65 hB58 (by decide)
        replace hB58 := hB66
        refine Sq.assign .plain rfl rfl ?_
        refine Sq.nil ?_
        refine Eq.next ?_
        refine Cq.seq ?_
        refine Cq.region ?_
        refine Sq.loadAgg agg26 .plain rfl rfl hB27 rfl ?_
        refine Sq.loadAgg agg26 .plain rfl rfl hB34 rfl ?_
        refine Sq.move .plain rfl rfl ?_
        refine Sq.call fn17 .plain rfl rfl (sProd_c_T _ aX9 aY10 _ _ _ _ hnX13 haX14 hnY17 haY18 k8 hC) ?_
        rintro _ w68 ⟨⟨_, rfl, nx70, ac71, rfl, hn72, ha73⟩, e69⟩
        have hs74 := Below.size E
        have hs75 := Below.size e69
        replace E := E.trans e69
        replace hnX13 := hnX13.ext e69
        replace haX14 := haX14.ext e69
        replace hnY17 := hnY17.ext e69
        replace haY18 := haY18.ext e69
        replace hB27 := hB27.ext e69
        replace hB34 := hB34.ext e69
        replace hn51 := hn51.ext e69
        replace ha52 := ha52.ext e69
        replace hB58 := hB58.ext e69
        refine Sq.move .plain rfl rfl ?_
        refine Sq.extract .plain rfl rfl rfl ?_
        refine Sq.extract .plain rfl rfl rfl ?_
        refine Sq.alloc zero26 .plain rfl (fun b76 w77 e78 hB79 hlo80 => ?_)
        have hd81 := Nat.le_trans (Below.size E) hlo80
        have hd82 := Nat.lt_of_lt_of_le hB27.lt hlo80
        have hd83 := Nat.lt_of_lt_of_le hB34.lt hlo80
        have hd84 := Nat.lt_of_lt_of_le hB58.lt hlo80
        have hs85 := Below.size e78
        replace E := E.trans e78
        replace hnX13 := hnX13.ext e78
        replace haX14 := haX14.ext e78
        replace hnY17 := hnY17.ext e78
        replace haY18 := haY18.ext e78
        replace hB27 := hB27.ext e78
        replace hB34 := hB34.ext e78
        replace hn51 := hn51.ext e78
        replace ha52 := ha52.ext e78
        replace hB58 := hB58.ext e78
        replace hn72 := hn72.ext e78
        replace ha73 := ha73.ext e78
        refine Sq.storeAgg agg26 .plain rfl rfl (one_cons rfl (one_cons (Rows.one (OwnRows.rows hn72)) (one_cons (Row.one (Own.row ha73)) one_nil))) hB79 rfl rfl (fun w86 g87 hB88 => ?_)
        have hs89 := World.grownBy.size g87
        replace E := E.grown g87 (fun k hk => by injection hk with hk; subst hk; omega)
        replace hnX13 := hnX13.stored g87 hB79 (by decide) (by decide)
        replace haX14 := haX14.stored g87 hB79 (by decide)
        replace hnY17 := hnY17.stored g87 hB79 (by decide) (by decide)
        replace haY18 := haY18.stored g87 hB79 (by decide)
        replace hB27 := hB27.grown g87 (by intro h; injection h with h; omega)
        replace hB34 := hB34.grown g87 (by intro h; injection h with h; omega)
        replace hn51 := hn51.stored g87 hB79 (by decide) (by decide)
        replace ha52 := ha52.stored g87 hB79 (by decide)
        replace hB58 := hB58.grown g87 (by intro h; injection h with h; omega)
        replace hn72 := hn72.stored g87 hB79 (by decide) (by decide)
        replace ha73 := ha73.stored g87 hB79 (by decide)
        replace hB79 := hB88
        refine Sq.assign .plain rfl rfl ?_
        refine Sq.nil ?_
        refine Eq.next ?_
        refine Cq.seq ?_
        refine Cq.region ?_
        refine Sq.move .plain rfl rfl ?_
        have hd95 := hB27.lt
        have hd96 := hB34.lt
        have hd97 := hB58.lt
        have hd98 := hB79.lt
        refine Sq.call fn24 .plain rfl rfl (drawWord_c _ _ _ _ _ (hc'.ext E) hcap') ?_
        rintro _ w91 ⟨⟨s93, rfl, hsz94⟩, e92⟩
        have hs99 := Below.size E
        have hs100 := Below.size e92
        replace E := E.trans e92
        replace hnX13 := hnX13.ext e92
        replace haX14 := haX14.ext e92
        replace hnY17 := hnY17.ext e92
        replace haY18 := haY18.ext e92
        replace hB27 := hB27.ext e92
        replace hB34 := hB34.ext e92
        replace hn51 := hn51.ext e92
        replace ha52 := ha52.ext e92
        replace hB58 := hB58.ext e92
        replace hn72 := hn72.ext e92
        replace ha73 := ha73.ext e92
        replace hB79 := hB79.ext e92
        refine Sq.assign .plain rfl rfl ?_
        refine Sq.nil ?_
        refine Eq.next ?_
        refine Cq.seq ?_
        refine Cq.seq ?_
        refine Cq.region ?_
        refine Sq.loadAgg agg26 .plain rfl rfl hB58 rfl ?_
        refine Sq.loadAgg agg26 .plain rfl rfl hB79 rfl ?_
        have hd104 := hB27.lt
        have hd105 := hB34.lt
        have hd106 := hB58.lt
        have hd107 := hB79.lt
        refine Sq.call fn18 .plain rfl rfl (agAutomata_c _ (prodA aX9 aY10 k8) (prodA aX9 aY10 k8) _ _ _ _ (OwnRows.rows hn51) (Own.row ha52) (OwnRows.rows hn72) (Own.row ha73) (by first | exact fit_zero | exact fit_of_valid (by first | assumption | exact extend_valid hv hk | exact compl_valid' (extend_valid hv hk) | exact prod_valid hC | exact prod_valid (prodOk_kind hC (by decide))) | assumption)) ?_
        rintro _ w102 ⟨rfl, e103⟩
        have hs108 := Below.size E
        have hs109 := Below.size e103
        replace E := E.trans e103
        replace hnX13 := hnX13.ext e103
        replace haX14 := haX14.ext e103
        replace hnY17 := hnY17.ext e103
        replace haY18 := haY18.ext e103
        replace hB27 := hB27.ext e103
        replace hB34 := hB34.ext e103
        replace hn51 := hn51.ext e103
        replace ha52 := ha52.ext e103
        replace hB58 := hB58.ext e103
        replace hn72 := hn72.ext e103
        replace ha73 := ha73.ext e103
        replace hB79 := hB79.ext e103
        refine Sq.beT (by exact eqA_refl _) ?_
        refine Sq.notT .plain rfl rfl ?_
        refine Sq.move .plain rfl rfl ?_
        refine Sq.move (.met rfl rfl rfl) rfl rfl ?_
        refine Sq.move (.met rfl rfl rfl) rfl rfl ?_
        refine Sq.neqB und4 (.met rfl rfl rfl) rfl rfl rfl ?_
        refine Sq.pickF .plain rfl rfl rfl ?_
        refine Sq.move .plain rfl rfl ?_
        refine Sq.move (.met rfl rfl rfl) rfl rfl ?_
        refine Sq.notT (.met rfl rfl rfl) rfl rfl ?_
        refine Sq.pickF .plain rfl rfl rfl ?_
        refine Sq.move .plain rfl rfl ?_
        refine Sq.move (.met rfl rfl rfl) rfl rfl ?_
        refine Sq.fieldAddr fld26_0 (.met rfl rfl rfl) rfl rfl ?_
        refine Sq.loadB one3 (.met rfl rfl rfl) rfl rfl hB27 rfl ?_
        refine Sq.fieldAddr fld26_0 (.met rfl rfl rfl) rfl rfl ?_
        refine Sq.loadB one3 (.met rfl rfl rfl) rfl rfl hB34 rfl ?_
        refine Sq.or (.met rfl rfl rfl) rfl rfl rfl (by have := (validA_spec.1 hv).1; have := (validA_spec.1 hv').1; omega) ?_
        refine Sq.call fn25 (.met rfl rfl rfl) rfl rfl (within_c s93 (orI aX9.al aY10.al) _) ?_
        rintro _ _ ⟨rfl, rfl⟩
        refine Sq.partB (fun hw => ?_) (fun hw => ?_)
        · refine Sq.notT (.met rfl rfl rfl) rfl rfl ?_
          refine Sq.pickF .plain rfl rfl rfl ?_
          refine Sq.nil ?_
          refine Eq.next ?_
          refine Cq.els rfl ?_
          refine Cq.skip ?_
          refine Eq.next ?_
          refine Cq.seq ?_
          refine Cq.drawS 6 (fun w' => Blk w' b24 26 [Value.int .i64 aX9.al, nxX11, acX12]) mixed (hB27) (fun w110 e111 hS => ?_)
          clear hS
          have hs112 := Below.size e111
          replace E := E.trans e111
          replace hnX13 := hnX13.ext e111
          replace haX14 := haX14.ext e111
          replace hnY17 := hnY17.ext e111
          replace haY18 := haY18.ext e111
          replace hB27 := hB27.ext e111
          replace hB34 := hB34.ext e111
          replace hn51 := hn51.ext e111
          replace ha52 := ha52.ext e111
          replace hB58 := hB58.ext e111
          replace hn72 := hn72.ext e111
          replace ha73 := ha73.ext e111
          replace hB79 := hB79.ext e111
          have E_w110 := E
          have hnX13_w110 := hnX13
          have haX14_w110 := haX14
          have hnY17_w110 := hnY17
          have haY18_w110 := haY18
          have hB27_w110 := hB27
          have hB34_w110 := hB34
          have hn51_w110 := hn51
          have ha52_w110 := ha52
          have hB58_w110 := hB58
          have hn72_w110 := hn72
          have ha73_w110 := ha73
          have hB79_w110 := hB79
          refine Gq.st 0 rfl (by kernel_rfl) rfl .plain rfl (fun _ _ _ h => h) hB27 (fun w' x => Still.loadAgg agg26 rfl x rfl) ?_
          refine Gq.st 1 rfl (by kernel_rfl) rfl .plain rfl (fun _ _ _ h => h) hB27 (fun w' x => Still.move rfl) ?_
          refine Gq.st 2 rfl (by kernel_rfl) rfl .plain rfl (fun _ _ _ h => h) hB27 (fun w' x => Still.fieldAddr fld26_0 rfl) ?_
          refine Gq.st 3 rfl (by kernel_rfl) rfl .plain rfl (fun _ _ _ h => h) hB27 (fun w' x => Still.loadB one3 rfl x rfl) ?_
          refine Gq.one 4 rfl (by kernel_rfl) ?_
          have hd116 := hB27.lt
          have hd117 := hB34.lt
          have hd118 := hB58.lt
          have hd119 := hB79.lt
          refine Sq.call fn27 .plain rfl rfl (restrictW_c s93 aX9.al (by first | omega | exact Nat.le_trans (restrictW_size _ _) (by omega)) _) ?_
          rintro _ w114 ⟨rfl, e115⟩
          have hs120 := Below.size E
          have hs121 := Below.size e115
          replace E := E.trans e115
          replace hnX13 := hnX13.ext e115
          replace haX14 := haX14.ext e115
          replace hnY17 := hnY17.ext e115
          replace haY18 := haY18.ext e115
          replace hB27 := hB27.ext e115
          replace hB34 := hB34.ext e115
          replace hn51 := hn51.ext e115
          replace ha52 := ha52.ext e115
          replace hB58 := hB58.ext e115
          replace hn72 := hn72.ext e115
          replace ha73 := ha73.ext e115
          replace hB79 := hB79.ext e115
          refine Sq.nil ?_
          refine Eq.goes (fun _ => hB27) ?_
          refine Gq.one 5 rfl (by kernel_rfl) ?_
          have hd125 := hB27.lt
          have hd126 := hB34.lt
          have hd127 := hB58.lt
          have hd128 := hB79.lt
          refine Sq.call fn26 .plain rfl rfl (accepts_c _ aX9 _ _ hnX13 haX14 (restrictW s93 aX9.al) (by first | omega | exact Nat.le_trans (restrictW_size _ _) (by omega))) ?_
          rintro _ w123 ⟨rfl, e124⟩
          have hs129 := Below.size E
          have hs130 := Below.size e124
          replace E := E.trans e124
          replace hnX13 := hnX13.ext e124
          replace haX14 := haX14.ext e124
          replace hnY17 := hnY17.ext e124
          replace haY18 := haY18.ext e124
          replace hB27 := hB27.ext e124
          replace hB34 := hB34.ext e124
          replace hn51 := hn51.ext e124
          replace ha52 := ha52.ext e124
          replace hB58 := hB58.ext e124
          replace hn72 := hn72.ext e124
          replace ha73 := ha73.ext e124
          replace hB79 := hB79.ext e124
          refine Sq.nil ?_
          refine Eq.goes (fun _ => hB27) ?_
          refine Gq.one 6 rfl (by kernel_rfl) ?_
          refine Sq.assign .plain rfl rfl ?_
          refine Sq.nil ?_
          refine Eq.goes (fun h => absurd h (by decide)) ?_
          refine Gq.done (by kernel_rfl) ?_
          refine Eq.next ?_
          refine Cq.seq ?_
          refine Cq.drawS 6 (fun w' => Blk w' b31 26 [Value.int .i64 aY10.al, nxY15, acY16]) mixed (hB34) (fun w131 e132 hS => ?_)
          clear hS
          have hs133 := Below.size e132
          replace E := E.trans e132
          replace hnX13 := hnX13.ext e132
          replace haX14 := haX14.ext e132
          replace hnY17 := hnY17.ext e132
          replace haY18 := haY18.ext e132
          replace hB27 := hB27.ext e132
          replace hB34 := hB34.ext e132
          replace hn51 := hn51.ext e132
          replace ha52 := ha52.ext e132
          replace hB58 := hB58.ext e132
          replace hn72 := hn72.ext e132
          replace ha73 := ha73.ext e132
          replace hB79 := hB79.ext e132
          have E_w131 := E
          have hnX13_w131 := hnX13
          have haX14_w131 := haX14
          have hnY17_w131 := hnY17
          have haY18_w131 := haY18
          have hB27_w131 := hB27
          have hB34_w131 := hB34
          have hn51_w131 := hn51
          have ha52_w131 := ha52
          have hB58_w131 := hB58
          have hn72_w131 := hn72
          have ha73_w131 := ha73
          have hB79_w131 := hB79
          refine Gq.st 0 rfl (by kernel_rfl) rfl .plain rfl (fun _ _ _ h => h) hB34 (fun w' x => Still.loadAgg agg26 rfl x rfl) ?_
          refine Gq.st 1 rfl (by kernel_rfl) rfl .plain rfl (fun _ _ _ h => h) hB34 (fun w' x => Still.move rfl) ?_
          refine Gq.st 2 rfl (by kernel_rfl) rfl .plain rfl (fun _ _ _ h => h) hB34 (fun w' x => Still.fieldAddr fld26_0 rfl) ?_
          refine Gq.st 3 rfl (by kernel_rfl) rfl .plain rfl (fun _ _ _ h => h) hB34 (fun w' x => Still.loadB one3 rfl x rfl) ?_
          refine Gq.one 4 rfl (by kernel_rfl) ?_
          have hd137 := hB27.lt
          have hd138 := hB34.lt
          have hd139 := hB58.lt
          have hd140 := hB79.lt
          refine Sq.call fn27 .plain rfl rfl (restrictW_c s93 aY10.al (by first | omega | exact Nat.le_trans (restrictW_size _ _) (by omega)) _) ?_
          rintro _ w135 ⟨rfl, e136⟩
          have hs141 := Below.size E
          have hs142 := Below.size e136
          replace E := E.trans e136
          replace hnX13 := hnX13.ext e136
          replace haX14 := haX14.ext e136
          replace hnY17 := hnY17.ext e136
          replace haY18 := haY18.ext e136
          replace hB27 := hB27.ext e136
          replace hB34 := hB34.ext e136
          replace hn51 := hn51.ext e136
          replace ha52 := ha52.ext e136
          replace hB58 := hB58.ext e136
          replace hn72 := hn72.ext e136
          replace ha73 := ha73.ext e136
          replace hB79 := hB79.ext e136
          refine Sq.nil ?_
          refine Eq.goes (fun _ => hB34) ?_
          refine Gq.one 5 rfl (by kernel_rfl) ?_
          have hd146 := hB27.lt
          have hd147 := hB34.lt
          have hd148 := hB58.lt
          have hd149 := hB79.lt
          refine Sq.call fn26 .plain rfl rfl (accepts_c _ aY10 _ _ hnY17 haY18 (restrictW s93 aY10.al) (by first | omega | exact Nat.le_trans (restrictW_size _ _) (by omega))) ?_
          rintro _ w144 ⟨rfl, e145⟩
          have hs150 := Below.size E
          have hs151 := Below.size e145
          replace E := E.trans e145
          replace hnX13 := hnX13.ext e145
          replace haX14 := haX14.ext e145
          replace hnY17 := hnY17.ext e145
          replace haY18 := haY18.ext e145
          replace hB27 := hB27.ext e145
          replace hB34 := hB34.ext e145
          replace hn51 := hn51.ext e145
          replace ha52 := ha52.ext e145
          replace hB58 := hB58.ext e145
          replace hn72 := hn72.ext e145
          replace ha73 := ha73.ext e145
          replace hB79 := hB79.ext e145
          refine Sq.nil ?_
          refine Eq.goes (fun _ => hB34) ?_
          refine Gq.one 6 rfl (by kernel_rfl) ?_
          refine Sq.assign .plain rfl rfl ?_
          refine Sq.nil ?_
          refine Eq.goes (fun h => absurd h (by decide)) ?_
          refine Gq.done (by kernel_rfl) ?_
          refine Eq.next ?_
          refine Cq.seq ?_
          refine Cq.region ?_
          refine Sq.loadAgg agg26 .plain rfl rfl hB58 rfl ?_
          refine Sq.move .plain rfl rfl ?_
          have hd155 := hB27.lt
          have hd156 := hB34.lt
          have hd157 := hB58.lt
          have hd158 := hB79.lt
          refine Sq.call fn26 .plain rfl rfl (accepts_c _ (prodA aX9 aY10 k8) _ _ (OwnRows.rows hn51) (Own.row ha52) s93 (by first | omega | exact Nat.le_trans (restrictW_size _ _) (by omega))) ?_
          rintro _ w153 ⟨rfl, e154⟩
          have hs159 := Below.size E
          have hs160 := Below.size e154
          replace E := E.trans e154
          replace hnX13 := hnX13.ext e154
          replace haX14 := haX14.ext e154
          replace hnY17 := hnY17.ext e154
          replace haY18 := haY18.ext e154
          replace hB27 := hB27.ext e154
          replace hB34 := hB34.ext e154
          replace hn51 := hn51.ext e154
          replace ha52 := ha52.ext e154
          replace hB58 := hB58.ext e154
          replace hn72 := hn72.ext e154
          replace ha73 := ha73.ext e154
          replace hB79 := hB79.ext e154
          refine Sq.assign .plain rfl rfl ?_
          refine Sq.nil ?_
          refine Eq.next ?_
          refine Cq.seq ?_
          refine Cq.seq ?_
          refine Cq.region ?_
          refine Sq.move .plain rfl rfl ?_
          refine Sq.nil ?_
          refine Eq.next ?_
          refine Cq.block ?_
          refine Cq.seq ?_
          refine Cq.region ?_
          refine Sq.eql .plain rfl rfl rfl ?_
          refine Sq.part (fun hk0 => ?_) (fun hk0 => ?_)
          · refine Sq.assign .plain rfl rfl ?_
            refine Sq.nil ?_
            refine Eq.next ?_
            refine Cq.thn rfl ?_
            refine Cq.seq ?_
            refine Cq.region ?_
            refine Sq.move .plain rfl rfl ?_
            refine Sq.move .plain rfl rfl ?_
            refine Sq.partB (fun hl => ?_) (fun hl => ?_)
            · refine Sq.move .plain rfl rfl ?_
              refine Sq.move (.met rfl rfl rfl) rfl rfl ?_
              refine Sq.pickT .plain rfl rfl rfl ?_
              refine Sq.eqlB und4 .plain rfl rfl rfl ?_
              refine Sq.beT (by have e := prod_word hC hw; rw [← restrictW_good (within_all hw) (validA_spec.1 hv).1, ← restrictW_good (within_all hw) (validA_spec.1 hv').1] at e; rw [e, hl]; simp [kindB, hk0]) ?_
              refine Sq.assign .plain rfl rfl ?_
              refine Sq.nil ?_
              refine Eq.next ?_
              refine Cq.ret ?_
              refine Eq.outRet ?_
              refine Eq.pastRet ?_
              refine Eq.ret1 rfl rfl ?_
              exact ⟨rfl, E⟩
            · refine Sq.move .plain rfl rfl ?_
              refine Sq.off rfl rfl rfl rfl rfl rfl ?_
              refine Sq.pickF .plain rfl rfl rfl ?_
              refine Sq.eqlB und4 .plain rfl rfl rfl ?_
              refine Sq.beT (by have e := prod_word hC hw; rw [← restrictW_good (within_all hw) (validA_spec.1 hv).1, ← restrictW_good (within_all hw) (validA_spec.1 hv').1] at e; rw [e, hl]; simp [kindB, hk0]) ?_
              refine Sq.assign .plain rfl rfl ?_
              refine Sq.nil ?_
              refine Eq.next ?_
              refine Cq.ret ?_
              refine Eq.outRet ?_
              refine Eq.pastRet ?_
              refine Eq.ret1 rfl rfl ?_
              exact ⟨rfl, E⟩
          · refine Sq.assign .plain rfl rfl ?_
            refine Sq.nil ?_
            refine Eq.next ?_
            refine Cq.els rfl ?_
            refine Cq.seq ?_
            refine Cq.region ?_
            refine Sq.eql .plain rfl rfl rfl ?_
            refine Sq.part (fun hk1 => ?_) (fun hk1 => ?_)
            · refine Sq.assign .plain rfl rfl ?_
              refine Sq.nil ?_
              refine Eq.next ?_
              refine Cq.thn rfl ?_
              refine Cq.seq ?_
              refine Cq.region ?_
              refine Sq.move .plain rfl rfl ?_
              refine Sq.move .plain rfl rfl ?_
              refine Sq.partB (fun hl => ?_) (fun hl => ?_)
              · refine Sq.move .plain rfl rfl ?_
                refine Sq.off rfl rfl rfl rfl rfl rfl ?_
                refine Sq.pickT .plain rfl rfl rfl ?_
                refine Sq.eqlB und4 .plain rfl rfl rfl ?_
                refine Sq.beT (by have e := prod_word hC hw; rw [← restrictW_good (within_all hw) (validA_spec.1 hv).1, ← restrictW_good (within_all hw) (validA_spec.1 hv').1] at e; rw [e, hl]; simp [kindB, hk0, hk1]) ?_
                refine Sq.assign .plain rfl rfl ?_
                refine Sq.nil ?_
                refine Eq.next ?_
                refine Cq.ret ?_
                refine Eq.outRet ?_
                refine Eq.pastRet ?_
                refine Eq.ret1 rfl rfl ?_
                exact ⟨rfl, E⟩
              · refine Sq.move .plain rfl rfl ?_
                refine Sq.move (.met rfl rfl rfl) rfl rfl ?_
                refine Sq.pickF .plain rfl rfl rfl ?_
                refine Sq.eqlB und4 .plain rfl rfl rfl ?_
                refine Sq.beT (by have e := prod_word hC hw; rw [← restrictW_good (within_all hw) (validA_spec.1 hv).1, ← restrictW_good (within_all hw) (validA_spec.1 hv').1] at e; rw [e, hl]; simp [kindB, hk0, hk1]) ?_
                refine Sq.assign .plain rfl rfl ?_
                refine Sq.nil ?_
                refine Eq.next ?_
                refine Cq.ret ?_
                refine Eq.outRet ?_
                refine Eq.pastRet ?_
                refine Eq.ret1 rfl rfl ?_
                exact ⟨rfl, E⟩
            · refine Sq.assign .plain rfl rfl ?_
              refine Sq.nil ?_
              refine Eq.next ?_
              refine Cq.els rfl ?_
              refine Cq.skip ?_
              refine Eq.end ?_
              refine Eq.next ?_
              refine Cq.seq ?_
              refine Cq.region ?_
              refine Sq.move .plain rfl rfl ?_
              refine Sq.move .plain rfl rfl ?_
              refine Sq.partB (fun hl => ?_) (fun hl => ?_)
              · refine Sq.move .plain rfl rfl ?_
                refine Sq.move (.met rfl rfl rfl) rfl rfl ?_
                refine Sq.not (.met rfl rfl rfl) rfl rfl ?_
                refine Sq.pickT .plain rfl rfl rfl ?_
                refine Sq.eqlB und4 .plain rfl rfl rfl ?_
                refine Sq.beT (by have e := prod_word hC hw; rw [← restrictW_good (within_all hw) (validA_spec.1 hv).1, ← restrictW_good (within_all hw) (validA_spec.1 hv').1] at e; rw [e, hl]; simp [kindB, hk0, hk1]) ?_
                refine Sq.assign .plain rfl rfl ?_
                refine Sq.nil ?_
                refine Eq.next ?_
                refine Cq.ret ?_
                refine Eq.ret1 rfl rfl ?_
                exact ⟨rfl, E⟩
              · refine Sq.move .plain rfl rfl ?_
                refine Sq.off rfl rfl rfl rfl rfl rfl ?_
                refine Sq.off rfl rfl rfl rfl rfl rfl ?_
                refine Sq.pickF .plain rfl rfl rfl ?_
                refine Sq.eqlB und4 .plain rfl rfl rfl ?_
                refine Sq.beT (by have e := prod_word hC hw; rw [← restrictW_good (within_all hw) (validA_spec.1 hv).1, ← restrictW_good (within_all hw) (validA_spec.1 hv').1] at e; rw [e, hl]; simp [kindB, hk0, hk1]) ?_
                refine Sq.assign .plain rfl rfl ?_
                refine Sq.nil ?_
                refine Eq.next ?_
                refine Cq.ret ?_
                refine Eq.ret1 rfl rfl ?_
                exact ⟨rfl, E⟩
        · refine Sq.notF (.met rfl rfl rfl) rfl rfl ?_
          refine Sq.pickF .plain rfl rfl rfl ?_
          refine Sq.nil ?_
          refine Eq.next ?_
          refine Cq.thn rfl ?_
          refine Cq.seq ?_
          refine Cq.region ?_
          refine Sq.loadAgg agg26 .plain rfl rfl hB58 rfl ?_
          refine Sq.loadAgg agg26 .plain rfl rfl hB79 rfl ?_
          have hd164 := hB27.lt
          have hd165 := hB34.lt
          have hd166 := hB58.lt
          have hd167 := hB79.lt
          refine Sq.call fn18 .plain rfl rfl (agAutomata_c _ (prodA aX9 aY10 k8) (prodA aX9 aY10 k8) _ _ _ _ (OwnRows.rows hn51) (Own.row ha52) (OwnRows.rows hn72) (Own.row ha73) (by first | exact fit_zero | exact fit_of_valid (by first | assumption | exact extend_valid hv hk | exact compl_valid' (extend_valid hv hk) | exact prod_valid hC | exact prod_valid (prodOk_kind hC (by decide))) | assumption)) ?_
          rintro _ w162 ⟨rfl, e163⟩
          have hs168 := Below.size E
          have hs169 := Below.size e163
          replace E := E.trans e163
          replace hnX13 := hnX13.ext e163
          replace haX14 := haX14.ext e163
          replace hnY17 := hnY17.ext e163
          replace haY18 := haY18.ext e163
          replace hB27 := hB27.ext e163
          replace hB34 := hB34.ext e163
          replace hn51 := hn51.ext e163
          replace ha52 := ha52.ext e163
          replace hB58 := hB58.ext e163
          replace hn72 := hn72.ext e163
          replace ha73 := ha73.ext e163
          replace hB79 := hB79.ext e163
          refine Sq.beT (by exact eqA_refl _) ?_
          refine Sq.move .plain rfl rfl ?_
          refine Sq.move (.met rfl rfl rfl) rfl rfl ?_
          refine Sq.move (.met rfl rfl rfl) rfl rfl ?_
          refine Sq.eqlB und4 (.met rfl rfl rfl) rfl rfl rfl ?_
          refine Sq.pickT .plain rfl rfl rfl ?_
          refine Sq.assign .plain rfl rfl ?_
          refine Sq.nil ?_
          refine Eq.next ?_
          refine Cq.ret ?_
          refine Eq.pastRet ?_
          refine Eq.ret1 rfl rfl ?_
          exact ⟨rfl, E⟩
      · refine Sq.call fn16 .plain rfl rfl (prod_c_F _ aX9 aY10 _ _ _ _ hnX13 haX14 hnY17 haY18 k8 hC) ?_
        rintro _ w170 ⟨⟨_, rfl, nx172, ac173, rfl, hn174, ha175⟩, e171⟩
        have hs176 := Below.size E
        have hs177 := Below.size e171
        replace E := E.trans e171
        replace hnX13 := hnX13.ext e171
        replace haX14 := haX14.ext e171
        replace hnY17 := hnY17.ext e171
        replace haY18 := haY18.ext e171
        replace hB27 := hB27.ext e171
        replace hB34 := hB34.ext e171
        refine Sq.move .plain rfl rfl ?_
        refine Sq.extract .plain rfl rfl rfl ?_
        refine Sq.extract .plain rfl rfl rfl ?_
        refine Sq.alloc zero26 .plain rfl (fun b178 w179 e180 hB181 hlo182 => ?_)
        have hd183 := Nat.le_trans (Below.size E) hlo182
        have hd184 := Nat.lt_of_lt_of_le hB27.lt hlo182
        have hd185 := Nat.lt_of_lt_of_le hB34.lt hlo182
        have hs186 := Below.size e180
        replace E := E.trans e180
        replace hnX13 := hnX13.ext e180
        replace haX14 := haX14.ext e180
        replace hnY17 := hnY17.ext e180
        replace haY18 := haY18.ext e180
        replace hB27 := hB27.ext e180
        replace hB34 := hB34.ext e180
        replace hn174 := hn174.ext e180
        replace ha175 := ha175.ext e180
        refine Sq.storeAgg agg26 .plain rfl rfl (one_cons rfl (one_cons (Rows.one (OwnRows.rows hn174)) (one_cons (Row.one (Own.row ha175)) one_nil))) hB181 rfl rfl (fun w187 g188 hB189 => ?_)
        have hs190 := World.grownBy.size g188
        replace E := E.grown g188 (fun k hk => by injection hk with hk; subst hk; omega)
        replace hnX13 := hnX13.stored g188 hB181 (by decide) (by decide)
        replace haX14 := haX14.stored g188 hB181 (by decide)
        replace hnY17 := hnY17.stored g188 hB181 (by decide) (by decide)
        replace haY18 := haY18.stored g188 hB181 (by decide)
        replace hB27 := hB27.grown g188 (by intro h; injection h with h; omega)
        replace hB34 := hB34.grown g188 (by intro h; injection h with h; omega)
        replace hn174 := hn174.stored g188 hB181 (by decide) (by decide)
        replace ha175 := ha175.stored g188 hB181 (by decide)
        replace hB181 := hB189
        refine Sq.assign .plain rfl rfl ?_
        refine Sq.nil ?_
        refine Eq.next ?_
        refine Cq.seq ?_
        refine Cq.region ?_
        refine Sq.loadAgg agg26 .plain rfl rfl hB27 rfl ?_
        refine Sq.loadAgg agg26 .plain rfl rfl hB34 rfl ?_
        refine Sq.move .plain rfl rfl ?_
        refine Sq.call fn17 .plain rfl rfl (sProd_c_F _ aX9 aY10 _ _ _ _ hnX13 haX14 hnY17 haY18 k8 hC) ?_
        rintro _ w191 ⟨⟨_, rfl, nx193, ac194, rfl, hn195, ha196⟩, e192⟩
        have hs197 := Below.size E
        have hs198 := Below.size e192
        replace E := E.trans e192
        replace hnX13 := hnX13.ext e192
        replace haX14 := haX14.ext e192
        replace hnY17 := hnY17.ext e192
        replace haY18 := haY18.ext e192
        replace hB27 := hB27.ext e192
        replace hB34 := hB34.ext e192
        replace hn174 := hn174.ext e192
        replace ha175 := ha175.ext e192
        replace hB181 := hB181.ext e192
        refine Sq.move .plain rfl rfl ?_
        refine Sq.extract .plain rfl rfl rfl ?_
        refine Sq.extract .plain rfl rfl rfl ?_
        refine Sq.alloc zero26 .plain rfl (fun b199 w200 e201 hB202 hlo203 => ?_)
        have hd204 := Nat.le_trans (Below.size E) hlo203
        have hd205 := Nat.lt_of_lt_of_le hB27.lt hlo203
        have hd206 := Nat.lt_of_lt_of_le hB34.lt hlo203
        have hd207 := Nat.lt_of_lt_of_le hB181.lt hlo203
        have hs208 := Below.size e201
        replace E := E.trans e201
        replace hnX13 := hnX13.ext e201
        replace haX14 := haX14.ext e201
        replace hnY17 := hnY17.ext e201
        replace haY18 := haY18.ext e201
        replace hB27 := hB27.ext e201
        replace hB34 := hB34.ext e201
        replace hn174 := hn174.ext e201
        replace ha175 := ha175.ext e201
        replace hB181 := hB181.ext e201
        replace hn195 := hn195.ext e201
        replace ha196 := ha196.ext e201
        refine Sq.storeAgg agg26 .plain rfl rfl (one_cons rfl (one_cons (Rows.one (OwnRows.rows hn195)) (one_cons (Row.one (Own.row ha196)) one_nil))) hB202 rfl rfl (fun w209 g210 hB211 => ?_)
        have hs212 := World.grownBy.size g210
        replace E := E.grown g210 (fun k hk => by injection hk with hk; subst hk; omega)
        replace hnX13 := hnX13.stored g210 hB202 (by decide) (by decide)
        replace haX14 := haX14.stored g210 hB202 (by decide)
        replace hnY17 := hnY17.stored g210 hB202 (by decide) (by decide)
        replace haY18 := haY18.stored g210 hB202 (by decide)
        replace hB27 := hB27.grown g210 (by intro h; injection h with h; omega)
        replace hB34 := hB34.grown g210 (by intro h; injection h with h; omega)
        replace hn174 := hn174.stored g210 hB202 (by decide) (by decide)
        replace ha175 := ha175.stored g210 hB202 (by decide)
        replace hB181 := hB181.grown g210 (by intro h; injection h with h; omega)
        replace hn195 := hn195.stored g210 hB202 (by decide) (by decide)
        replace ha196 := ha196.stored g210 hB202 (by decide)
        replace hB202 := hB211
        refine Sq.assign .plain rfl rfl ?_
        refine Sq.nil ?_
        refine Eq.next ?_
        refine Cq.seq ?_
        refine Cq.region ?_
        refine Sq.move .plain rfl rfl ?_
        have hd218 := hB27.lt
        have hd219 := hB34.lt
        have hd220 := hB181.lt
        have hd221 := hB202.lt
        refine Sq.call fn24 .plain rfl rfl (drawWord_c _ _ _ _ _ (hc'.ext E) hcap') ?_
        rintro _ w214 ⟨⟨s216, rfl, hsz217⟩, e215⟩
        have hs222 := Below.size E
        have hs223 := Below.size e215
        replace E := E.trans e215
        replace hnX13 := hnX13.ext e215
        replace haX14 := haX14.ext e215
        replace hnY17 := hnY17.ext e215
        replace haY18 := haY18.ext e215
        replace hB27 := hB27.ext e215
        replace hB34 := hB34.ext e215
        replace hn174 := hn174.ext e215
        replace ha175 := ha175.ext e215
        replace hB181 := hB181.ext e215
        replace hn195 := hn195.ext e215
        replace ha196 := ha196.ext e215
        replace hB202 := hB202.ext e215
        refine Sq.assign .plain rfl rfl ?_
        refine Sq.nil ?_
        refine Eq.next ?_
        refine Cq.seq ?_
        refine Cq.seq ?_
        refine Cq.region ?_
        refine Sq.loadAgg agg26 .plain rfl rfl hB181 rfl ?_
        refine Sq.loadAgg agg26 .plain rfl rfl hB202 rfl ?_
        have hd227 := hB27.lt
        have hd228 := hB34.lt
        have hd229 := hB181.lt
        have hd230 := hB202.lt
        refine Sq.call fn18 .plain rfl rfl (agAutomata_c _ zeroA zeroA _ _ _ _ (OwnRows.rows hn174) (Own.row ha175) (OwnRows.rows hn195) (Own.row ha196) (by first | exact fit_zero | exact fit_of_valid (by first | assumption | exact extend_valid hv hk | exact compl_valid' (extend_valid hv hk) | exact prod_valid hC | exact prod_valid (prodOk_kind hC (by decide))) | assumption)) ?_
        rintro _ w225 ⟨rfl, e226⟩
        have hs231 := Below.size E
        have hs232 := Below.size e226
        replace E := E.trans e226
        replace hnX13 := hnX13.ext e226
        replace haX14 := haX14.ext e226
        replace hnY17 := hnY17.ext e226
        replace haY18 := haY18.ext e226
        replace hB27 := hB27.ext e226
        replace hB34 := hB34.ext e226
        replace hn174 := hn174.ext e226
        replace ha175 := ha175.ext e226
        replace hB181 := hB181.ext e226
        replace hn195 := hn195.ext e226
        replace ha196 := ha196.ext e226
        replace hB202 := hB202.ext e226
        refine Sq.beT (by exact eqA_refl _) ?_
        refine Sq.notT .plain rfl rfl ?_
        refine Sq.move .plain rfl rfl ?_
        refine Sq.move (.met rfl rfl rfl) rfl rfl ?_
        refine Sq.move (.met rfl rfl rfl) rfl rfl ?_
        refine Sq.neqB und4 (.met rfl rfl rfl) rfl rfl rfl ?_
        refine Sq.pickF .plain rfl rfl rfl ?_
        refine Sq.move .plain rfl rfl ?_
        refine Sq.move (.met rfl rfl rfl) rfl rfl ?_
        refine Sq.notF (.met rfl rfl rfl) rfl rfl ?_
        refine Sq.pickF .plain rfl rfl rfl ?_
        refine Sq.move .plain rfl rfl ?_
        refine Sq.off rfl rfl rfl rfl rfl rfl ?_
        refine Sq.off rfl rfl rfl rfl rfl rfl ?_
        refine Sq.off rfl rfl rfl rfl rfl rfl ?_
        refine Sq.off rfl rfl rfl rfl rfl rfl ?_
        refine Sq.off rfl rfl rfl rfl rfl rfl ?_
        refine Sq.off rfl rfl rfl rfl rfl rfl ?_
        refine Sq.off rfl rfl rfl rfl rfl rfl ?_
        refine Sq.off rfl rfl rfl rfl rfl rfl ?_
        refine Sq.pickT .plain rfl rfl rfl ?_
        refine Sq.nil ?_
        refine Eq.next ?_
        refine Cq.thn rfl ?_
        refine Cq.seq ?_
        refine Cq.region ?_
        refine Sq.loadAgg agg26 .plain rfl rfl hB181 rfl ?_
        refine Sq.loadAgg agg26 .plain rfl rfl hB202 rfl ?_
        have hd236 := hB27.lt
        have hd237 := hB34.lt
        have hd238 := hB181.lt
        have hd239 := hB202.lt
        refine Sq.call fn18 .plain rfl rfl (agAutomata_c _ zeroA zeroA _ _ _ _ (OwnRows.rows hn174) (Own.row ha175) (OwnRows.rows hn195) (Own.row ha196) (by first | exact fit_zero | exact fit_of_valid (by first | assumption | exact extend_valid hv hk | exact compl_valid' (extend_valid hv hk) | exact prod_valid hC | exact prod_valid (prodOk_kind hC (by decide))) | assumption)) ?_
        rintro _ w234 ⟨rfl, e235⟩
        have hs240 := Below.size E
        have hs241 := Below.size e235
        replace E := E.trans e235
        replace hnX13 := hnX13.ext e235
        replace haX14 := haX14.ext e235
        replace hnY17 := hnY17.ext e235
        replace haY18 := haY18.ext e235
        replace hB27 := hB27.ext e235
        replace hB34 := hB34.ext e235
        replace hn174 := hn174.ext e235
        replace ha175 := ha175.ext e235
        replace hB181 := hB181.ext e235
        replace hn195 := hn195.ext e235
        replace ha196 := ha196.ext e235
        replace hB202 := hB202.ext e235
        refine Sq.beT (by exact eqA_refl _) ?_
        refine Sq.move .plain rfl rfl ?_
        refine Sq.move (.met rfl rfl rfl) rfl rfl ?_
        refine Sq.move (.met rfl rfl rfl) rfl rfl ?_
        refine Sq.eqlB und4 (.met rfl rfl rfl) rfl rfl rfl ?_
        refine Sq.pickT .plain rfl rfl rfl ?_
        refine Sq.assign .plain rfl rfl ?_
        refine Sq.nil ?_
        refine Eq.next ?_
        refine Cq.ret ?_
        refine Eq.pastRet ?_
        refine Eq.ret1 rfl rfl ?_
        exact ⟨rfl, E⟩

end Go.Proofs.Ytdejmfkpohgamaa
