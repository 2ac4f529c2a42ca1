/-
  Walks, printed by a program out of the translation and a contract for each function; each step is one law.
-/
import Derived.Test.YtmlhgkfbiapakaaWq
import Derived.Test.YtmlhgkfbiapakaaWr
import Derived.Test.YtmlhgkfbiapakaaWp
import Derived.Test.YtmlhgkfbiapakaaWc
import Derived.Test.YtmlhgkfbiapakaaWs
import Derived.Test.YtmlhgkfbiapakaaWm
import Derived.Test.YtmlhgkfbiapakaaWk
import Derived.Test.YtmlhgkfbiapakaaWl
set_option linter.unusedSimpArgs false
set_option linter.unusedVariables false
namespace Go.Proofs.Ytmlhgkfbiapakaa
open Go.RowKit

set_option maxRecDepth 100000 in
theorem lComplement (w0 : World) (e : TypeId) (a0 : Option Addr) (c0 : Nat) (cs : List UInt8) (hc : Bytes w0 e (.slice a0 cs.length c0) cs) (hcap : cs.length ≤ c0) (e' : TypeId) (a0' : Option Addr) (c0' : Nat) (cs' : List UInt8) (hc' : Bytes w0 e' (.slice a0' cs'.length c0') cs') (hcap' : cs'.length ≤ c0') : Ret Try.prog 11 #[Value.slice a0 cs.length c0, Value.slice a0' cs'.length c0'] w0 (fun v w => v = .bool true ∧ Ext w0 w) := by
  have E := Ext.refl w0
  refine Ret.of (args := [Value.slice a0 cs.length c0, Value.slice a0' cs'.length c0']) Try.func11 rfl rfl rfl ?_
  rintro _ rfl
  show Cq _ _ _ _ [(0, Value.slice a0 cs.length c0), (1, Value.slice a0' cs'.length c0')] _
  refine Cq.seq ?_
  refine Cq.region ?_
  refine Sq.assign .plain rfl rfl ?_
  refine Sq.nil ?_
  refine Eq.next ?_
  refine Cq.seq ?_
  refine Cq.seq ?_
  refine Cq.region ?_
  refine Sq.move .plain rfl rfl ?_
  refine Sq.lenBytes (hc.ext E) .plain rfl und22 rfl ?_
  refine Sq.gtr .plain rfl rfl rfl ?_
  refine Sq.part (fun c1 => ?_) (fun c1 => ?_)
  · refine Sq.move .plain rfl rfl ?_
    refine Sq.off rfl rfl rfl rfl rfl rfl ?_
    refine Sq.off rfl rfl rfl rfl rfl rfl ?_
    refine Sq.off rfl rfl rfl rfl rfl rfl ?_
    refine Sq.pickT .plain rfl rfl rfl ?_
    refine Sq.nil ?_
    refine Eq.next ?_
    refine Cq.thn rfl ?_
    refine Cq.seq ?_
    refine Cq.region ?_
    refine Sq.assign .plain rfl rfl ?_
    refine Sq.nil ?_
    refine Eq.next ?_
    refine Cq.ret ?_
    refine Eq.pastRet ?_
    refine Eq.ret1 rfl rfl ?_
    exact ⟨rfl, E⟩
  · refine Sq.move .plain rfl rfl ?_
    refine Sq.move (.met rfl rfl rfl) rfl rfl ?_
    refine Sq.lenBytes (hc'.ext E) (.met rfl rfl rfl) rfl und22 rfl ?_
    refine Sq.gtr (.met rfl rfl rfl) rfl rfl rfl ?_
    refine Sq.part (fun c2 => ?_) (fun c2 => ?_)
    · refine Sq.pickF .plain rfl rfl rfl ?_
      refine Sq.nil ?_
      refine Eq.next ?_
      refine Cq.thn rfl ?_
      refine Cq.seq ?_
      refine Cq.region ?_
      refine Sq.assign .plain rfl rfl ?_
      refine Sq.nil ?_
      refine Eq.next ?_
      refine Cq.ret ?_
      refine Eq.pastRet ?_
      refine Eq.ret1 rfl rfl ?_
      exact ⟨rfl, E⟩
    · refine Sq.pickF .plain rfl rfl rfl ?_
      refine Sq.nil ?_
      refine Eq.next ?_
      refine Cq.els rfl ?_
      refine Cq.skip ?_
      refine Eq.next ?_
      refine Cq.seq ?_
      refine Cq.region ?_
      refine Sq.move .plain rfl rfl ?_
      refine Sq.call fn38 .plain rfl rfl (drawCompl_c _ _ _ _ _ (hc.ext E) hcap) ?_
      rintro _ w4 ⟨⟨a6, ⟨nx7, ac8, rfl, hn9, ha10⟩, hsm11⟩, e5⟩
      have hs12 := Below.size E
      have hs13 := Below.size e5
      replace E := E.trans e5
      refine Sq.alloc zero26 .plain rfl (fun b14 w15 e16 hB17 hlo18 => ?_)
      have hd19 := Nat.le_trans (Below.size E) hlo18
      have hs20 := Below.size e16
      replace E := E.trans e16
      replace hn9 := hn9.ext e16
      replace ha10 := ha10.ext e16
      refine Sq.storeAgg agg26 .plain rfl rfl (one_cons rfl (one_cons (Rows.one hn9) (one_cons (Row.one ha10) one_nil))) hB17 rfl rfl (fun w21 g22 hB23 => ?_)
      have hs24 := World.grownBy.size g22
      replace E := E.grown g22 (fun k hk => by injection hk with hk; subst hk; omega)
      replace hn9 := hn9.stored g22 hB17 (by decide) (by decide)
      replace ha10 := ha10.stored g22 hB17 (by decide)
      replace hB17 := hB23
      refine Sq.nil ?_
      refine Eq.next ?_
      refine Cq.seq ?_
      refine Cq.region ?_
      refine Sq.loadAgg agg26 .plain rfl rfl hB17 rfl ?_
      rcases Bool.eq_false_or_eq_true (validA a6) with hC | hC
      · have hv := hC
        refine Sq.call fn29 .plain rfl rfl (compl_c_T _ a6 _ _ hn9 ha10 hC) ?_
        rintro _ w26 ⟨⟨_, rfl, nx28, ac29, rfl, hn30, ha31⟩, e27⟩
        have hs32 := Below.size E
        have hs33 := Below.size e27
        replace E := E.trans e27
        replace hn9 := hn9.ext e27
        replace ha10 := ha10.ext e27
        replace hB17 := hB17.ext e27
        refine Sq.move .plain rfl rfl ?_
        refine Sq.extract .plain rfl rfl rfl ?_
        refine Sq.extract .plain rfl rfl rfl ?_
        refine Sq.alloc zero26 .plain rfl (fun b34 w35 e36 hB37 hlo38 => ?_)
        have hd39 := Nat.le_trans (Below.size E) hlo38
        have hd40 := Nat.lt_of_lt_of_le hB17.lt hlo38
        have hs41 := Below.size e36
        replace E := E.trans e36
        replace hn9 := hn9.ext e36
        replace ha10 := ha10.ext e36
        replace hB17 := hB17.ext e36
        replace hn30 := hn30.ext e36
        replace ha31 := ha31.ext e36
        refine Sq.storeAgg agg26 .plain rfl rfl (one_cons rfl (one_cons (Rows.one (OwnRows.rows hn30)) (one_cons (Row.one (Own.row ha31)) one_nil))) hB37 rfl rfl (fun w42 g43 hB44 => ?_)
        have hs45 := World.grownBy.size g43
        replace E := E.grown g43 (fun k hk => by injection hk with hk; subst hk; omega)
        replace hn9 := hn9.stored g43 hB37 (by decide) (by decide)
        replace ha10 := ha10.stored g43 hB37 (by decide)
        replace hB17 := hB17.grown g43 (by intro h; injection h with h; omega)
        replace hn30 := hn30.stored g43 hB37 (by decide) (by decide)
        replace ha31 := ha31.stored g43 hB37 (by decide)
        replace hB37 := hB44
        refine Sq.assign .plain rfl rfl ?_
        refine Sq.nil ?_
        refine Eq.next ?_
        refine Cq.seq ?_
        refine Cq.region ?_
        refine Sq.loadAgg agg26 .plain rfl rfl hB17 rfl ?_
        refine Sq.call fn39 .plain rfl rfl (sCompl_c_T _ a6 _ _ hn9 ha10 hC) ?_
        rintro _ w47 ⟨⟨_, rfl, nx49, ac50, rfl, hn51, ha52⟩, e48⟩
        have hs53 := Below.size E
        have hs54 := Below.size e48
        replace E := E.trans e48
        replace hn9 := hn9.ext e48
        replace ha10 := ha10.ext e48
        replace hB17 := hB17.ext e48
        replace hn30 := hn30.ext e48
        replace ha31 := ha31.ext e48
        replace hB37 := hB37.ext e48
        refine Sq.move .plain rfl rfl ?_
        refine Sq.extract .plain rfl rfl rfl ?_
        refine Sq.extract .plain rfl rfl rfl ?_
        refine Sq.alloc zero26 .plain rfl (fun b55 w56 e57 hB58 hlo59 => ?_)
        have hd60 := Nat.le_trans (Below.size E) hlo59
        have hd61 := Nat.lt_of_lt_of_le hB17.lt hlo59
        have hd62 := Nat.lt_of_lt_of_le hB37.lt hlo59
        have hs63 := Below.size e57
        replace E := E.trans e57
        replace hn9 := hn9.ext e57
        replace ha10 := ha10.ext e57
        replace hB17 := hB17.ext e57
        replace hn30 := hn30.ext e57
        replace ha31 := ha31.ext e57
        replace hB37 := hB37.ext e57
        replace hn51 := hn51.ext e57
        replace ha52 := ha52.ext e57
        refine Sq.storeAgg agg26 .plain rfl rfl (one_cons rfl (one_cons (Rows.one (OwnRows.rows hn51)) (one_cons (Row.one (Own.row ha52)) one_nil))) hB58 rfl rfl (fun w64 g65 hB66 => ?_)
        have hs67 := World.grownBy.size g65
        replace E := E.grown g65 (fun k hk => by injection hk with hk; subst hk; omega)
        replace hn9 := hn9.stored g65 hB58 (by decide) (by decide)
        replace ha10 := ha10.stored g65 hB58 (by decide)
        replace hB17 := hB17.grown g65 (by intro h; injection h with h; omega)
        replace hn30 := hn30.stored g65 hB58 (by decide) (by decide)
        replace ha31 := ha31.stored g65 hB58 (by decide)
        replace hB37 := hB37.grown g65 (by intro h; injection h with h; omega)
        replace hn51 := hn51.stored g65 hB58 (by decide) (by decide)
        replace ha52 := ha52.stored g65 hB58 (by decide)
        replace hB58 := hB66
        refine Sq.assign .plain rfl rfl ?_
        refine Sq.nil ?_
        refine Eq.next ?_
        refine Cq.seq ?_
        refine Cq.region ?_
        refine Sq.move .plain rfl rfl ?_
        have hd80 := hB17.lt
        have hd81 := hB37.lt
        have hd82 := hB58.lt
        refine Sq.call fn30 .plain rfl rfl (drawAfter_c _ _ _ _ _ (hc'.ext E) hcap') ?_
        rintro _ w69 ⟨⟨u71, s72, a73, rfl, ⟨nx74, ac75, rfl, hn76, ha77⟩, hsm78, hsz79⟩, e70⟩
        have hs83 := Below.size E
        have hs84 := Below.size e70
        replace E := E.trans e70
        replace hn9 := hn9.ext e70
        replace ha10 := ha10.ext e70
        replace hB17 := hB17.ext e70
        replace hn30 := hn30.ext e70
        replace ha31 := ha31.ext e70
        replace hB37 := hB37.ext e70
        replace hn51 := hn51.ext e70
        replace ha52 := ha52.ext e70
        replace hB58 := hB58.ext e70
        refine Sq.move .plain rfl rfl ?_
        refine Sq.extract .plain rfl rfl rfl ?_
        refine Sq.extract .plain rfl rfl rfl ?_
        refine Sq.alloc zero26 .plain rfl (fun b85 w86 e87 hB88 hlo89 => ?_)
        have hd90 := Nat.le_trans (Below.size E) hlo89
        have hd91 := Nat.lt_of_lt_of_le hB17.lt hlo89
        have hd92 := Nat.lt_of_lt_of_le hB37.lt hlo89
        have hd93 := Nat.lt_of_lt_of_le hB58.lt hlo89
        have hs94 := Below.size e87
        replace E := E.trans e87
        replace hn9 := hn9.ext e87
        replace ha10 := ha10.ext e87
        replace hB17 := hB17.ext e87
        replace hn30 := hn30.ext e87
        replace ha31 := ha31.ext e87
        replace hB37 := hB37.ext e87
        replace hn51 := hn51.ext e87
        replace ha52 := ha52.ext e87
        replace hB58 := hB58.ext e87
        replace hn76 := hn76.ext e87
        replace ha77 := ha77.ext e87
        refine Sq.storeAgg agg26 .plain rfl rfl (one_cons rfl (one_cons (Rows.one hn76) (one_cons (Row.one ha77) one_nil))) hB88 rfl rfl (fun w95 g96 hB97 => ?_)
        have hs98 := World.grownBy.size g96
        replace E := E.grown g96 (fun k hk => by injection hk with hk; subst hk; omega)
        replace hn9 := hn9.stored g96 hB88 (by decide) (by decide)
        replace ha10 := ha10.stored g96 hB88 (by decide)
        replace hB17 := hB17.grown g96 (by intro h; injection h with h; omega)
        replace hn30 := hn30.stored g96 hB88 (by decide) (by decide)
        replace ha31 := ha31.stored g96 hB88 (by decide)
        replace hB37 := hB37.grown g96 (by intro h; injection h with h; omega)
        replace hn51 := hn51.stored g96 hB88 (by decide) (by decide)
        replace ha52 := ha52.stored g96 hB88 (by decide)
        replace hB58 := hB58.grown g96 (by intro h; injection h with h; omega)
        replace hn76 := hn76.stored g96 hB88 (by decide) (by decide)
        replace ha77 := ha77.stored g96 hB88 (by decide)
        replace hB88 := hB97
        refine Sq.assign .plain rfl rfl ?_
        refine Sq.nil ?_
        refine Eq.next ?_
        refine Cq.seq ?_
        refine Cq.seq ?_
        refine Cq.region ?_
        refine Sq.loadAgg agg26 .plain rfl rfl hB37 rfl ?_
        refine Sq.loadAgg agg26 .plain rfl rfl hB58 rfl ?_
        have hd102 := hB17.lt
        have hd103 := hB37.lt
        have hd104 := hB58.lt
        have hd105 := hB88.lt
        refine Sq.call fn18 .plain rfl rfl (agAutomata_c _ (compl a6) (compl a6) _ _ _ _ (OwnRows.rows hn30) (Own.row ha31) (OwnRows.rows hn51) (Own.row ha52) (by first | exact fit_zero | exact fit_of_valid (by first | assumption | exact extend_valid hv hk | exact compl_valid' (extend_valid hv hk) | exact compl_valid' hv | exact compl_valid' (compl_valid' hv)) | assumption)) ?_
        rintro _ w100 ⟨rfl, e101⟩
        have hs106 := Below.size E
        have hs107 := Below.size e101
        replace E := E.trans e101
        replace hn9 := hn9.ext e101
        replace ha10 := ha10.ext e101
        replace hB17 := hB17.ext e101
        replace hn30 := hn30.ext e101
        replace ha31 := ha31.ext e101
        replace hB37 := hB37.ext e101
        replace hn51 := hn51.ext e101
        replace ha52 := ha52.ext e101
        replace hB58 := hB58.ext e101
        replace hn76 := hn76.ext e101
        replace ha77 := ha77.ext e101
        replace hB88 := hB88.ext e101
        refine Sq.beT (by exact eqA_refl _) ?_
        refine Sq.notT .plain rfl rfl ?_
        refine Sq.move .plain rfl rfl ?_
        refine Sq.move (.met rfl rfl rfl) rfl rfl ?_
        refine Sq.move (.met rfl rfl rfl) rfl rfl ?_
        refine Sq.neqB und4 (.met rfl rfl rfl) rfl rfl rfl ?_
        refine Sq.pickF .plain rfl rfl rfl ?_
        refine Sq.move .plain rfl rfl ?_
        refine Sq.move (.met rfl rfl rfl) rfl rfl ?_
        refine Sq.loadAgg agg26 (.met rfl rfl rfl) rfl rfl hB17 rfl ?_
        have hd111 := hB17.lt
        have hd112 := hB37.lt
        have hd113 := hB58.lt
        have hd114 := hB88.lt
        refine Sq.call fn19 (.met rfl rfl rfl) rfl rfl (valid_c _ a6 _ _ hn9 ha10) ?_
        rintro _ w109 ⟨rfl, e110⟩
        have hs115 := Below.size E
        have hs116 := Below.size e110
        replace E := E.trans e110
        replace hn9 := hn9.ext e110
        replace ha10 := ha10.ext e110
        replace hB17 := hB17.ext e110
        replace hn30 := hn30.ext e110
        replace ha31 := ha31.ext e110
        replace hB37 := hB37.ext e110
        replace hn51 := hn51.ext e110
        replace ha52 := ha52.ext e110
        replace hB58 := hB58.ext e110
        replace hn76 := hn76.ext e110
        replace ha77 := ha77.ext e110
        replace hB88 := hB88.ext e110
        refine Sq.beT (hv) ?_
        refine Sq.neqB und4 (.met rfl rfl rfl) rfl rfl rfl ?_
        refine Sq.pickF .plain rfl rfl rfl ?_
        refine Sq.move .plain rfl rfl ?_
        refine Sq.move (.met rfl rfl rfl) rfl rfl ?_
        refine Sq.notT (.met rfl rfl rfl) rfl rfl ?_
        refine Sq.pickF .plain rfl rfl rfl ?_
        refine Sq.nil ?_
        refine Eq.next ?_
        refine Cq.els rfl ?_
        refine Cq.skip ?_
        refine Eq.next ?_
        refine Cq.seq ?_
        refine Cq.region ?_
        refine Sq.loadAgg agg26 .plain rfl rfl hB37 rfl ?_
        refine Sq.call fn29 .plain rfl rfl (compl_c_T _ (compl a6) _ _ (OwnRows.rows hn30) (Own.row ha31) (by exact compl_valid' hv)) ?_
        rintro _ w118 ⟨⟨_, rfl, nx120, ac121, rfl, hn122, ha123⟩, e119⟩
        have hs124 := Below.size E
        have hs125 := Below.size e119
        replace E := E.trans e119
        replace hn9 := hn9.ext e119
        replace ha10 := ha10.ext e119
        replace hB17 := hB17.ext e119
        replace hn30 := hn30.ext e119
        replace ha31 := ha31.ext e119
        replace hB37 := hB37.ext e119
        replace hn51 := hn51.ext e119
        replace ha52 := ha52.ext e119
        replace hB58 := hB58.ext e119
        replace hn76 := hn76.ext e119
        replace ha77 := ha77.ext e119
        replace hB88 := hB88.ext e119
        refine Sq.move .plain rfl rfl ?_
        refine Sq.extract .plain rfl rfl rfl ?_
        refine Sq.extract .plain rfl rfl rfl ?_
        refine Sq.alloc zero26 .plain rfl (fun b126 w127 e128 hB129 hlo130 => ?_)
        have hd131 := Nat.le_trans (Below.size E) hlo130
        have hd132 := Nat.lt_of_lt_of_le hB17.lt hlo130
        have hd133 := Nat.lt_of_lt_of_le hB37.lt hlo130
        have hd134 := Nat.lt_of_lt_of_le hB58.lt hlo130
        have hd135 := Nat.lt_of_lt_of_le hB88.lt hlo130
        have hs136 := Below.size e128
        replace E := E.trans e128
        replace hn9 := hn9.ext e128
        replace ha10 := ha10.ext e128
        replace hB17 := hB17.ext e128
        replace hn30 := hn30.ext e128
        replace ha31 := ha31.ext e128
        replace hB37 := hB37.ext e128
        replace hn51 := hn51.ext e128
        replace ha52 := ha52.ext e128
        replace hB58 := hB58.ext e128
        replace hn76 := hn76.ext e128
        replace ha77 := ha77.ext e128
        replace hB88 := hB88.ext e128
        replace hn122 := hn122.ext e128
        replace ha123 := ha123.ext e128
        refine Sq.storeAgg agg26 .plain rfl rfl (one_cons rfl (one_cons (Rows.one (OwnRows.rows hn122)) (one_cons (Row.one (Own.row ha123)) one_nil))) hB129 rfl rfl (fun w137 g138 hB139 => ?_)
        have hs140 := World.grownBy.size g138
        replace E := E.grown g138 (fun k hk => by injection hk with hk; subst hk; omega)
        replace hn9 := hn9.stored g138 hB129 (by decide) (by decide)
        replace ha10 := ha10.stored g138 hB129 (by decide)
        replace hB17 := hB17.grown g138 (by intro h; injection h with h; omega)
        replace hn30 := hn30.stored g138 hB129 (by decide) (by decide)
        replace ha31 := ha31.stored g138 hB129 (by decide)
        replace hB37 := hB37.grown g138 (by intro h; injection h with h; omega)
        replace hn51 := hn51.stored g138 hB129 (by decide) (by decide)
        replace ha52 := ha52.stored g138 hB129 (by decide)
        replace hB58 := hB58.grown g138 (by intro h; injection h with h; omega)
        replace hn76 := hn76.stored g138 hB129 (by decide) (by decide)
        replace ha77 := ha77.stored g138 hB129 (by decide)
        replace hB88 := hB88.grown g138 (by intro h; injection h with h; omega)
        replace hn122 := hn122.stored g138 hB129 (by decide) (by decide)
        replace ha123 := ha123.stored g138 hB129 (by decide)
        replace hB129 := hB139
        refine Sq.assign .plain rfl rfl ?_
        refine Sq.nil ?_
        refine Eq.next ?_
        refine Cq.seq ?_
        refine Cq.drawS 22 (fun w' => Blk w' b126 26 [Value.int .i64 (((compl (compl a6))).al), nx120, ac121] ∧ Blk w' b14 26 [Value.int .i64 a6.al, nx7, ac8] ∧ Blk w' b34 26 [Value.int .i64 ((compl a6).al), nx28, ac29]) mixed (⟨hB129, hB17, hB37⟩) (fun w141 e142 hS => ?_)
        clear hS
        have hs143 := Below.size e142
        replace E := E.trans e142
        replace hn9 := hn9.ext e142
        replace ha10 := ha10.ext e142
        replace hB17 := hB17.ext e142
        replace hn30 := hn30.ext e142
        replace ha31 := ha31.ext e142
        replace hB37 := hB37.ext e142
        replace hn51 := hn51.ext e142
        replace ha52 := ha52.ext e142
        replace hB58 := hB58.ext e142
        replace hn76 := hn76.ext e142
        replace ha77 := ha77.ext e142
        replace hB88 := hB88.ext e142
        replace hn122 := hn122.ext e142
        replace ha123 := ha123.ext e142
        replace hB129 := hB129.ext e142
        have E_w141 := E
        have hn9_w141 := hn9
        have ha10_w141 := ha10
        have hB17_w141 := hB17
        have hn30_w141 := hn30
        have ha31_w141 := ha31
        have hB37_w141 := hB37
        have hn51_w141 := hn51
        have ha52_w141 := ha52
        have hB58_w141 := hB58
        have hn76_w141 := hn76
        have ha77_w141 := ha77
        have hB88_w141 := hB88
        have hn122_w141 := hn122
        have ha123_w141 := ha123
        have hB129_w141 := hB129
        refine Gq.st 0 rfl (by kernel_rfl) rfl .plain rfl (fun _ _ _ h => h) ⟨hB129, hB17, hB37⟩ (fun w' x => Still.move rfl) ?_
        refine Gq.st 1 rfl (by kernel_rfl) rfl .plain rfl (fun _ _ _ h => h) ⟨hB129, hB17, hB37⟩ (fun w' x => Still.move rfl) ?_
        refine Gq.st 2 rfl (by kernel_rfl) rfl (.met rfl rfl rfl) rfl (fun _ _ _ h => h) ⟨hB129, hB17, hB37⟩ (fun w' x => Still.loadAgg agg26 rfl x.1 rfl) ?_
        refine Gq.st 3 rfl (by kernel_rfl) rfl (.met rfl rfl rfl) rfl (fun _ _ _ h => h) ⟨hB129, hB17, hB37⟩ (fun w' x => Still.loadAgg agg26 rfl x.2.1 rfl) ?_
        refine Gq.one 4 rfl (by kernel_rfl) ?_
        have hd147 := hB17.lt
        have hd148 := hB37.lt
        have hd149 := hB58.lt
        have hd150 := hB88.lt
        have hd151 := hB129.lt
        refine Sq.call fn18 (.met rfl rfl rfl) rfl rfl (agAutomata_c _ ((compl (compl a6))) a6 _ _ _ _ (OwnRows.rows hn122) (Own.row ha123) hn9 ha10 (by first | exact fit_zero | exact fit_of_valid (by first | assumption | exact extend_valid hv hk | exact compl_valid' (extend_valid hv hk) | exact compl_valid' hv | exact compl_valid' (compl_valid' hv)) | assumption)) ?_
        rintro _ w145 ⟨rfl, e146⟩
        have hs152 := Below.size E
        have hs153 := Below.size e146
        replace E := E.trans e146
        replace hn9 := hn9.ext e146
        replace ha10 := ha10.ext e146
        replace hB17 := hB17.ext e146
        replace hn30 := hn30.ext e146
        replace ha31 := ha31.ext e146
        replace hB37 := hB37.ext e146
        replace hn51 := hn51.ext e146
        replace ha52 := ha52.ext e146
        replace hB58 := hB58.ext e146
        replace hn76 := hn76.ext e146
        replace ha77 := ha77.ext e146
        replace hB88 := hB88.ext e146
        replace hn122 := hn122.ext e146
        replace ha123 := ha123.ext e146
        replace hB129 := hB129.ext e146
        refine Sq.beT (by rw [compl_compl]; exact eqA_refl _) ?_
        refine Sq.nil ?_
        refine Eq.goes (fun _ => ⟨hB129, hB17, hB37⟩) ?_
        refine Gq.st 5 rfl (by kernel_rfl) rfl .plain rfl (fun _ _ _ h => h) ⟨hB129, hB17, hB37⟩ (fun w' x => Still.pickT rfl rfl) ?_
        refine Gq.st 6 rfl (by kernel_rfl) rfl .plain rfl (fun _ _ _ h => h) ⟨hB129, hB17, hB37⟩ (fun w' x => Still.move rfl) ?_
        refine Gq.st 7 rfl (by kernel_rfl) rfl (.met rfl rfl rfl) rfl (fun _ _ _ h => h) ⟨hB129, hB17, hB37⟩ (fun w' x => Still.move rfl) ?_
        refine Gq.st 8 rfl (by kernel_rfl) rfl (.met rfl rfl rfl) rfl (fun _ _ _ h => h) ⟨hB129, hB17, hB37⟩ (fun w' x => Still.fieldAddr fld26_0 rfl) ?_
        refine Gq.st 9 rfl (by kernel_rfl) rfl (.met rfl rfl rfl) rfl (fun _ _ _ h => h) ⟨hB129, hB17, hB37⟩ (fun w' x => Still.loadB one3 rfl x.2.1 rfl) ?_
        refine Gq.one 10 rfl (by kernel_rfl) ?_
        refine Sq.call fn37 (.met rfl rfl rfl) rfl rfl (within_c s72 a6.al _) ?_
        rintro _ _ ⟨rfl, rfl⟩
        refine Sq.partB (fun hw => ?_) (fun hw => ?_)
        · refine Sq.nil ?_
          refine Eq.goes (fun _ => ⟨hB129, hB17, hB37⟩) ?_
          refine Gq.st 11 rfl (by kernel_rfl) rfl (.met rfl rfl rfl) rfl (fun _ _ _ h => h) ⟨hB129, hB17, hB37⟩ (fun w' x => Still.notT rfl) ?_
          refine Gq.st 12 rfl (by kernel_rfl) rfl (.met rfl rfl rfl) rfl (fun _ _ _ h => h) ⟨hB129, hB17, hB37⟩ (fun w' x => Still.move rfl) ?_
          refine Gq.st 13 rfl (by kernel_rfl) rfl (.met rfl rfl rfl) rfl (fun _ _ _ h => h) ⟨hB129, hB17, hB37⟩ (fun w' x => Still.loadAgg agg26 rfl x.2.2 rfl) ?_
          refine Gq.st 14 rfl (by kernel_rfl) rfl (.met rfl rfl rfl) rfl (fun _ _ _ h => h) ⟨hB129, hB17, hB37⟩ (fun w' x => Still.move rfl) ?_
          refine Gq.st 16 rfl (by kernel_rfl) rfl (.met rfl rfl rfl) rfl (fun _ _ _ h => h) ⟨hB129, hB17, hB37⟩ (fun w' x => Still.loadAgg agg26 rfl x.2.1 rfl) ?_
          refine Gq.st 17 rfl (by kernel_rfl) rfl (.met rfl rfl rfl) rfl (fun _ _ _ h => h) ⟨hB129, hB17, hB37⟩ (fun w' x => Still.move rfl) ?_
          refine Gq.one 15 rfl (by kernel_rfl) ?_
          have hd157 := hB17.lt
          have hd158 := hB37.lt
          have hd159 := hB58.lt
          have hd160 := hB88.lt
          have hd161 := hB129.lt
          refine Sq.call fn28 (.met rfl rfl rfl) rfl rfl (accepts_c _ (compl a6) _ _ (OwnRows.rows hn30) (Own.row ha31) s72 (by first | omega | (simp only [size_cat, chr_size]; omega) | exact Nat.le_trans (size_cut _) (by omega) | decide)) ?_
          rintro _ w155 ⟨rfl, e156⟩
          have hs162 := Below.size E
          have hs163 := Below.size e156
          replace E := E.trans e156
          replace hn9 := hn9.ext e156
          replace ha10 := ha10.ext e156
          replace hB17 := hB17.ext e156
          replace hn30 := hn30.ext e156
          replace ha31 := ha31.ext e156
          replace hB37 := hB37.ext e156
          replace hn51 := hn51.ext e156
          replace ha52 := ha52.ext e156
          replace hB58 := hB58.ext e156
          replace hn76 := hn76.ext e156
          replace ha77 := ha77.ext e156
          replace hB88 := hB88.ext e156
          replace hn122 := hn122.ext e156
          replace ha123 := ha123.ext e156
          replace hB129 := hB129.ext e156
          refine Sq.nil ?_
          refine Eq.goes (fun _ => ⟨hB129, hB17, hB37⟩) ?_
          refine Gq.one 18 rfl (by kernel_rfl) ?_
          have hd167 := hB17.lt
          have hd168 := hB37.lt
          have hd169 := hB58.lt
          have hd170 := hB88.lt
          have hd171 := hB129.lt
          refine Sq.call fn28 (.met rfl rfl rfl) rfl rfl (accepts_c _ a6 _ _ hn9 ha10 s72 (by first | omega | (simp only [size_cat, chr_size]; omega) | exact Nat.le_trans (size_cut _) (by omega) | decide)) ?_
          rintro _ w165 ⟨rfl, e166⟩
          have hs172 := Below.size E
          have hs173 := Below.size e166
          replace E := E.trans e166
          replace hn9 := hn9.ext e166
          replace ha10 := ha10.ext e166
          replace hB17 := hB17.ext e166
          replace hn30 := hn30.ext e166
          replace ha31 := ha31.ext e166
          replace hB37 := hB37.ext e166
          replace hn51 := hn51.ext e166
          replace ha52 := ha52.ext e166
          replace hB58 := hB58.ext e166
          replace hn76 := hn76.ext e166
          replace ha77 := ha77.ext e166
          replace hB88 := hB88.ext e166
          replace hn122 := hn122.ext e166
          replace ha123 := ha123.ext e166
          replace hB129 := hB129.ext e166
          refine Sq.nil ?_
          refine Eq.goes (fun _ => ⟨hB129, hB17, hB37⟩) ?_
          refine Gq.st 19 rfl (by kernel_rfl) rfl (.met rfl rfl rfl) rfl (fun _ _ _ h => h) ⟨hB129, hB17, hB37⟩ (fun w' x => Still.neqB und4 rfl rfl) ?_
          refine Gq.beT (by rw [accepts_compl hv hw]; cases accepts _ _ <;> rfl) ?_
          refine Gq.st 20 rfl (by kernel_rfl) rfl (.met rfl rfl rfl) rfl (fun _ _ _ h => h) ⟨hB129, hB17, hB37⟩ (fun w' x => Still.pickF rfl rfl) ?_
          refine Gq.st 21 rfl (by kernel_rfl) rfl .plain rfl (fun _ _ _ h => h) ⟨hB129, hB17, hB37⟩ (fun w' x => Still.pickT rfl rfl) ?_
          refine Gq.one 22 rfl (by kernel_rfl) ?_
          refine Sq.assign .plain rfl rfl ?_
          refine Sq.nil ?_
          refine Eq.goes (fun h => absurd h (by decide)) ?_
          refine Gq.done (by kernel_rfl) ?_
          refine Eq.next ?_
          refine Cq.ret ?_
          refine Eq.ret1 rfl rfl ?_
          exact ⟨rfl, E⟩
        · refine Sq.nil ?_
          refine Eq.goes (fun _ => ⟨hB129, hB17, hB37⟩) ?_
          refine Gq.st 11 rfl (by kernel_rfl) rfl (.met rfl rfl rfl) rfl (fun _ _ _ h => h) ⟨hB129, hB17, hB37⟩ (fun w' x => Still.notF rfl) ?_
          refine Gq.st 12 rfl (by kernel_rfl) rfl (.met rfl rfl rfl) rfl (fun _ _ _ h => h) ⟨hB129, hB17, hB37⟩ (fun w' x => Still.move rfl) ?_
          refine Gq.off 13 rfl (by kernel_rfl) rfl rfl rfl rfl rfl rfl (fun _ _ _ h => h) ⟨hB129, hB17, hB37⟩ ?_
          refine Gq.off 14 rfl (by kernel_rfl) rfl rfl rfl rfl rfl rfl (fun _ _ _ h => h) ⟨hB129, hB17, hB37⟩ ?_
          refine Gq.off 15 rfl (by kernel_rfl) rfl rfl rfl rfl rfl rfl (fun _ _ _ h => h) ⟨hB129, hB17, hB37⟩ ?_
          refine Gq.off 16 rfl (by kernel_rfl) rfl rfl rfl rfl rfl rfl (fun _ _ _ h => h) ⟨hB129, hB17, hB37⟩ ?_
          refine Gq.off 17 rfl (by kernel_rfl) rfl rfl rfl rfl rfl rfl (fun _ _ _ h => h) ⟨hB129, hB17, hB37⟩ ?_
          refine Gq.off 18 rfl (by kernel_rfl) rfl rfl rfl rfl rfl rfl (fun _ _ _ h => h) ⟨hB129, hB17, hB37⟩ ?_
          refine Gq.off 19 rfl (by kernel_rfl) rfl rfl rfl rfl rfl rfl (fun _ _ _ h => h) ⟨hB129, hB17, hB37⟩ ?_
          refine Gq.st 20 rfl (by kernel_rfl) rfl (.met rfl rfl rfl) rfl (fun _ _ _ h => h) ⟨hB129, hB17, hB37⟩ (fun w' x => Still.pickT rfl rfl) ?_
          refine Gq.st 21 rfl (by kernel_rfl) rfl .plain rfl (fun _ _ _ h => h) ⟨hB129, hB17, hB37⟩ (fun w' x => Still.pickT rfl rfl) ?_
          refine Gq.one 22 rfl (by kernel_rfl) ?_
          refine Sq.assign .plain rfl rfl ?_
          refine Sq.nil ?_
          refine Eq.goes (fun h => absurd h (by decide)) ?_
          refine Gq.done (by kernel_rfl) ?_
          refine Eq.next ?_
          refine Cq.ret ?_
          refine Eq.ret1 rfl rfl ?_
          exact ⟨rfl, E⟩
      · refine Sq.call fn29 .plain rfl rfl (compl_c_F _ a6 _ _ hn9 ha10 hC) ?_
        rintro _ w175 ⟨⟨_, rfl, nx177, ac178, rfl, hn179, ha180⟩, e176⟩
        have hs181 := Below.size E
        have hs182 := Below.size e176
        replace E := E.trans e176
        replace hn9 := hn9.ext e176
        replace ha10 := ha10.ext e176
        replace hB17 := hB17.ext e176
        refine Sq.move .plain rfl rfl ?_
        refine Sq.extract .plain rfl rfl rfl ?_
        refine Sq.extract .plain rfl rfl rfl ?_
        refine Sq.alloc zero26 .plain rfl (fun b183 w184 e185 hB186 hlo187 => ?_)
        have hd188 := Nat.le_trans (Below.size E) hlo187
        have hd189 := Nat.lt_of_lt_of_le hB17.lt hlo187
        have hs190 := Below.size e185
        replace E := E.trans e185
        replace hn9 := hn9.ext e185
        replace ha10 := ha10.ext e185
        replace hB17 := hB17.ext e185
        replace hn179 := hn179.ext e185
        replace ha180 := ha180.ext e185
        refine Sq.storeAgg agg26 .plain rfl rfl (one_cons rfl (one_cons (Rows.one (OwnRows.rows hn179)) (one_cons (Row.one (Own.row ha180)) one_nil))) hB186 rfl rfl (fun w191 g192 hB193 => ?_)
        have hs194 := World.grownBy.size g192
        replace E := E.grown g192 (fun k hk => by injection hk with hk; subst hk; omega)
        replace hn9 := hn9.stored g192 hB186 (by decide) (by decide)
        replace ha10 := ha10.stored g192 hB186 (by decide)
        replace hB17 := hB17.grown g192 (by intro h; injection h with h; omega)
        replace hn179 := hn179.stored g192 hB186 (by decide) (by decide)
        replace ha180 := ha180.stored g192 hB186 (by decide)
        replace hB186 := hB193
        refine Sq.assign .plain rfl rfl ?_
        refine Sq.nil ?_
        refine Eq.next ?_
        refine Cq.seq ?_
        refine Cq.region ?_
        refine Sq.loadAgg agg26 .plain rfl rfl hB17 rfl ?_
        refine Sq.call fn39 .plain rfl rfl (sCompl_c_F _ a6 _ _ hn9 ha10 hC) ?_
        rintro _ w196 ⟨⟨_, rfl, nx198, ac199, rfl, hn200, ha201⟩, e197⟩
        have hs202 := Below.size E
        have hs203 := Below.size e197
        replace E := E.trans e197
        replace hn9 := hn9.ext e197
        replace ha10 := ha10.ext e197
        replace hB17 := hB17.ext e197
        replace hn179 := hn179.ext e197
        replace ha180 := ha180.ext e197
        replace hB186 := hB186.ext e197
        refine Sq.move .plain rfl rfl ?_
        refine Sq.extract .plain rfl rfl rfl ?_
        refine Sq.extract .plain rfl rfl rfl ?_
        refine Sq.alloc zero26 .plain rfl (fun b204 w205 e206 hB207 hlo208 => ?_)
        have hd209 := Nat.le_trans (Below.size E) hlo208
        have hd210 := Nat.lt_of_lt_of_le hB17.lt hlo208
        have hd211 := Nat.lt_of_lt_of_le hB186.lt hlo208
        have hs212 := Below.size e206
        replace E := E.trans e206
        replace hn9 := hn9.ext e206
        replace ha10 := ha10.ext e206
        replace hB17 := hB17.ext e206
        replace hn179 := hn179.ext e206
        replace ha180 := ha180.ext e206
        replace hB186 := hB186.ext e206
        replace hn200 := hn200.ext e206
        replace ha201 := ha201.ext e206
        refine Sq.storeAgg agg26 .plain rfl rfl (one_cons rfl (one_cons (Rows.one (OwnRows.rows hn200)) (one_cons (Row.one (Own.row ha201)) one_nil))) hB207 rfl rfl (fun w213 g214 hB215 => ?_)
        have hs216 := World.grownBy.size g214
        replace E := E.grown g214 (fun k hk => by injection hk with hk; subst hk; omega)
        replace hn9 := hn9.stored g214 hB207 (by decide) (by decide)
        replace ha10 := ha10.stored g214 hB207 (by decide)
        replace hB17 := hB17.grown g214 (by intro h; injection h with h; omega)
        replace hn179 := hn179.stored g214 hB207 (by decide) (by decide)
        replace ha180 := ha180.stored g214 hB207 (by decide)
        replace hB186 := hB186.grown g214 (by intro h; injection h with h; omega)
        replace hn200 := hn200.stored g214 hB207 (by decide) (by decide)
        replace ha201 := ha201.stored g214 hB207 (by decide)
        replace hB207 := hB215
        refine Sq.assign .plain rfl rfl ?_
        refine Sq.nil ?_
        refine Eq.next ?_
        refine Cq.seq ?_
        refine Cq.region ?_
        refine Sq.move .plain rfl rfl ?_
        have hd229 := hB17.lt
        have hd230 := hB186.lt
        have hd231 := hB207.lt
        refine Sq.call fn30 .plain rfl rfl (drawAfter_c _ _ _ _ _ (hc'.ext E) hcap') ?_
        rintro _ w218 ⟨⟨u220, s221, a222, rfl, ⟨nx223, ac224, rfl, hn225, ha226⟩, hsm227, hsz228⟩, e219⟩
        have hs232 := Below.size E
        have hs233 := Below.size e219
        replace E := E.trans e219
        replace hn9 := hn9.ext e219
        replace ha10 := ha10.ext e219
        replace hB17 := hB17.ext e219
        replace hn179 := hn179.ext e219
        replace ha180 := ha180.ext e219
        replace hB186 := hB186.ext e219
        replace hn200 := hn200.ext e219
        replace ha201 := ha201.ext e219
        replace hB207 := hB207.ext e219
        refine Sq.move .plain rfl rfl ?_
        refine Sq.extract .plain rfl rfl rfl ?_
        refine Sq.extract .plain rfl rfl rfl ?_
        refine Sq.alloc zero26 .plain rfl (fun b234 w235 e236 hB237 hlo238 => ?_)
        have hd239 := Nat.le_trans (Below.size E) hlo238
        have hd240 := Nat.lt_of_lt_of_le hB17.lt hlo238
        have hd241 := Nat.lt_of_lt_of_le hB186.lt hlo238
        have hd242 := Nat.lt_of_lt_of_le hB207.lt hlo238
        have hs243 := Below.size e236
        replace E := E.trans e236
        replace hn9 := hn9.ext e236
        replace ha10 := ha10.ext e236
        replace hB17 := hB17.ext e236
        replace hn179 := hn179.ext e236
        replace ha180 := ha180.ext e236
        replace hB186 := hB186.ext e236
        replace hn200 := hn200.ext e236
        replace ha201 := ha201.ext e236
        replace hB207 := hB207.ext e236
        replace hn225 := hn225.ext e236
        replace ha226 := ha226.ext e236
        refine Sq.storeAgg agg26 .plain rfl rfl (one_cons rfl (one_cons (Rows.one hn225) (one_cons (Row.one ha226) one_nil))) hB237 rfl rfl (fun w244 g245 hB246 => ?_)
        have hs247 := World.grownBy.size g245
        replace E := E.grown g245 (fun k hk => by injection hk with hk; subst hk; omega)
        replace hn9 := hn9.stored g245 hB237 (by decide) (by decide)
        replace ha10 := ha10.stored g245 hB237 (by decide)
        replace hB17 := hB17.grown g245 (by intro h; injection h with h; omega)
        replace hn179 := hn179.stored g245 hB237 (by decide) (by decide)
        replace ha180 := ha180.stored g245 hB237 (by decide)
        replace hB186 := hB186.grown g245 (by intro h; injection h with h; omega)
        replace hn200 := hn200.stored g245 hB237 (by decide) (by decide)
        replace ha201 := ha201.stored g245 hB237 (by decide)
        replace hB207 := hB207.grown g245 (by intro h; injection h with h; omega)
        replace hn225 := hn225.stored g245 hB237 (by decide) (by decide)
        replace ha226 := ha226.stored g245 hB237 (by decide)
        replace hB237 := hB246
        refine Sq.assign .plain rfl rfl ?_
        refine Sq.nil ?_
        refine Eq.next ?_
        refine Cq.seq ?_
        refine Cq.seq ?_
        refine Cq.region ?_
        refine Sq.loadAgg agg26 .plain rfl rfl hB186 rfl ?_
        refine Sq.loadAgg agg26 .plain rfl rfl hB207 rfl ?_
        have hd251 := hB17.lt
        have hd252 := hB186.lt
        have hd253 := hB207.lt
        have hd254 := hB237.lt
        refine Sq.call fn18 .plain rfl rfl (agAutomata_c _ zeroA zeroA _ _ _ _ (OwnRows.rows hn179) (Own.row ha180) (OwnRows.rows hn200) (Own.row ha201) (by first | exact fit_zero | exact fit_of_valid (by first | assumption | exact extend_valid hv hk | exact compl_valid' (extend_valid hv hk) | exact compl_valid' hv | exact compl_valid' (compl_valid' hv)) | assumption)) ?_
        rintro _ w249 ⟨rfl, e250⟩
        have hs255 := Below.size E
        have hs256 := Below.size e250
        replace E := E.trans e250
        replace hn9 := hn9.ext e250
        replace ha10 := ha10.ext e250
        replace hB17 := hB17.ext e250
        replace hn179 := hn179.ext e250
        replace ha180 := ha180.ext e250
        replace hB186 := hB186.ext e250
        replace hn200 := hn200.ext e250
        replace ha201 := ha201.ext e250
        replace hB207 := hB207.ext e250
        replace hn225 := hn225.ext e250
        replace ha226 := ha226.ext e250
        replace hB237 := hB237.ext e250
        refine Sq.beT (by exact eqA_refl _) ?_
        refine Sq.notT .plain rfl rfl ?_
        refine Sq.move .plain rfl rfl ?_
        refine Sq.move (.met rfl rfl rfl) rfl rfl ?_
        refine Sq.move (.met rfl rfl rfl) rfl rfl ?_
        refine Sq.neqB und4 (.met rfl rfl rfl) rfl rfl rfl ?_
        refine Sq.pickF .plain rfl rfl rfl ?_
        refine Sq.move .plain rfl rfl ?_
        refine Sq.move (.met rfl rfl rfl) rfl rfl ?_
        refine Sq.loadAgg agg26 (.met rfl rfl rfl) rfl rfl hB17 rfl ?_
        have hd260 := hB17.lt
        have hd261 := hB186.lt
        have hd262 := hB207.lt
        have hd263 := hB237.lt
        refine Sq.call fn19 (.met rfl rfl rfl) rfl rfl (valid_c _ a6 _ _ hn9 ha10) ?_
        rintro _ w258 ⟨rfl, e259⟩
        have hs264 := Below.size E
        have hs265 := Below.size e259
        replace E := E.trans e259
        replace hn9 := hn9.ext e259
        replace ha10 := ha10.ext e259
        replace hB17 := hB17.ext e259
        replace hn179 := hn179.ext e259
        replace ha180 := ha180.ext e259
        replace hB186 := hB186.ext e259
        replace hn200 := hn200.ext e259
        replace ha201 := ha201.ext e259
        replace hB207 := hB207.ext e259
        replace hn225 := hn225.ext e259
        replace ha226 := ha226.ext e259
        replace hB237 := hB237.ext e259
        refine Sq.beF (hC) ?_
        refine Sq.neqB und4 (.met rfl rfl rfl) rfl rfl rfl ?_
        refine Sq.pickF .plain rfl rfl rfl ?_
        refine Sq.move .plain rfl rfl ?_
        refine Sq.move (.met rfl rfl rfl) rfl rfl ?_
        refine Sq.notF (.met rfl rfl rfl) rfl rfl ?_
        refine Sq.pickF .plain rfl rfl rfl ?_
        refine Sq.nil ?_
        refine Eq.next ?_
        refine Cq.thn rfl ?_
        refine Cq.seq ?_
        refine Cq.region ?_
        refine Sq.loadAgg agg26 .plain rfl rfl hB186 rfl ?_
        refine Sq.loadAgg agg26 .plain rfl rfl hB207 rfl ?_
        have hd269 := hB17.lt
        have hd270 := hB186.lt
        have hd271 := hB207.lt
        have hd272 := hB237.lt
        refine Sq.call fn18 .plain rfl rfl (agAutomata_c _ zeroA zeroA _ _ _ _ (OwnRows.rows hn179) (Own.row ha180) (OwnRows.rows hn200) (Own.row ha201) (by first | exact fit_zero | exact fit_of_valid (by first | assumption | exact extend_valid hv hk | exact compl_valid' (extend_valid hv hk) | exact compl_valid' hv | exact compl_valid' (compl_valid' hv)) | assumption)) ?_
        rintro _ w267 ⟨rfl, e268⟩
        have hs273 := Below.size E
        have hs274 := Below.size e268
        replace E := E.trans e268
        replace hn9 := hn9.ext e268
        replace ha10 := ha10.ext e268
        replace hB17 := hB17.ext e268
        replace hn179 := hn179.ext e268
        replace ha180 := ha180.ext e268
        replace hB186 := hB186.ext e268
        replace hn200 := hn200.ext e268
        replace ha201 := ha201.ext e268
        replace hB207 := hB207.ext e268
        replace hn225 := hn225.ext e268
        replace ha226 := ha226.ext e268
        replace hB237 := hB237.ext e268
        refine Sq.beT (by exact eqA_refl _) ?_
        refine Sq.move .plain rfl rfl ?_
        refine Sq.move (.met rfl rfl rfl) rfl rfl ?_
        refine Sq.move (.met rfl rfl rfl) rfl rfl ?_
        refine Sq.eqlB und4 (.met rfl rfl rfl) rfl rfl rfl ?_
        refine Sq.pickT .plain rfl rfl rfl ?_
        refine Sq.move .plain rfl rfl ?_
        refine Sq.move (.met rfl rfl rfl) rfl rfl ?_
        refine Sq.loadAgg agg26 (.met rfl rfl rfl) rfl rfl hB17 rfl ?_
        have hd278 := hB17.lt
        have hd279 := hB186.lt
        have hd280 := hB207.lt
        have hd281 := hB237.lt
        refine Sq.call fn19 (.met rfl rfl rfl) rfl rfl (valid_c _ a6 _ _ hn9 ha10) ?_
        rintro _ w276 ⟨rfl, e277⟩
        have hs282 := Below.size E
        have hs283 := Below.size e277
        replace E := E.trans e277
        replace hn9 := hn9.ext e277
        replace ha10 := ha10.ext e277
        replace hB17 := hB17.ext e277
        replace hn179 := hn179.ext e277
        replace ha180 := ha180.ext e277
        replace hB186 := hB186.ext e277
        replace hn200 := hn200.ext e277
        replace ha201 := ha201.ext e277
        replace hB207 := hB207.ext e277
        replace hn225 := hn225.ext e277
        replace ha226 := ha226.ext e277
        replace hB237 := hB237.ext e277
        refine Sq.beF (hC) ?_
        refine Sq.eqlB und4 (.met rfl rfl rfl) rfl rfl rfl ?_
        refine Sq.pickT .plain rfl rfl rfl ?_
        refine Sq.assign .plain rfl rfl ?_
        refine Sq.nil ?_
        refine Eq.next ?_
        refine Cq.ret ?_
        refine Eq.pastRet ?_
        refine Eq.ret1 rfl rfl ?_
        exact ⟨rfl, E⟩

set_option maxRecDepth 100000 in
theorem lSafetyPart (w0 : World) (e : TypeId) (a0 : Option Addr) (c0 : Nat) (cs : List UInt8) (hc : Bytes w0 e (.slice a0 cs.length c0) cs) (hcap : cs.length ≤ c0) : Ret Try.prog 12 #[Value.slice a0 cs.length c0] w0 (fun v w => v = .bool true ∧ Ext w0 w) := by
  have E := Ext.refl w0
  refine Ret.of (args := [Value.slice a0 cs.length c0]) Try.func12 rfl rfl rfl ?_
  rintro _ rfl
  show Cq _ _ _ _ [(0, Value.slice a0 cs.length c0)] _
  refine Cq.seq ?_
  refine Cq.region ?_
  refine Sq.assign .plain rfl rfl ?_
  refine Sq.nil ?_
  refine Eq.next ?_
  refine Cq.seq ?_
  refine Cq.seq ?_
  refine Cq.region ?_
  refine Sq.move .plain rfl rfl ?_
  refine Sq.lenBytes (hc.ext E) .plain rfl und22 rfl ?_
  refine Sq.gtr .plain rfl rfl rfl ?_
  refine Sq.part (fun c1 => ?_) (fun c1 => ?_)
  · refine Sq.nil ?_
    refine Eq.next ?_
    refine Cq.thn rfl ?_
    refine Cq.seq ?_
    refine Cq.region ?_
    refine Sq.assign .plain rfl rfl ?_
    refine Sq.nil ?_
    refine Eq.next ?_
    refine Cq.ret ?_
    refine Eq.pastRet ?_
    refine Eq.ret1 rfl rfl ?_
    exact ⟨rfl, E⟩
  · refine Sq.nil ?_
    refine Eq.next ?_
    refine Cq.els rfl ?_
    refine Cq.skip ?_
    refine Eq.next ?_
    refine Cq.seq ?_
    refine Cq.region ?_
    refine Sq.move .plain rfl rfl ?_
    refine Sq.call fn30 .plain rfl rfl (drawAfter_c _ _ _ _ _ (hc.ext E) hcap) ?_
    rintro _ w3 ⟨⟨u5, s6, a7, rfl, ⟨nx8, ac9, rfl, hn10, ha11⟩, hsm12, hsz13⟩, e4⟩
    have hs14 := Below.size E
    have hs15 := Below.size e4
    replace E := E.trans e4
    refine Sq.move .plain rfl rfl ?_
    refine Sq.extract .plain rfl rfl rfl ?_
    refine Sq.extract .plain rfl rfl rfl ?_
    refine Sq.alloc zero26 .plain rfl (fun b16 w17 e18 hB19 hlo20 => ?_)
    have hd21 := Nat.le_trans (Below.size E) hlo20
    have hs22 := Below.size e18
    replace E := E.trans e18
    replace hn10 := hn10.ext e18
    replace ha11 := ha11.ext e18
    refine Sq.storeAgg agg26 .plain rfl rfl (one_cons rfl (one_cons (Rows.one hn10) (one_cons (Row.one ha11) one_nil))) hB19 rfl rfl (fun w23 g24 hB25 => ?_)
    have hs26 := World.grownBy.size g24
    replace E := E.grown g24 (fun k hk => by injection hk with hk; subst hk; omega)
    replace hn10 := hn10.stored g24 hB19 (by decide) (by decide)
    replace ha11 := ha11.stored g24 hB19 (by decide)
    replace hB19 := hB25
    refine Sq.assign .plain rfl rfl ?_
    refine Sq.nil ?_
    refine Eq.next ?_
    refine Cq.seq ?_
    refine Cq.region ?_
    refine Sq.loadAgg agg26 .plain rfl rfl hB19 rfl ?_
    rcases Bool.eq_false_or_eq_true (validA a7) with hC | hC
    · have hv := hC
      refine Sq.call fn16 .plain rfl rfl (safety_c_T _ a7 _ _ hn10 ha11 hC) ?_
      rintro _ w28 ⟨⟨_, rfl, nx30, ac31, rfl, hn32, ha33⟩, e29⟩
      have hs34 := Below.size E
      have hs35 := Below.size e29
      replace E := E.trans e29
      replace hn10 := hn10.ext e29
      replace ha11 := ha11.ext e29
      replace hB19 := hB19.ext e29
      refine Sq.move .plain rfl rfl ?_
      refine Sq.extract .plain rfl rfl rfl ?_
      refine Sq.extract .plain rfl rfl rfl ?_
      refine Sq.alloc zero26 .plain rfl (fun b36 w37 e38 hB39 hlo40 => ?_)
      have hd41 := Nat.le_trans (Below.size E) hlo40
      have hd42 := Nat.lt_of_lt_of_le hB19.lt hlo40
      have hs43 := Below.size e38
      replace E := E.trans e38
      replace hn10 := hn10.ext e38
      replace ha11 := ha11.ext e38
      replace hB19 := hB19.ext e38
      replace hn32 := hn32.ext e38
      replace ha33 := ha33.ext e38
      refine Sq.storeAgg agg26 .plain rfl rfl (one_cons rfl (one_cons (Rows.one (OwnRows.rows hn32)) (one_cons (Row.one (Own.row ha33)) one_nil))) hB39 rfl rfl (fun w44 g45 hB46 => ?_)
      have hs47 := World.grownBy.size g45
      replace E := E.grown g45 (fun k hk => by injection hk with hk; subst hk; omega)
      replace hn10 := hn10.stored g45 hB39 (by decide) (by decide)
      replace ha11 := ha11.stored g45 hB39 (by decide)
      replace hB19 := hB19.grown g45 (by intro h; injection h with h; omega)
      replace hn32 := hn32.stored g45 hB39 (by decide) (by decide)
      replace ha33 := ha33.stored g45 hB39 (by decide)
      replace hB39 := hB46
      refine Sq.assign .plain rfl rfl ?_
      refine Sq.nil ?_
      refine Eq.next ?_
      refine Cq.seq ?_
      refine Cq.region ?_
      refine Sq.loadAgg agg26 .plain rfl rfl hB19 rfl ?_
      refine Sq.call fn17 .plain rfl rfl (sSafety_c_T _ a7 _ _ hn10 ha11 hC) ?_
      rintro _ w49 ⟨⟨_, rfl, nx51, ac52, rfl, hn53, ha54⟩, e50⟩
      have hs55 := Below.size E
      have hs56 := Below.size e50
      replace E := E.trans e50
      replace hn10 := hn10.ext e50
      replace ha11 := ha11.ext e50
      replace hB19 := hB19.ext e50
      replace hn32 := hn32.ext e50
      replace ha33 := ha33.ext e50
      replace hB39 := hB39.ext e50
      refine Sq.move .plain rfl rfl ?_
      refine Sq.extract .plain rfl rfl rfl ?_
      refine Sq.extract .plain rfl rfl rfl ?_
      refine Sq.alloc zero26 .plain rfl (fun b57 w58 e59 hB60 hlo61 => ?_)
      have hd62 := Nat.le_trans (Below.size E) hlo61
      have hd63 := Nat.lt_of_lt_of_le hB19.lt hlo61
      have hd64 := Nat.lt_of_lt_of_le hB39.lt hlo61
      have hs65 := Below.size e59
      replace E := E.trans e59
      replace hn10 := hn10.ext e59
      replace ha11 := ha11.ext e59
      replace hB19 := hB19.ext e59
      replace hn32 := hn32.ext e59
      replace ha33 := ha33.ext e59
      replace hB39 := hB39.ext e59
      replace hn53 := hn53.ext e59
      replace ha54 := ha54.ext e59
      refine Sq.storeAgg agg26 .plain rfl rfl (one_cons rfl (one_cons (Rows.one (OwnRows.rows hn53)) (one_cons (Row.one (Own.row ha54)) one_nil))) hB60 rfl rfl (fun w66 g67 hB68 => ?_)
      have hs69 := World.grownBy.size g67
      replace E := E.grown g67 (fun k hk => by injection hk with hk; subst hk; omega)
      replace hn10 := hn10.stored g67 hB60 (by decide) (by decide)
      replace ha11 := ha11.stored g67 hB60 (by decide)
      replace hB19 := hB19.grown g67 (by intro h; injection h with h; omega)
      replace hn32 := hn32.stored g67 hB60 (by decide) (by decide)
      replace ha33 := ha33.stored g67 hB60 (by decide)
      replace hB39 := hB39.grown g67 (by intro h; injection h with h; omega)
      replace hn53 := hn53.stored g67 hB60 (by decide) (by decide)
      replace ha54 := ha54.stored g67 hB60 (by decide)
      replace hB60 := hB68
      refine Sq.assign .plain rfl rfl ?_
      refine Sq.nil ?_
      refine Eq.next ?_
      refine Cq.seq ?_
      refine Cq.seq ?_
      refine Cq.region ?_
      refine Sq.loadAgg agg26 .plain rfl rfl hB39 rfl ?_
      refine Sq.loadAgg agg26 .plain rfl rfl hB60 rfl ?_
      have hd73 := hB19.lt
      have hd74 := hB39.lt
      have hd75 := hB60.lt
      refine Sq.call fn18 .plain rfl rfl (agAutomata_c _ (safe a7) (safe a7) _ _ _ _ (OwnRows.rows hn32) (Own.row ha33) (OwnRows.rows hn53) (Own.row ha54) (by first | exact fit_zero | exact fit_of_valid (by first | assumption | exact extend_valid hv hk | exact compl_valid' (extend_valid hv hk) | exact safe_valid hv) | assumption)) ?_
      rintro _ w71 ⟨rfl, e72⟩
      have hs76 := Below.size E
      have hs77 := Below.size e72
      replace E := E.trans e72
      replace hn10 := hn10.ext e72
      replace ha11 := ha11.ext e72
      replace hB19 := hB19.ext e72
      replace hn32 := hn32.ext e72
      replace ha33 := ha33.ext e72
      replace hB39 := hB39.ext e72
      replace hn53 := hn53.ext e72
      replace ha54 := ha54.ext e72
      replace hB60 := hB60.ext e72
      refine Sq.beT (by exact eqA_refl _) ?_
      refine Sq.notT .plain rfl rfl ?_
      refine Sq.move .plain rfl rfl ?_
      refine Sq.move (.met rfl rfl rfl) rfl rfl ?_
      refine Sq.move (.met rfl rfl rfl) rfl rfl ?_
      refine Sq.neqB und4 (.met rfl rfl rfl) rfl rfl rfl ?_
      refine Sq.pickF .plain rfl rfl rfl ?_
      refine Sq.move .plain rfl rfl ?_
      refine Sq.move (.met rfl rfl rfl) rfl rfl ?_
      refine Sq.notT (.met rfl rfl rfl) rfl rfl ?_
      refine Sq.pickF .plain rfl rfl rfl ?_
      refine Sq.move .plain rfl rfl ?_
      refine Sq.move (.met rfl rfl rfl) rfl rfl ?_
      refine Sq.fieldAddr fld26_0 (.met rfl rfl rfl) rfl rfl ?_
      refine Sq.loadB one3 (.met rfl rfl rfl) rfl rfl hB19 rfl ?_
      refine Sq.call fn37 (.met rfl rfl rfl) rfl rfl (within_c s6 a7.al _) ?_
      rintro _ _ ⟨rfl, rfl⟩
      refine Sq.partB (fun hw => ?_) (fun hw => ?_)
      · refine Sq.notT (.met rfl rfl rfl) rfl rfl ?_
        refine Sq.pickF .plain rfl rfl rfl ?_
        refine Sq.move .plain rfl rfl ?_
        refine Sq.move (.met rfl rfl rfl) rfl rfl ?_
        refine Sq.lenStr (.met rfl rfl rfl) rfl und9 rfl ?_
        refine Sq.gtr (.met rfl rfl rfl) rfl rfl rfl ?_
        refine Sq.part (fun c78 => ?_) (fun c78 => ?_)
        · refine Sq.pickF .plain rfl rfl rfl ?_
          refine Sq.nil ?_
          refine Eq.next ?_
          refine Cq.thn rfl ?_
          refine Cq.seq ?_
          refine Cq.region ?_
          refine Sq.loadAgg agg26 .plain rfl rfl hB39 rfl ?_
          refine Sq.loadAgg agg26 .plain rfl rfl hB60 rfl ?_
          have hd82 := hB19.lt
          have hd83 := hB39.lt
          have hd84 := hB60.lt
          refine Sq.call fn18 .plain rfl rfl (agAutomata_c _ (safe a7) (safe a7) _ _ _ _ (OwnRows.rows hn32) (Own.row ha33) (OwnRows.rows hn53) (Own.row ha54) (by first | exact fit_zero | exact fit_of_valid (by first | assumption | exact extend_valid hv hk | exact compl_valid' (extend_valid hv hk) | exact safe_valid hv) | assumption)) ?_
          rintro _ w80 ⟨rfl, e81⟩
          have hs85 := Below.size E
          have hs86 := Below.size e81
          replace E := E.trans e81
          replace hn10 := hn10.ext e81
          replace ha11 := ha11.ext e81
          replace hB19 := hB19.ext e81
          replace hn32 := hn32.ext e81
          replace ha33 := ha33.ext e81
          replace hB39 := hB39.ext e81
          replace hn53 := hn53.ext e81
          replace ha54 := ha54.ext e81
          replace hB60 := hB60.ext e81
          refine Sq.beT (by exact eqA_refl _) ?_
          refine Sq.move .plain rfl rfl ?_
          refine Sq.move (.met rfl rfl rfl) rfl rfl ?_
          refine Sq.move (.met rfl rfl rfl) rfl rfl ?_
          refine Sq.eqlB und4 (.met rfl rfl rfl) rfl rfl rfl ?_
          refine Sq.pickT .plain rfl rfl rfl ?_
          refine Sq.assign .plain rfl rfl ?_
          refine Sq.nil ?_
          refine Eq.next ?_
          refine Cq.ret ?_
          refine Eq.pastRet ?_
          refine Eq.ret1 rfl rfl ?_
          exact ⟨rfl, E⟩
        · refine Sq.pickF .plain rfl rfl rfl ?_
          refine Sq.nil ?_
          refine Eq.next ?_
          refine Cq.els rfl ?_
          refine Cq.skip ?_
          refine Eq.next ?_
          refine Cq.seq ?_
          refine Cq.region ?_
          refine Sq.assign .plain rfl rfl ?_
          refine Sq.nil ?_
          refine Eq.next ?_
          refine Cq.seq ?_
          refine Cq.seq ?_
          refine Cq.region ?_
          refine Sq.assign .plain rfl rfl ?_
          refine Sq.nil ?_
          refine Eq.next ?_
          refine Cq.block ?_
          refine Cq.loop (fun nn w ls => ∃ (i : Int), ∃ (b : Bool), ls = [(3, Value.pointer (some ⟨b16, 0, none⟩)), (4, Value.string s6), (5, Value.pointer (some ⟨b36, 0, none⟩)), (9, Value.bool b), (10, Value.int .i64 i)] ∧ (0 ≤ i ∧ i ≤ (s6.size : Int) + 1) ∧ b = accTo a7 s6 i.toNat ∧ Ext w0 w ∧ Blk w b16 26 [Value.int .i64 a7.al, nx8, ac9] ∧ Rows w 47 3 nx8 a7.next ∧ Bools w 4 ac9 a7.acc ∧ Blk w b36 26 [Value.int .i64 ((safe a7).al), nx30, ac31] ∧ OwnRows w w23.heap.size w28.heap.size 47 3 nx30 (safe a7).next ∧ Own w w23.heap.size 4 ac31 ((safe a7).acc.map Value.bool) ∧ nn = ((s6.size : Int) + 1 - i).toNat) _ _ ⟨0, true, rfl, by omega, rfl, E, hB19, hn10, ha11, hB39, hn32, ha33, rfl⟩ (.cons rfl (.cons rfl (.cons rfl (.cons rfl (.cons rfl (.nil)))))) ?_
          rintro nn wl1 ls ⟨i, b, rfl, hi, hb, E, hB19, hn10, ha11, hB39, hn32, ha33, rfl⟩
          have hs87 := Below.size E
          refine Cq.seq ?_
          refine Cq.seq ?_
          refine Cq.region ?_
          refine Sq.move .plain rfl rfl ?_
          refine Sq.move .plain rfl rfl ?_
          refine Sq.lenStr .plain rfl und9 rfl ?_
          refine Sq.leq .plain rfl rfl rfl ?_
          refine Sq.part (fun c88 => ?_) (fun c88 => ?_)
          · refine Sq.nil ?_
            refine Eq.next ?_
            refine Cq.thn rfl ?_
            refine Cq.skip ?_
            refine Eq.next ?_
            refine Cq.seq ?_
            refine Cq.block ?_
            refine Cq.drawS 8 (fun w' => Blk w' b16 26 [Value.int .i64 a7.al, nx8, ac9]) mixed (hB19) (fun w89 e90 hS => ?_)
            clear hS
            have hs91 := Below.size e90
            replace E := E.trans e90
            replace hB19 := hB19.ext e90
            replace hn10 := hn10.ext e90
            replace ha11 := ha11.ext e90
            replace hB39 := hB39.ext e90
            replace hn32 := hn32.ext e90
            replace ha33 := ha33.ext e90
            have E_w89 := E
            have hB19_w89 := hB19
            have hn10_w89 := hn10
            have ha11_w89 := ha11
            have hB39_w89 := hB39
            have hn32_w89 := hn32
            have ha33_w89 := ha33
            refine Gq.st 0 rfl (by kernel_rfl) rfl .plain rfl (fun _ _ _ h => h) hB19 (fun w' x => Still.move rfl) ?_
            refine Gq.partB (fun hq => ?_) (fun hq => ?_)
            · refine Gq.st 1 rfl (by kernel_rfl) rfl .plain rfl (fun _ _ _ h => h) hB19 (fun w' x => Still.move rfl) ?_
              refine Gq.st 2 rfl (by kernel_rfl) rfl (.met rfl rfl rfl) rfl (fun _ _ _ h => h) hB19 (fun w' x => Still.loadAgg agg26 rfl x rfl) ?_
              refine Gq.st 3 rfl (by kernel_rfl) rfl (.met rfl rfl rfl) rfl (fun _ _ _ h => h) hB19 (fun w' x => Still.move rfl) ?_
              refine Gq.st 4 rfl (by kernel_rfl) rfl (.met rfl rfl rfl) rfl (fun _ _ _ h => h) hB19 (fun w' x => Still.move rfl) ?_
              refine Gq.st 5 rfl (by kernel_rfl) rfl (.met rfl rfl rfl) rfl (fun _ _ _ h => h) hB19 (fun w' x => Still.cutH und9 rfl rfl (by omega)) ?_
              refine Gq.one 6 rfl (by kernel_rfl) ?_
              have hd95 := hB19.lt
              have hd96 := hB39.lt
              refine Sq.call fn28 (.met rfl rfl rfl) rfl rfl (accepts_c _ a7 _ _ hn10 ha11 (s6.extract 0 i.toNat) (by first | omega | (simp only [size_cat, chr_size]; omega) | exact Nat.le_trans (size_cut _) (by omega) | decide)) ?_
              rintro _ w93 ⟨rfl, e94⟩
              have hs97 := Below.size E
              have hs98 := Below.size e94
              replace E := E.trans e94
              replace hB19 := hB19.ext e94
              replace hn10 := hn10.ext e94
              replace ha11 := ha11.ext e94
              replace hB39 := hB39.ext e94
              replace hn32 := hn32.ext e94
              replace ha33 := ha33.ext e94
              refine Sq.nil ?_
              refine Eq.goes (fun _ => hB19) ?_
              refine Gq.st 7 rfl (by kernel_rfl) rfl .plain rfl (fun _ _ _ h => h) hB19 (fun w' x => Still.pickT rfl rfl) ?_
              refine Gq.one 8 rfl (by kernel_rfl) ?_
              refine Sq.assign .plain rfl rfl ?_
              refine Sq.partB (fun hq2 => ?_) (fun hq2 => ?_)
              · refine Sq.nil ?_
                refine Eq.goes (fun h => absurd h (by decide)) ?_
                refine Gq.done (by kernel_rfl) ?_
                refine Eq.end ?_
                refine Eq.next ?_
                refine Cq.region ?_
                refine Sq.move .plain rfl rfl ?_
                refine Sq.add .plain rfl rfl rfl (by omega) ?_
                refine Sq.assign .plain rfl rfl ?_
                refine Sq.nil ?_
                have e1 := toNat_succ hi.1
                refine Eq.round _ _ ⟨i + 1, _, rfl, by omega, by rw [e1, accTo_succ, ← hb, hq, hq2]; rfl, E, hB19, hn10, ha11, hB39, hn32, ha33, rfl⟩ (by omega) (.cons rfl (.cons rfl (.cons rfl (.cons rfl (.cons rfl (.nil))))))
              · refine Sq.nil ?_
                refine Eq.goes (fun h => absurd h (by decide)) ?_
                refine Gq.done (by kernel_rfl) ?_
                refine Eq.end ?_
                refine Eq.next ?_
                refine Cq.region ?_
                refine Sq.move .plain rfl rfl ?_
                refine Sq.add .plain rfl rfl rfl (by omega) ?_
                refine Sq.assign .plain rfl rfl ?_
                refine Sq.nil ?_
                have e1 := toNat_succ hi.1
                refine Eq.round _ _ ⟨i + 1, _, rfl, by omega, by rw [e1, accTo_succ, ← hb, hq, hq2]; rfl, E, hB19, hn10, ha11, hB39, hn32, ha33, rfl⟩ (by omega) (.cons rfl (.cons rfl (.cons rfl (.cons rfl (.cons rfl (.nil))))))
            · refine Gq.st 1 rfl (by kernel_rfl) rfl .plain rfl (fun _ _ _ h => h) hB19 (fun w' x => Still.move rfl) ?_
              refine Gq.off 2 rfl (by kernel_rfl) rfl rfl rfl rfl rfl rfl (fun _ _ _ h => h) hB19 ?_
              refine Gq.off 3 rfl (by kernel_rfl) rfl rfl rfl rfl rfl rfl (fun _ _ _ h => h) hB19 ?_
              refine Gq.off 4 rfl (by kernel_rfl) rfl rfl rfl rfl rfl rfl (fun _ _ _ h => h) hB19 ?_
              refine Gq.off 5 rfl (by kernel_rfl) rfl rfl rfl rfl rfl rfl (fun _ _ _ h => h) hB19 ?_
              refine Gq.off 6 rfl (by kernel_rfl) rfl rfl rfl rfl rfl rfl (fun _ _ _ h => h) hB19 ?_
              refine Gq.st 7 rfl (by kernel_rfl) rfl .plain rfl (fun _ _ _ h => h) hB19 (fun w' x => Still.pickF rfl rfl) ?_
              refine Gq.one 8 rfl (by kernel_rfl) ?_
              refine Sq.assign .plain rfl rfl ?_
              refine Sq.nil ?_
              refine Eq.goes (fun h => absurd h (by decide)) ?_
              refine Gq.done (by kernel_rfl) ?_
              refine Eq.end ?_
              refine Eq.next ?_
              refine Cq.region ?_
              refine Sq.move .plain rfl rfl ?_
              refine Sq.add .plain rfl rfl rfl (by omega) ?_
              refine Sq.assign .plain rfl rfl ?_
              refine Sq.nil ?_
              have e1 := toNat_succ hi.1
              refine Eq.round _ _ ⟨i + 1, _, rfl, by omega, by rw [e1, accTo_succ, ← hb, hq]; rfl, E, hB19, hn10, ha11, hB39, hn32, ha33, rfl⟩ (by omega) (.cons rfl (.cons rfl (.cons rfl (.cons rfl (.cons rfl (.nil))))))
          · refine Sq.nil ?_
            refine Eq.next ?_
            refine Cq.els rfl ?_
            refine Cq.exit ?_
            refine Eq.past ?_
            refine Eq.past ?_
            refine Eq.hit ?_
            refine Eq.next ?_
            refine Cq.seq ?_
            refine Cq.region ?_
            refine Sq.loadAgg agg26 .plain rfl rfl hB39 rfl ?_
            refine Sq.move .plain rfl rfl ?_
            have hd102 := hB19.lt
            have hd103 := hB39.lt
            refine Sq.call fn28 .plain rfl rfl (accepts_c _ (safe a7) _ _ (OwnRows.rows hn32) (Own.row ha33) s6 (by first | omega | (simp only [size_cat, chr_size]; omega) | exact Nat.le_trans (size_cut _) (by omega) | decide)) ?_
            rintro _ w100 ⟨rfl, e101⟩
            have hs104 := Below.size E
            have hs105 := Below.size e101
            replace E := E.trans e101
            replace hB19 := hB19.ext e101
            replace hn10 := hn10.ext e101
            replace ha11 := ha11.ext e101
            replace hB39 := hB39.ext e101
            replace hn32 := hn32.ext e101
            replace ha33 := ha33.ext e101
            refine Sq.move .plain rfl rfl ?_
            refine Sq.eqlB und4 .plain rfl rfl rfl ?_
            refine Sq.beT (by rw [accepts_safe hv hw, hb, show i.toNat = s6.size + 1 by omega]; exact beq_self_eq_true _) ?_
            refine Sq.assign .plain rfl rfl ?_
            refine Sq.nil ?_
            refine Eq.next ?_
            refine Cq.ret ?_
            refine Eq.ret1 rfl rfl ?_
            exact ⟨rfl, E⟩
      · refine Sq.notF (.met rfl rfl rfl) rfl rfl ?_
        refine Sq.pickF .plain rfl rfl rfl ?_
        refine Sq.move .plain rfl rfl ?_
        refine Sq.off rfl rfl rfl rfl rfl rfl ?_
        refine Sq.off rfl rfl rfl rfl rfl rfl ?_
        refine Sq.off rfl rfl rfl rfl rfl rfl ?_
        refine Sq.pickT .plain rfl rfl rfl ?_
        refine Sq.nil ?_
        refine Eq.next ?_
        refine Cq.thn rfl ?_
        refine Cq.seq ?_
        refine Cq.region ?_
        refine Sq.loadAgg agg26 .plain rfl rfl hB39 rfl ?_
        refine Sq.loadAgg agg26 .plain rfl rfl hB60 rfl ?_
        have hd109 := hB19.lt
        have hd110 := hB39.lt
        have hd111 := hB60.lt
        refine Sq.call fn18 .plain rfl rfl (agAutomata_c _ (safe a7) (safe a7) _ _ _ _ (OwnRows.rows hn32) (Own.row ha33) (OwnRows.rows hn53) (Own.row ha54) (by first | exact fit_zero | exact fit_of_valid (by first | assumption | exact extend_valid hv hk | exact compl_valid' (extend_valid hv hk) | exact safe_valid hv) | assumption)) ?_
        rintro _ w107 ⟨rfl, e108⟩
        have hs112 := Below.size E
        have hs113 := Below.size e108
        replace E := E.trans e108
        replace hn10 := hn10.ext e108
        replace ha11 := ha11.ext e108
        replace hB19 := hB19.ext e108
        replace hn32 := hn32.ext e108
        replace ha33 := ha33.ext e108
        replace hB39 := hB39.ext e108
        replace hn53 := hn53.ext e108
        replace ha54 := ha54.ext e108
        replace hB60 := hB60.ext e108
        refine Sq.beT (by exact eqA_refl _) ?_
        refine Sq.move .plain rfl rfl ?_
        refine Sq.move (.met rfl rfl rfl) rfl rfl ?_
        refine Sq.move (.met rfl rfl rfl) rfl rfl ?_
        refine Sq.eqlB und4 (.met rfl rfl rfl) rfl rfl rfl ?_
        refine Sq.pickT .plain rfl rfl rfl ?_
        refine Sq.assign .plain rfl rfl ?_
        refine Sq.nil ?_
        refine Eq.next ?_
        refine Cq.ret ?_
        refine Eq.pastRet ?_
        refine Eq.ret1 rfl rfl ?_
        exact ⟨rfl, E⟩
    · refine Sq.call fn16 .plain rfl rfl (safety_c_F _ a7 _ _ hn10 ha11 hC) ?_
      rintro _ w115 ⟨⟨_, rfl, nx117, ac118, rfl, hn119, ha120⟩, e116⟩
      have hs121 := Below.size E
      have hs122 := Below.size e116
      replace E := E.trans e116
      replace hn10 := hn10.ext e116
      replace ha11 := ha11.ext e116
      replace hB19 := hB19.ext e116
      refine Sq.move .plain rfl rfl ?_
      refine Sq.extract .plain rfl rfl rfl ?_
      refine Sq.extract .plain rfl rfl rfl ?_
      refine Sq.alloc zero26 .plain rfl (fun b123 w124 e125 hB126 hlo127 => ?_)
      have hd128 := Nat.le_trans (Below.size E) hlo127
      have hd129 := Nat.lt_of_lt_of_le hB19.lt hlo127
      have hs130 := Below.size e125
      replace E := E.trans e125
      replace hn10 := hn10.ext e125
      replace ha11 := ha11.ext e125
      replace hB19 := hB19.ext e125
      replace hn119 := hn119.ext e125
      replace ha120 := ha120.ext e125
      refine Sq.storeAgg agg26 .plain rfl rfl (one_cons rfl (one_cons (Rows.one (OwnRows.rows hn119)) (one_cons (Row.one (Own.row ha120)) one_nil))) hB126 rfl rfl (fun w131 g132 hB133 => ?_)
      have hs134 := World.grownBy.size g132
      replace E := E.grown g132 (fun k hk => by injection hk with hk; subst hk; omega)
      replace hn10 := hn10.stored g132 hB126 (by decide) (by decide)
      replace ha11 := ha11.stored g132 hB126 (by decide)
      replace hB19 := hB19.grown g132 (by intro h; injection h with h; omega)
      replace hn119 := hn119.stored g132 hB126 (by decide) (by decide)
      replace ha120 := ha120.stored g132 hB126 (by decide)
      replace hB126 := hB133
      refine Sq.assign .plain rfl rfl ?_
      refine Sq.nil ?_
      refine Eq.next ?_
      refine Cq.seq ?_
      refine Cq.region ?_
      refine Sq.loadAgg agg26 .plain rfl rfl hB19 rfl ?_
      refine Sq.call fn17 .plain rfl rfl (sSafety_c_F _ a7 _ _ hn10 ha11 hC) ?_
      rintro _ w136 ⟨⟨_, rfl, nx138, ac139, rfl, hn140, ha141⟩, e137⟩
      have hs142 := Below.size E
      have hs143 := Below.size e137
      replace E := E.trans e137
      replace hn10 := hn10.ext e137
      replace ha11 := ha11.ext e137
      replace hB19 := hB19.ext e137
      replace hn119 := hn119.ext e137
      replace ha120 := ha120.ext e137
      replace hB126 := hB126.ext e137
      refine Sq.move .plain rfl rfl ?_
      refine Sq.extract .plain rfl rfl rfl ?_
      refine Sq.extract .plain rfl rfl rfl ?_
      refine Sq.alloc zero26 .plain rfl (fun b144 w145 e146 hB147 hlo148 => ?_)
      have hd149 := Nat.le_trans (Below.size E) hlo148
      have hd150 := Nat.lt_of_lt_of_le hB19.lt hlo148
      have hd151 := Nat.lt_of_lt_of_le hB126.lt hlo148
      have hs152 := Below.size e146
      replace E := E.trans e146
      replace hn10 := hn10.ext e146
      replace ha11 := ha11.ext e146
      replace hB19 := hB19.ext e146
      replace hn119 := hn119.ext e146
      replace ha120 := ha120.ext e146
      replace hB126 := hB126.ext e146
      replace hn140 := hn140.ext e146
      replace ha141 := ha141.ext e146
      refine Sq.storeAgg agg26 .plain rfl rfl (one_cons rfl (one_cons (Rows.one (OwnRows.rows hn140)) (one_cons (Row.one (Own.row ha141)) one_nil))) hB147 rfl rfl (fun w153 g154 hB155 => ?_)
      have hs156 := World.grownBy.size g154
      replace E := E.grown g154 (fun k hk => by injection hk with hk; subst hk; omega)
      replace hn10 := hn10.stored g154 hB147 (by decide) (by decide)
      replace ha11 := ha11.stored g154 hB147 (by decide)
      replace hB19 := hB19.grown g154 (by intro h; injection h with h; omega)
      replace hn119 := hn119.stored g154 hB147 (by decide) (by decide)
      replace ha120 := ha120.stored g154 hB147 (by decide)
      replace hB126 := hB126.grown g154 (by intro h; injection h with h; omega)
      replace hn140 := hn140.stored g154 hB147 (by decide) (by decide)
      replace ha141 := ha141.stored g154 hB147 (by decide)
      replace hB147 := hB155
      refine Sq.assign .plain rfl rfl ?_
      refine Sq.nil ?_
      refine Eq.next ?_
      refine Cq.seq ?_
      refine Cq.seq ?_
      refine Cq.region ?_
      refine Sq.loadAgg agg26 .plain rfl rfl hB126 rfl ?_
      refine Sq.loadAgg agg26 .plain rfl rfl hB147 rfl ?_
      have hd160 := hB19.lt
      have hd161 := hB126.lt
      have hd162 := hB147.lt
      refine Sq.call fn18 .plain rfl rfl (agAutomata_c _ zeroA zeroA _ _ _ _ (OwnRows.rows hn119) (Own.row ha120) (OwnRows.rows hn140) (Own.row ha141) (by first | exact fit_zero | exact fit_of_valid (by first | assumption | exact extend_valid hv hk | exact compl_valid' (extend_valid hv hk) | exact safe_valid hv) | assumption)) ?_
      rintro _ w158 ⟨rfl, e159⟩
      have hs163 := Below.size E
      have hs164 := Below.size e159
      replace E := E.trans e159
      replace hn10 := hn10.ext e159
      replace ha11 := ha11.ext e159
      replace hB19 := hB19.ext e159
      replace hn119 := hn119.ext e159
      replace ha120 := ha120.ext e159
      replace hB126 := hB126.ext e159
      replace hn140 := hn140.ext e159
      replace ha141 := ha141.ext e159
      replace hB147 := hB147.ext e159
      refine Sq.beT (by exact eqA_refl _) ?_
      refine Sq.notT .plain rfl rfl ?_
      refine Sq.move .plain rfl rfl ?_
      refine Sq.move (.met rfl rfl rfl) rfl rfl ?_
      refine Sq.move (.met rfl rfl rfl) rfl rfl ?_
      refine Sq.neqB und4 (.met rfl rfl rfl) rfl rfl rfl ?_
      refine Sq.pickF .plain rfl rfl rfl ?_
      refine Sq.move .plain rfl rfl ?_
      refine Sq.move (.met rfl rfl rfl) rfl rfl ?_
      refine Sq.notF (.met rfl rfl rfl) rfl rfl ?_
      refine Sq.pickF .plain rfl rfl rfl ?_
      refine Sq.move .plain rfl rfl ?_
      refine Sq.off rfl rfl rfl rfl rfl rfl ?_
      refine Sq.off rfl rfl rfl rfl rfl rfl ?_
      refine Sq.off rfl rfl rfl rfl rfl rfl ?_
      refine Sq.off rfl rfl rfl rfl rfl rfl ?_
      refine Sq.off rfl rfl rfl rfl rfl rfl ?_
      refine Sq.pickT .plain rfl rfl rfl ?_
      refine Sq.move .plain rfl rfl ?_
      refine Sq.off rfl rfl rfl rfl rfl rfl ?_
      refine Sq.off rfl rfl rfl rfl rfl rfl ?_
      refine Sq.off rfl rfl rfl rfl rfl rfl ?_
      refine Sq.pickT .plain rfl rfl rfl ?_
      refine Sq.nil ?_
      refine Eq.next ?_
      refine Cq.thn rfl ?_
      refine Cq.seq ?_
      refine Cq.region ?_
      refine Sq.loadAgg agg26 .plain rfl rfl hB126 rfl ?_
      refine Sq.loadAgg agg26 .plain rfl rfl hB147 rfl ?_
      have hd168 := hB19.lt
      have hd169 := hB126.lt
      have hd170 := hB147.lt
      refine Sq.call fn18 .plain rfl rfl (agAutomata_c _ zeroA zeroA _ _ _ _ (OwnRows.rows hn119) (Own.row ha120) (OwnRows.rows hn140) (Own.row ha141) (by first | exact fit_zero | exact fit_of_valid (by first | assumption | exact extend_valid hv hk | exact compl_valid' (extend_valid hv hk) | exact safe_valid hv) | assumption)) ?_
      rintro _ w166 ⟨rfl, e167⟩
      have hs171 := Below.size E
      have hs172 := Below.size e167
      replace E := E.trans e167
      replace hn10 := hn10.ext e167
      replace ha11 := ha11.ext e167
      replace hB19 := hB19.ext e167
      replace hn119 := hn119.ext e167
      replace ha120 := ha120.ext e167
      replace hB126 := hB126.ext e167
      replace hn140 := hn140.ext e167
      replace ha141 := ha141.ext e167
      replace hB147 := hB147.ext e167
      refine Sq.beT (by exact eqA_refl _) ?_
      refine Sq.move .plain rfl rfl ?_
      refine Sq.move (.met rfl rfl rfl) rfl rfl ?_
      refine Sq.move (.met rfl rfl rfl) rfl rfl ?_
      refine Sq.eqlB und4 (.met rfl rfl rfl) rfl rfl rfl ?_
      refine Sq.pickT .plain rfl rfl rfl ?_
      refine Sq.assign .plain rfl rfl ?_
      refine Sq.nil ?_
      refine Eq.next ?_
      refine Cq.ret ?_
      refine Eq.pastRet ?_
      refine Eq.ret1 rfl rfl ?_
      exact ⟨rfl, E⟩

set_option maxRecDepth 100000 in
theorem lSafetyMeet (w0 : World) (e : TypeId) (a0 : Option Addr) (c0 : Nat) (cs : List UInt8) (hc : Bytes w0 e (.slice a0 cs.length c0) cs) (hcap : cs.length ≤ c0) : Ret Try.prog 13 #[Value.slice a0 cs.length c0] w0 (fun v w => v = .bool true ∧ Ext w0 w) := by
  have E := Ext.refl w0
  refine Ret.of (args := [Value.slice a0 cs.length c0]) Try.func13 rfl rfl rfl ?_
  rintro _ rfl
  show Cq _ _ _ _ [(0, Value.slice a0 cs.length c0)] _
  refine Cq.seq ?_
  refine Cq.region ?_
  refine Sq.assign .plain rfl rfl ?_
  refine Sq.nil ?_
  refine Eq.next ?_
  refine Cq.seq ?_
  refine Cq.seq ?_
  refine Cq.region ?_
  refine Sq.move .plain rfl rfl ?_
  refine Sq.lenBytes (hc.ext E) .plain rfl und22 rfl ?_
  refine Sq.gtr .plain rfl rfl rfl ?_
  refine Sq.part (fun c1 => ?_) (fun c1 => ?_)
  · refine Sq.nil ?_
    refine Eq.next ?_
    refine Cq.thn rfl ?_
    refine Cq.seq ?_
    refine Cq.region ?_
    refine Sq.assign .plain rfl rfl ?_
    refine Sq.nil ?_
    refine Eq.next ?_
    refine Cq.ret ?_
    refine Eq.pastRet ?_
    refine Eq.ret1 rfl rfl ?_
    exact ⟨rfl, E⟩
  · refine Sq.nil ?_
    refine Eq.next ?_
    refine Cq.els rfl ?_
    refine Cq.skip ?_
    refine Eq.next ?_
    refine Cq.seq ?_
    refine Cq.region ?_
    refine Sq.move .plain rfl rfl ?_
    refine Sq.call fn30 .plain rfl rfl (drawAfter_c _ _ _ _ _ (hc.ext E) hcap) ?_
    rintro _ w3 ⟨⟨u5, s6, a7, rfl, ⟨nx8, ac9, rfl, hn10, ha11⟩, hsm12, hsz13⟩, e4⟩
    have hs14 := Below.size E
    have hs15 := Below.size e4
    replace E := E.trans e4
    refine Sq.move .plain rfl rfl ?_
    refine Sq.extract .plain rfl rfl rfl ?_
    refine Sq.extract .plain rfl rfl rfl ?_
    refine Sq.alloc zero26 .plain rfl (fun b16 w17 e18 hB19 hlo20 => ?_)
    have hd21 := Nat.le_trans (Below.size E) hlo20
    have hs22 := Below.size e18
    replace E := E.trans e18
    replace hn10 := hn10.ext e18
    replace ha11 := ha11.ext e18
    refine Sq.storeAgg agg26 .plain rfl rfl (one_cons rfl (one_cons (Rows.one hn10) (one_cons (Row.one ha11) one_nil))) hB19 rfl rfl (fun w23 g24 hB25 => ?_)
    have hs26 := World.grownBy.size g24
    replace E := E.grown g24 (fun k hk => by injection hk with hk; subst hk; omega)
    replace hn10 := hn10.stored g24 hB19 (by decide) (by decide)
    replace ha11 := ha11.stored g24 hB19 (by decide)
    replace hB19 := hB25
    refine Sq.assign .plain rfl rfl ?_
    refine Sq.nil ?_
    refine Eq.next ?_
    refine Cq.seq ?_
    refine Cq.region ?_
    refine Sq.loadAgg agg26 .plain rfl rfl hB19 rfl ?_
    rcases Bool.eq_false_or_eq_true (validA a7) with hC | hC
    · have hv := hC
      refine Sq.call fn16 .plain rfl rfl (safety_c_T _ a7 _ _ hn10 ha11 hC) ?_
      rintro _ w28 ⟨⟨_, rfl, nx30, ac31, rfl, hn32, ha33⟩, e29⟩
      have hs34 := Below.size E
      have hs35 := Below.size e29
      replace E := E.trans e29
      replace hn10 := hn10.ext e29
      replace ha11 := ha11.ext e29
      replace hB19 := hB19.ext e29
      refine Sq.move .plain rfl rfl ?_
      refine Sq.extract .plain rfl rfl rfl ?_
      refine Sq.extract .plain rfl rfl rfl ?_
      refine Sq.alloc zero26 .plain rfl (fun b36 w37 e38 hB39 hlo40 => ?_)
      have hd41 := Nat.le_trans (Below.size E) hlo40
      have hd42 := Nat.lt_of_lt_of_le hB19.lt hlo40
      have hs43 := Below.size e38
      replace E := E.trans e38
      replace hn10 := hn10.ext e38
      replace ha11 := ha11.ext e38
      replace hB19 := hB19.ext e38
      replace hn32 := hn32.ext e38
      replace ha33 := ha33.ext e38
      refine Sq.storeAgg agg26 .plain rfl rfl (one_cons rfl (one_cons (Rows.one (OwnRows.rows hn32)) (one_cons (Row.one (Own.row ha33)) one_nil))) hB39 rfl rfl (fun w44 g45 hB46 => ?_)
      have hs47 := World.grownBy.size g45
      replace E := E.grown g45 (fun k hk => by injection hk with hk; subst hk; omega)
      replace hn10 := hn10.stored g45 hB39 (by decide) (by decide)
      replace ha11 := ha11.stored g45 hB39 (by decide)
      replace hB19 := hB19.grown g45 (by intro h; injection h with h; omega)
      replace hn32 := hn32.stored g45 hB39 (by decide) (by decide)
      replace ha33 := ha33.stored g45 hB39 (by decide)
      replace hB39 := hB46
      refine Sq.assign .plain rfl rfl ?_
      refine Sq.nil ?_
      refine Eq.next ?_
      refine Cq.seq ?_
      refine Cq.region ?_
      refine Sq.loadAgg agg26 .plain rfl rfl hB19 rfl ?_
      refine Sq.call fn17 .plain rfl rfl (sSafety_c_T _ a7 _ _ hn10 ha11 hC) ?_
      rintro _ w49 ⟨⟨_, rfl, nx51, ac52, rfl, hn53, ha54⟩, e50⟩
      have hs55 := Below.size E
      have hs56 := Below.size e50
      replace E := E.trans e50
      replace hn10 := hn10.ext e50
      replace ha11 := ha11.ext e50
      replace hB19 := hB19.ext e50
      replace hn32 := hn32.ext e50
      replace ha33 := ha33.ext e50
      replace hB39 := hB39.ext e50
      refine Sq.move .plain rfl rfl ?_
      refine Sq.extract .plain rfl rfl rfl ?_
      refine Sq.extract .plain rfl rfl rfl ?_
      refine Sq.alloc zero26 .plain rfl (fun b57 w58 e59 hB60 hlo61 => ?_)
      have hd62 := Nat.le_trans (Below.size E) hlo61
      have hd63 := Nat.lt_of_lt_of_le hB19.lt hlo61
      have hd64 := Nat.lt_of_lt_of_le hB39.lt hlo61
      have hs65 := Below.size e59
      replace E := E.trans e59
      replace hn10 := hn10.ext e59
      replace ha11 := ha11.ext e59
      replace hB19 := hB19.ext e59
      replace hn32 := hn32.ext e59
      replace ha33 := ha33.ext e59
      replace hB39 := hB39.ext e59
      replace hn53 := hn53.ext e59
      replace ha54 := ha54.ext e59
      refine Sq.storeAgg agg26 .plain rfl rfl (one_cons rfl (one_cons (Rows.one (OwnRows.rows hn53)) (one_cons (Row.one (Own.row ha54)) one_nil))) hB60 rfl rfl (fun w66 g67 hB68 => ?_)
      have hs69 := World.grownBy.size g67
      replace E := E.grown g67 (fun k hk => by injection hk with hk; subst hk; omega)
      replace hn10 := hn10.stored g67 hB60 (by decide) (by decide)
      replace ha11 := ha11.stored g67 hB60 (by decide)
      replace hB19 := hB19.grown g67 (by intro h; injection h with h; omega)
      replace hn32 := hn32.stored g67 hB60 (by decide) (by decide)
      replace ha33 := ha33.stored g67 hB60 (by decide)
      replace hB39 := hB39.grown g67 (by intro h; injection h with h; omega)
      replace hn53 := hn53.stored g67 hB60 (by decide) (by decide)
      replace ha54 := ha54.stored g67 hB60 (by decide)
      replace hB60 := hB68
      refine Sq.assign .plain rfl rfl ?_
      refine Sq.nil ?_
      refine Eq.next ?_
      refine Cq.seq ?_
      refine Cq.seq ?_
      refine Cq.region ?_
      refine Sq.loadAgg agg26 .plain rfl rfl hB39 rfl ?_
      refine Sq.loadAgg agg26 .plain rfl rfl hB60 rfl ?_
      have hd73 := hB19.lt
      have hd74 := hB39.lt
      have hd75 := hB60.lt
      refine Sq.call fn18 .plain rfl rfl (agAutomata_c _ (safe a7) (safe a7) _ _ _ _ (OwnRows.rows hn32) (Own.row ha33) (OwnRows.rows hn53) (Own.row ha54) (by first | exact fit_zero | exact fit_of_valid (by first | assumption | exact extend_valid hv hk | exact compl_valid' (extend_valid hv hk) | exact safe_valid hv) | assumption)) ?_
      rintro _ w71 ⟨rfl, e72⟩
      have hs76 := Below.size E
      have hs77 := Below.size e72
      replace E := E.trans e72
      replace hn10 := hn10.ext e72
      replace ha11 := ha11.ext e72
      replace hB19 := hB19.ext e72
      replace hn32 := hn32.ext e72
      replace ha33 := ha33.ext e72
      replace hB39 := hB39.ext e72
      replace hn53 := hn53.ext e72
      replace ha54 := ha54.ext e72
      replace hB60 := hB60.ext e72
      refine Sq.beT (by exact eqA_refl _) ?_
      refine Sq.notT .plain rfl rfl ?_
      refine Sq.move .plain rfl rfl ?_
      refine Sq.move (.met rfl rfl rfl) rfl rfl ?_
      refine Sq.move (.met rfl rfl rfl) rfl rfl ?_
      refine Sq.neqB und4 (.met rfl rfl rfl) rfl rfl rfl ?_
      refine Sq.pickF .plain rfl rfl rfl ?_
      refine Sq.move .plain rfl rfl ?_
      refine Sq.move (.met rfl rfl rfl) rfl rfl ?_
      refine Sq.notT (.met rfl rfl rfl) rfl rfl ?_
      refine Sq.pickF .plain rfl rfl rfl ?_
      refine Sq.nil ?_
      refine Eq.next ?_
      refine Cq.els rfl ?_
      refine Cq.skip ?_
      refine Eq.next ?_
      refine Cq.seq ?_
      refine Cq.region ?_
      refine Sq.loadAgg agg26 .plain rfl rfl hB19 rfl ?_
      refine Sq.call fn29 .plain rfl rfl (compl_c_T _ a7 _ _ hn10 ha11 (by exact hv)) ?_
      rintro _ w79 ⟨⟨_, rfl, nx81, ac82, rfl, hn83, ha84⟩, e80⟩
      have hs85 := Below.size E
      have hs86 := Below.size e80
      replace E := E.trans e80
      replace hn10 := hn10.ext e80
      replace ha11 := ha11.ext e80
      replace hB19 := hB19.ext e80
      replace hn32 := hn32.ext e80
      replace ha33 := ha33.ext e80
      replace hB39 := hB39.ext e80
      replace hn53 := hn53.ext e80
      replace ha54 := ha54.ext e80
      replace hB60 := hB60.ext e80
      refine Sq.move .plain rfl rfl ?_
      refine Sq.extract .plain rfl rfl rfl ?_
      refine Sq.extract .plain rfl rfl rfl ?_
      refine Sq.alloc zero26 .plain rfl (fun b87 w88 e89 hB90 hlo91 => ?_)
      have hd92 := Nat.le_trans (Below.size E) hlo91
      have hd93 := Nat.lt_of_lt_of_le hB19.lt hlo91
      have hd94 := Nat.lt_of_lt_of_le hB39.lt hlo91
      have hd95 := Nat.lt_of_lt_of_le hB60.lt hlo91
      have hs96 := Below.size e89
      replace E := E.trans e89
      replace hn10 := hn10.ext e89
      replace ha11 := ha11.ext e89
      replace hB19 := hB19.ext e89
      replace hn32 := hn32.ext e89
      replace ha33 := ha33.ext e89
      replace hB39 := hB39.ext e89
      replace hn53 := hn53.ext e89
      replace ha54 := ha54.ext e89
      replace hB60 := hB60.ext e89
      replace hn83 := hn83.ext e89
      replace ha84 := ha84.ext e89
      refine Sq.storeAgg agg26 .plain rfl rfl (one_cons rfl (one_cons (Rows.one (OwnRows.rows hn83)) (one_cons (Row.one (Own.row ha84)) one_nil))) hB90 rfl rfl (fun w97 g98 hB99 => ?_)
      have hs100 := World.grownBy.size g98
      replace E := E.grown g98 (fun k hk => by injection hk with hk; subst hk; omega)
      replace hn10 := hn10.stored g98 hB90 (by decide) (by decide)
      replace ha11 := ha11.stored g98 hB90 (by decide)
      replace hB19 := hB19.grown g98 (by intro h; injection h with h; omega)
      replace hn32 := hn32.stored g98 hB90 (by decide) (by decide)
      replace ha33 := ha33.stored g98 hB90 (by decide)
      replace hB39 := hB39.grown g98 (by intro h; injection h with h; omega)
      replace hn53 := hn53.stored g98 hB90 (by decide) (by decide)
      replace ha54 := ha54.stored g98 hB90 (by decide)
      replace hB60 := hB60.grown g98 (by intro h; injection h with h; omega)
      replace hn83 := hn83.stored g98 hB90 (by decide) (by decide)
      replace ha84 := ha84.stored g98 hB90 (by decide)
      replace hB90 := hB99
      refine Sq.assign .plain rfl rfl ?_
      refine Sq.nil ?_
      refine Eq.next ?_
      refine Cq.seq ?_
      refine Cq.region ?_
      refine Sq.loadAgg agg26 .plain rfl rfl hB90 rfl ?_
      refine Sq.call fn16 .plain rfl rfl (safety_c_T _ (compl a7) _ _ (OwnRows.rows hn83) (Own.row ha84) (by exact compl_valid' hv)) ?_
      rintro _ w102 ⟨⟨_, rfl, nx104, ac105, rfl, hn106, ha107⟩, e103⟩
      have hs108 := Below.size E
      have hs109 := Below.size e103
      replace E := E.trans e103
      replace hn10 := hn10.ext e103
      replace ha11 := ha11.ext e103
      replace hB19 := hB19.ext e103
      replace hn32 := hn32.ext e103
      replace ha33 := ha33.ext e103
      replace hB39 := hB39.ext e103
      replace hn53 := hn53.ext e103
      replace ha54 := ha54.ext e103
      replace hB60 := hB60.ext e103
      replace hn83 := hn83.ext e103
      replace ha84 := ha84.ext e103
      replace hB90 := hB90.ext e103
      refine Sq.move .plain rfl rfl ?_
      refine Sq.extract .plain rfl rfl rfl ?_
      refine Sq.extract .plain rfl rfl rfl ?_
      refine Sq.alloc zero26 .plain rfl (fun b110 w111 e112 hB113 hlo114 => ?_)
      have hd115 := Nat.le_trans (Below.size E) hlo114
      have hd116 := Nat.lt_of_lt_of_le hB19.lt hlo114
      have hd117 := Nat.lt_of_lt_of_le hB39.lt hlo114
      have hd118 := Nat.lt_of_lt_of_le hB60.lt hlo114
      have hd119 := Nat.lt_of_lt_of_le hB90.lt hlo114
      have hs120 := Below.size e112
      replace E := E.trans e112
      replace hn10 := hn10.ext e112
      replace ha11 := ha11.ext e112
      replace hB19 := hB19.ext e112
      replace hn32 := hn32.ext e112
      replace ha33 := ha33.ext e112
      replace hB39 := hB39.ext e112
      replace hn53 := hn53.ext e112
      replace ha54 := ha54.ext e112
      replace hB60 := hB60.ext e112
      replace hn83 := hn83.ext e112
      replace ha84 := ha84.ext e112
      replace hB90 := hB90.ext e112
      replace hn106 := hn106.ext e112
      replace ha107 := ha107.ext e112
      refine Sq.storeAgg agg26 .plain rfl rfl (one_cons rfl (one_cons (Rows.one (OwnRows.rows hn106)) (one_cons (Row.one (Own.row ha107)) one_nil))) hB113 rfl rfl (fun w121 g122 hB123 => ?_)
      have hs124 := World.grownBy.size g122
      replace E := E.grown g122 (fun k hk => by injection hk with hk; subst hk; omega)
      replace hn10 := hn10.stored g122 hB113 (by decide) (by decide)
      replace ha11 := ha11.stored g122 hB113 (by decide)
      replace hB19 := hB19.grown g122 (by intro h; injection h with h; omega)
      replace hn32 := hn32.stored g122 hB113 (by decide) (by decide)
      replace ha33 := ha33.stored g122 hB113 (by decide)
      replace hB39 := hB39.grown g122 (by intro h; injection h with h; omega)
      replace hn53 := hn53.stored g122 hB113 (by decide) (by decide)
      replace ha54 := ha54.stored g122 hB113 (by decide)
      replace hB60 := hB60.grown g122 (by intro h; injection h with h; omega)
      replace hn83 := hn83.stored g122 hB113 (by decide) (by decide)
      replace ha84 := ha84.stored g122 hB113 (by decide)
      replace hB90 := hB90.grown g122 (by intro h; injection h with h; omega)
      replace hn106 := hn106.stored g122 hB113 (by decide) (by decide)
      replace ha107 := ha107.stored g122 hB113 (by decide)
      replace hB113 := hB123
      refine Sq.assign .plain rfl rfl ?_
      refine Sq.nil ?_
      refine Eq.next ?_
      refine Cq.seq ?_
      refine Cq.drawS 21 (fun w' => Blk w' b36 26 [Value.int .i64 ((safe a7).al), nx30, ac31] ∧ Blk w' b110 26 [Value.int .i64 (((safe (compl a7))).al), nx104, ac105]) mixed (⟨hB39, hB113⟩) (fun w125 e126 hS => ?_)
      clear hS
      have hs127 := Below.size e126
      replace E := E.trans e126
      replace hn10 := hn10.ext e126
      replace ha11 := ha11.ext e126
      replace hB19 := hB19.ext e126
      replace hn32 := hn32.ext e126
      replace ha33 := ha33.ext e126
      replace hB39 := hB39.ext e126
      replace hn53 := hn53.ext e126
      replace ha54 := ha54.ext e126
      replace hB60 := hB60.ext e126
      replace hn83 := hn83.ext e126
      replace ha84 := ha84.ext e126
      replace hB90 := hB90.ext e126
      replace hn106 := hn106.ext e126
      replace ha107 := ha107.ext e126
      replace hB113 := hB113.ext e126
      have E_w125 := E
      have hn10_w125 := hn10
      have ha11_w125 := ha11
      have hB19_w125 := hB19
      have hn32_w125 := hn32
      have ha33_w125 := ha33
      have hB39_w125 := hB39
      have hn53_w125 := hn53
      have ha54_w125 := ha54
      have hB60_w125 := hB60
      have hn83_w125 := hn83
      have ha84_w125 := ha84
      have hB90_w125 := hB90
      have hn106_w125 := hn106
      have ha107_w125 := ha107
      have hB113_w125 := hB113
      refine Gq.st 0 rfl (by kernel_rfl) rfl .plain rfl (fun _ _ _ h => h) ⟨hB39, hB113⟩ (fun w' x => Still.move rfl) ?_
      refine Gq.st 1 rfl (by kernel_rfl) rfl .plain rfl (fun _ _ _ h => h) ⟨hB39, hB113⟩ (fun w' x => Still.move rfl) ?_
      refine Gq.st 2 rfl (by kernel_rfl) rfl (.met rfl rfl rfl) rfl (fun _ _ _ h => h) ⟨hB39, hB113⟩ (fun w' x => Still.loadAgg agg26 rfl x.1 rfl) ?_
      refine Gq.st 3 rfl (by kernel_rfl) rfl (.met rfl rfl rfl) rfl (fun _ _ _ h => h) ⟨hB39, hB113⟩ (fun w' x => Still.move rfl) ?_
      refine Gq.one 4 rfl (by kernel_rfl) ?_
      have hd131 := hB19.lt
      have hd132 := hB39.lt
      have hd133 := hB60.lt
      have hd134 := hB90.lt
      have hd135 := hB113.lt
      refine Sq.call fn28 (.met rfl rfl rfl) rfl rfl (accepts_c _ (safe a7) _ _ (OwnRows.rows hn32) (Own.row ha33) s6 (by first | omega | (simp only [size_cat, chr_size]; omega) | exact Nat.le_trans (size_cut _) (by omega) | decide)) ?_
      rintro _ w129 ⟨rfl, e130⟩
      have hs136 := Below.size E
      have hs137 := Below.size e130
      replace E := E.trans e130
      replace hn10 := hn10.ext e130
      replace ha11 := ha11.ext e130
      replace hB19 := hB19.ext e130
      replace hn32 := hn32.ext e130
      replace ha33 := ha33.ext e130
      replace hB39 := hB39.ext e130
      replace hn53 := hn53.ext e130
      replace ha54 := ha54.ext e130
      replace hB60 := hB60.ext e130
      replace hn83 := hn83.ext e130
      replace ha84 := ha84.ext e130
      replace hB90 := hB90.ext e130
      replace hn106 := hn106.ext e130
      replace ha107 := ha107.ext e130
      replace hB113 := hB113.ext e130
      refine Sq.partB (fun hx => ?_) (fun hx => ?_)
      · refine Sq.nil ?_
        refine Eq.goes (fun _ => ⟨hB39, hB113⟩) ?_
        refine Gq.st 5 rfl (by kernel_rfl) rfl (.met rfl rfl rfl) rfl (fun _ _ _ h => h) ⟨hB39, hB113⟩ (fun w' x => Still.move rfl) ?_
        refine Gq.st 6 rfl (by kernel_rfl) rfl (.met rfl rfl rfl) rfl (fun _ _ _ h => h) ⟨hB39, hB113⟩ (fun w' x => Still.loadAgg agg26 rfl x.2 rfl) ?_
        refine Gq.st 7 rfl (by kernel_rfl) rfl (.met rfl rfl rfl) rfl (fun _ _ _ h => h) ⟨hB39, hB113⟩ (fun w' x => Still.move rfl) ?_
        refine Gq.one 8 rfl (by kernel_rfl) ?_
        have hd141 := hB19.lt
        have hd142 := hB39.lt
        have hd143 := hB60.lt
        have hd144 := hB90.lt
        have hd145 := hB113.lt
        refine Sq.call fn28 (.met rfl rfl rfl) rfl rfl (accepts_c _ ((safe (compl a7))) _ _ (OwnRows.rows hn106) (Own.row ha107) s6 (by first | omega | (simp only [size_cat, chr_size]; omega) | exact Nat.le_trans (size_cut _) (by omega) | decide)) ?_
        rintro _ w139 ⟨rfl, e140⟩
        have hs146 := Below.size E
        have hs147 := Below.size e140
        replace E := E.trans e140
        replace hn10 := hn10.ext e140
        replace ha11 := ha11.ext e140
        replace hB19 := hB19.ext e140
        replace hn32 := hn32.ext e140
        replace ha33 := ha33.ext e140
        replace hB39 := hB39.ext e140
        replace hn53 := hn53.ext e140
        replace ha54 := ha54.ext e140
        replace hB60 := hB60.ext e140
        replace hn83 := hn83.ext e140
        replace ha84 := ha84.ext e140
        replace hB90 := hB90.ext e140
        replace hn106 := hn106.ext e140
        replace ha107 := ha107.ext e140
        replace hB113 := hB113.ext e140
        refine Sq.beF (safe_meet hv hx) ?_
        refine Sq.nil ?_
        refine Eq.goes (fun _ => ⟨hB39, hB113⟩) ?_
        refine Gq.st 9 rfl (by kernel_rfl) rfl (.met rfl rfl rfl) rfl (fun _ _ _ h => h) ⟨hB39, hB113⟩ (fun w' x => Still.pickT rfl rfl) ?_
        refine Gq.st 10 rfl (by kernel_rfl) rfl (.met rfl rfl rfl) rfl (fun _ _ _ h => h) ⟨hB39, hB113⟩ (fun w' x => Still.notF rfl) ?_
        refine Gq.st 11 rfl (by kernel_rfl) rfl .plain rfl (fun _ _ _ h => h) ⟨hB39, hB113⟩ (fun w' x => Still.pickT rfl rfl) ?_
        refine Gq.st 12 rfl (by kernel_rfl) rfl .plain rfl (fun _ _ _ h => h) ⟨hB39, hB113⟩ (fun w' x => Still.move rfl) ?_
        refine Gq.st 13 rfl (by kernel_rfl) rfl (.met rfl rfl rfl) rfl (fun _ _ _ h => h) ⟨hB39, hB113⟩ (fun w' x => Still.loadAgg agg26 rfl x.1 rfl) ?_
        refine Gq.st 16 rfl (by kernel_rfl) rfl (.met rfl rfl rfl) rfl (fun _ _ _ h => h) ⟨hB39, hB113⟩ (fun w' x => Still.loadAgg agg26 rfl x.2 rfl) ?_
        refine Gq.one 14 rfl (by kernel_rfl) ?_
        have hd151 := hB19.lt
        have hd152 := hB39.lt
        have hd153 := hB60.lt
        have hd154 := hB90.lt
        have hd155 := hB113.lt
        refine Sq.call fn20 (.met rfl rfl rfl) rfl rfl (count_c _ (safe a7) _ _ (OwnRows.rows hn32) (Own.row ha33) 0 (by omega)) ?_
        rintro _ w149 ⟨rfl, e150⟩
        have hs156 := Below.size E
        have hs157 := Below.size e150
        replace E := E.trans e150
        replace hn10 := hn10.ext e150
        replace ha11 := ha11.ext e150
        replace hB19 := hB19.ext e150
        replace hn32 := hn32.ext e150
        replace ha33 := ha33.ext e150
        replace hB39 := hB39.ext e150
        replace hn53 := hn53.ext e150
        replace ha54 := ha54.ext e150
        replace hB60 := hB60.ext e150
        replace hn83 := hn83.ext e150
        replace ha84 := ha84.ext e150
        replace hB90 := hB90.ext e150
        replace hn106 := hn106.ext e150
        replace ha107 := ha107.ext e150
        replace hB113 := hB113.ext e150
        refine Sq.nil ?_
        refine Eq.goes (fun _ => ⟨hB39, hB113⟩) ?_
        refine Gq.st 15 rfl (by kernel_rfl) rfl (.met rfl rfl rfl) rfl (fun _ _ _ h => h) ⟨hB39, hB113⟩ (fun w' x => Still.eql rfl rfl) ?_
        refine Gq.one 17 rfl (by kernel_rfl) ?_
        have hd161 := hB19.lt
        have hd162 := hB39.lt
        have hd163 := hB60.lt
        have hd164 := hB90.lt
        have hd165 := hB113.lt
        refine Sq.call fn20 (.met rfl rfl rfl) rfl rfl (count_c _ ((safe (compl a7))) _ _ (OwnRows.rows hn106) (Own.row ha107) 0 (by omega)) ?_
        rintro _ w159 ⟨rfl, e160⟩
        have hs166 := Below.size E
        have hs167 := Below.size e160
        replace E := E.trans e160
        replace hn10 := hn10.ext e160
        replace ha11 := ha11.ext e160
        replace hB19 := hB19.ext e160
        replace hn32 := hn32.ext e160
        replace ha33 := ha33.ext e160
        replace hB39 := hB39.ext e160
        replace hn53 := hn53.ext e160
        replace ha54 := ha54.ext e160
        replace hB60 := hB60.ext e160
        replace hn83 := hn83.ext e160
        replace ha84 := ha84.ext e160
        replace hB90 := hB90.ext e160
        replace hn106 := hn106.ext e160
        replace ha107 := ha107.ext e160
        replace hB113 := hB113.ext e160
        refine Sq.nil ?_
        refine Eq.goes (fun _ => ⟨hB39, hB113⟩) ?_
        refine Gq.st 18 rfl (by kernel_rfl) rfl (.met rfl rfl rfl) rfl (fun _ _ _ h => h) ⟨hB39, hB113⟩ (fun w' x => Still.eql rfl rfl) ?_
        refine Gq.st 19 rfl (by kernel_rfl) rfl (.met rfl rfl rfl) rfl (fun _ _ _ h => h) ⟨hB39, hB113⟩ (fun w' x => Still.neqB und4 rfl rfl) ?_
        refine Gq.beT (count_meet hv) ?_
        refine Gq.st 20 rfl (by kernel_rfl) rfl .plain rfl (fun _ _ _ h => h) ⟨hB39, hB113⟩ (fun w' x => Still.pickT rfl rfl) ?_
        refine Gq.one 21 rfl (by kernel_rfl) ?_
        refine Sq.assign .plain rfl rfl ?_
        refine Sq.nil ?_
        refine Eq.goes (fun h => absurd h (by decide)) ?_
        refine Gq.done (by kernel_rfl) ?_
        refine Eq.next ?_
        refine Cq.ret ?_
        refine Eq.ret1 rfl rfl ?_
        exact ⟨rfl, E⟩
      · refine Sq.nil ?_
        refine Eq.goes (fun _ => ⟨hB39, hB113⟩) ?_
        refine Gq.st 5 rfl (by kernel_rfl) rfl (.met rfl rfl rfl) rfl (fun _ _ _ h => h) ⟨hB39, hB113⟩ (fun w' x => Still.move rfl) ?_
        refine Gq.off 6 rfl (by kernel_rfl) rfl rfl rfl rfl rfl rfl (fun _ _ _ h => h) ⟨hB39, hB113⟩ ?_
        refine Gq.off 7 rfl (by kernel_rfl) rfl rfl rfl rfl rfl rfl (fun _ _ _ h => h) ⟨hB39, hB113⟩ ?_
        refine Gq.off 8 rfl (by kernel_rfl) rfl rfl rfl rfl rfl rfl (fun _ _ _ h => h) ⟨hB39, hB113⟩ ?_
        refine Gq.st 9 rfl (by kernel_rfl) rfl (.met rfl rfl rfl) rfl (fun _ _ _ h => h) ⟨hB39, hB113⟩ (fun w' x => Still.pickF rfl rfl) ?_
        refine Gq.st 10 rfl (by kernel_rfl) rfl (.met rfl rfl rfl) rfl (fun _ _ _ h => h) ⟨hB39, hB113⟩ (fun w' x => Still.notF rfl) ?_
        refine Gq.st 11 rfl (by kernel_rfl) rfl .plain rfl (fun _ _ _ h => h) ⟨hB39, hB113⟩ (fun w' x => Still.pickT rfl rfl) ?_
        refine Gq.st 12 rfl (by kernel_rfl) rfl .plain rfl (fun _ _ _ h => h) ⟨hB39, hB113⟩ (fun w' x => Still.move rfl) ?_
        refine Gq.st 13 rfl (by kernel_rfl) rfl (.met rfl rfl rfl) rfl (fun _ _ _ h => h) ⟨hB39, hB113⟩ (fun w' x => Still.loadAgg agg26 rfl x.1 rfl) ?_
        refine Gq.st 16 rfl (by kernel_rfl) rfl (.met rfl rfl rfl) rfl (fun _ _ _ h => h) ⟨hB39, hB113⟩ (fun w' x => Still.loadAgg agg26 rfl x.2 rfl) ?_
        refine Gq.one 14 rfl (by kernel_rfl) ?_
        have hd171 := hB19.lt
        have hd172 := hB39.lt
        have hd173 := hB60.lt
        have hd174 := hB90.lt
        have hd175 := hB113.lt
        refine Sq.call fn20 (.met rfl rfl rfl) rfl rfl (count_c _ (safe a7) _ _ (OwnRows.rows hn32) (Own.row ha33) 0 (by omega)) ?_
        rintro _ w169 ⟨rfl, e170⟩
        have hs176 := Below.size E
        have hs177 := Below.size e170
        replace E := E.trans e170
        replace hn10 := hn10.ext e170
        replace ha11 := ha11.ext e170
        replace hB19 := hB19.ext e170
        replace hn32 := hn32.ext e170
        replace ha33 := ha33.ext e170
        replace hB39 := hB39.ext e170
        replace hn53 := hn53.ext e170
        replace ha54 := ha54.ext e170
        replace hB60 := hB60.ext e170
        replace hn83 := hn83.ext e170
        replace ha84 := ha84.ext e170
        replace hB90 := hB90.ext e170
        replace hn106 := hn106.ext e170
        replace ha107 := ha107.ext e170
        replace hB113 := hB113.ext e170
        refine Sq.nil ?_
        refine Eq.goes (fun _ => ⟨hB39, hB113⟩) ?_
        refine Gq.st 15 rfl (by kernel_rfl) rfl (.met rfl rfl rfl) rfl (fun _ _ _ h => h) ⟨hB39, hB113⟩ (fun w' x => Still.eql rfl rfl) ?_
        refine Gq.one 17 rfl (by kernel_rfl) ?_
        have hd181 := hB19.lt
        have hd182 := hB39.lt
        have hd183 := hB60.lt
        have hd184 := hB90.lt
        have hd185 := hB113.lt
        refine Sq.call fn20 (.met rfl rfl rfl) rfl rfl (count_c _ ((safe (compl a7))) _ _ (OwnRows.rows hn106) (Own.row ha107) 0 (by omega)) ?_
        rintro _ w179 ⟨rfl, e180⟩
        have hs186 := Below.size E
        have hs187 := Below.size e180
        replace E := E.trans e180
        replace hn10 := hn10.ext e180
        replace ha11 := ha11.ext e180
        replace hB19 := hB19.ext e180
        replace hn32 := hn32.ext e180
        replace ha33 := ha33.ext e180
        replace hB39 := hB39.ext e180
        replace hn53 := hn53.ext e180
        replace ha54 := ha54.ext e180
        replace hB60 := hB60.ext e180
        replace hn83 := hn83.ext e180
        replace ha84 := ha84.ext e180
        replace hB90 := hB90.ext e180
        replace hn106 := hn106.ext e180
        replace ha107 := ha107.ext e180
        replace hB113 := hB113.ext e180
        refine Sq.nil ?_
        refine Eq.goes (fun _ => ⟨hB39, hB113⟩) ?_
        refine Gq.st 18 rfl (by kernel_rfl) rfl (.met rfl rfl rfl) rfl (fun _ _ _ h => h) ⟨hB39, hB113⟩ (fun w' x => Still.eql rfl rfl) ?_
        refine Gq.st 19 rfl (by kernel_rfl) rfl (.met rfl rfl rfl) rfl (fun _ _ _ h => h) ⟨hB39, hB113⟩ (fun w' x => Still.neqB und4 rfl rfl) ?_
        refine Gq.beT (count_meet hv) ?_
        refine Gq.st 20 rfl (by kernel_rfl) rfl .plain rfl (fun _ _ _ h => h) ⟨hB39, hB113⟩ (fun w' x => Still.pickT rfl rfl) ?_
        refine Gq.one 21 rfl (by kernel_rfl) ?_
        refine Sq.assign .plain rfl rfl ?_
        refine Sq.nil ?_
        refine Eq.goes (fun h => absurd h (by decide)) ?_
        refine Gq.done (by kernel_rfl) ?_
        refine Eq.next ?_
        refine Cq.ret ?_
        refine Eq.ret1 rfl rfl ?_
        exact ⟨rfl, E⟩
    · refine Sq.call fn16 .plain rfl rfl (safety_c_F _ a7 _ _ hn10 ha11 hC) ?_
      rintro _ w189 ⟨⟨_, rfl, nx191, ac192, rfl, hn193, ha194⟩, e190⟩
      have hs195 := Below.size E
      have hs196 := Below.size e190
      replace E := E.trans e190
      replace hn10 := hn10.ext e190
      replace ha11 := ha11.ext e190
      replace hB19 := hB19.ext e190
      refine Sq.move .plain rfl rfl ?_
      refine Sq.extract .plain rfl rfl rfl ?_
      refine Sq.extract .plain rfl rfl rfl ?_
      refine Sq.alloc zero26 .plain rfl (fun b197 w198 e199 hB200 hlo201 => ?_)
      have hd202 := Nat.le_trans (Below.size E) hlo201
      have hd203 := Nat.lt_of_lt_of_le hB19.lt hlo201
      have hs204 := Below.size e199
      replace E := E.trans e199
      replace hn10 := hn10.ext e199
      replace ha11 := ha11.ext e199
      replace hB19 := hB19.ext e199
      replace hn193 := hn193.ext e199
      replace ha194 := ha194.ext e199
      refine Sq.storeAgg agg26 .plain rfl rfl (one_cons rfl (one_cons (Rows.one (OwnRows.rows hn193)) (one_cons (Row.one (Own.row ha194)) one_nil))) hB200 rfl rfl (fun w205 g206 hB207 => ?_)
      have hs208 := World.grownBy.size g206
      replace E := E.grown g206 (fun k hk => by injection hk with hk; subst hk; omega)
      replace hn10 := hn10.stored g206 hB200 (by decide) (by decide)
      replace ha11 := ha11.stored g206 hB200 (by decide)
      replace hB19 := hB19.grown g206 (by intro h; injection h with h; omega)
      replace hn193 := hn193.stored g206 hB200 (by decide) (by decide)
      replace ha194 := ha194.stored g206 hB200 (by decide)
      replace hB200 := hB207
      refine Sq.assign .plain rfl rfl ?_
      refine Sq.nil ?_
      refine Eq.next ?_
      refine Cq.seq ?_
      refine Cq.region ?_
      refine Sq.loadAgg agg26 .plain rfl rfl hB19 rfl ?_
      refine Sq.call fn17 .plain rfl rfl (sSafety_c_F _ a7 _ _ hn10 ha11 hC) ?_
      rintro _ w210 ⟨⟨_, rfl, nx212, ac213, rfl, hn214, ha215⟩, e211⟩
      have hs216 := Below.size E
      have hs217 := Below.size e211
      replace E := E.trans e211
      replace hn10 := hn10.ext e211
      replace ha11 := ha11.ext e211
      replace hB19 := hB19.ext e211
      replace hn193 := hn193.ext e211
      replace ha194 := ha194.ext e211
      replace hB200 := hB200.ext e211
      refine Sq.move .plain rfl rfl ?_
      refine Sq.extract .plain rfl rfl rfl ?_
      refine Sq.extract .plain rfl rfl rfl ?_
      refine Sq.alloc zero26 .plain rfl (fun b218 w219 e220 hB221 hlo222 => ?_)
      have hd223 := Nat.le_trans (Below.size E) hlo222
      have hd224 := Nat.lt_of_lt_of_le hB19.lt hlo222
      have hd225 := Nat.lt_of_lt_of_le hB200.lt hlo222
      have hs226 := Below.size e220
      replace E := E.trans e220
      replace hn10 := hn10.ext e220
      replace ha11 := ha11.ext e220
      replace hB19 := hB19.ext e220
      replace hn193 := hn193.ext e220
      replace ha194 := ha194.ext e220
      replace hB200 := hB200.ext e220
      replace hn214 := hn214.ext e220
      replace ha215 := ha215.ext e220
      refine Sq.storeAgg agg26 .plain rfl rfl (one_cons rfl (one_cons (Rows.one (OwnRows.rows hn214)) (one_cons (Row.one (Own.row ha215)) one_nil))) hB221 rfl rfl (fun w227 g228 hB229 => ?_)
      have hs230 := World.grownBy.size g228
      replace E := E.grown g228 (fun k hk => by injection hk with hk; subst hk; omega)
      replace hn10 := hn10.stored g228 hB221 (by decide) (by decide)
      replace ha11 := ha11.stored g228 hB221 (by decide)
      replace hB19 := hB19.grown g228 (by intro h; injection h with h; omega)
      replace hn193 := hn193.stored g228 hB221 (by decide) (by decide)
      replace ha194 := ha194.stored g228 hB221 (by decide)
      replace hB200 := hB200.grown g228 (by intro h; injection h with h; omega)
      replace hn214 := hn214.stored g228 hB221 (by decide) (by decide)
      replace ha215 := ha215.stored g228 hB221 (by decide)
      replace hB221 := hB229
      refine Sq.assign .plain rfl rfl ?_
      refine Sq.nil ?_
      refine Eq.next ?_
      refine Cq.seq ?_
      refine Cq.seq ?_
      refine Cq.region ?_
      refine Sq.loadAgg agg26 .plain rfl rfl hB200 rfl ?_
      refine Sq.loadAgg agg26 .plain rfl rfl hB221 rfl ?_
      have hd234 := hB19.lt
      have hd235 := hB200.lt
      have hd236 := hB221.lt
      refine Sq.call fn18 .plain rfl rfl (agAutomata_c _ zeroA zeroA _ _ _ _ (OwnRows.rows hn193) (Own.row ha194) (OwnRows.rows hn214) (Own.row ha215) (by first | exact fit_zero | exact fit_of_valid (by first | assumption | exact extend_valid hv hk | exact compl_valid' (extend_valid hv hk) | exact safe_valid hv) | assumption)) ?_
      rintro _ w232 ⟨rfl, e233⟩
      have hs237 := Below.size E
      have hs238 := Below.size e233
      replace E := E.trans e233
      replace hn10 := hn10.ext e233
      replace ha11 := ha11.ext e233
      replace hB19 := hB19.ext e233
      replace hn193 := hn193.ext e233
      replace ha194 := ha194.ext e233
      replace hB200 := hB200.ext e233
      replace hn214 := hn214.ext e233
      replace ha215 := ha215.ext e233
      replace hB221 := hB221.ext e233
      refine Sq.beT (by exact eqA_refl _) ?_
      refine Sq.notT .plain rfl rfl ?_
      refine Sq.move .plain rfl rfl ?_
      refine Sq.move (.met rfl rfl rfl) rfl rfl ?_
      refine Sq.move (.met rfl rfl rfl) rfl rfl ?_
      refine Sq.neqB und4 (.met rfl rfl rfl) rfl rfl rfl ?_
      refine Sq.pickF .plain rfl rfl rfl ?_
      refine Sq.move .plain rfl rfl ?_
      refine Sq.move (.met rfl rfl rfl) rfl rfl ?_
      refine Sq.notF (.met rfl rfl rfl) rfl rfl ?_
      refine Sq.pickF .plain rfl rfl rfl ?_
      refine Sq.nil ?_
      refine Eq.next ?_
      refine Cq.thn rfl ?_
      refine Cq.seq ?_
      refine Cq.region ?_
      refine Sq.loadAgg agg26 .plain rfl rfl hB200 rfl ?_
      refine Sq.loadAgg agg26 .plain rfl rfl hB221 rfl ?_
      have hd242 := hB19.lt
      have hd243 := hB200.lt
      have hd244 := hB221.lt
      refine Sq.call fn18 .plain rfl rfl (agAutomata_c _ zeroA zeroA _ _ _ _ (OwnRows.rows hn193) (Own.row ha194) (OwnRows.rows hn214) (Own.row ha215) (by first | exact fit_zero | exact fit_of_valid (by first | assumption | exact extend_valid hv hk | exact compl_valid' (extend_valid hv hk) | exact safe_valid hv) | assumption)) ?_
      rintro _ w240 ⟨rfl, e241⟩
      have hs245 := Below.size E
      have hs246 := Below.size e241
      replace E := E.trans e241
      replace hn10 := hn10.ext e241
      replace ha11 := ha11.ext e241
      replace hB19 := hB19.ext e241
      replace hn193 := hn193.ext e241
      replace ha194 := ha194.ext e241
      replace hB200 := hB200.ext e241
      replace hn214 := hn214.ext e241
      replace ha215 := ha215.ext e241
      replace hB221 := hB221.ext e241
      refine Sq.beT (by exact eqA_refl _) ?_
      refine Sq.move .plain rfl rfl ?_
      refine Sq.move (.met rfl rfl rfl) rfl rfl ?_
      refine Sq.move (.met rfl rfl rfl) rfl rfl ?_
      refine Sq.eqlB und4 (.met rfl rfl rfl) rfl rfl rfl ?_
      refine Sq.pickT .plain rfl rfl rfl ?_
      refine Sq.assign .plain rfl rfl ?_
      refine Sq.nil ?_
      refine Eq.next ?_
      refine Cq.ret ?_
      refine Eq.pastRet ?_
      refine Eq.ret1 rfl rfl ?_
      exact ⟨rfl, E⟩

set_option maxRecDepth 100000 in
theorem lExtendWord (w0 : World) (e : TypeId) (a0 : Option Addr) (c0 : Nat) (cs : List UInt8) (hc : Bytes w0 e (.slice a0 cs.length c0) cs) (hcap : cs.length ≤ c0) (e' : TypeId) (a0' : Option Addr) (c0' : Nat) (cs' : List UInt8) (hc' : Bytes w0 e' (.slice a0' cs'.length c0') cs') (hcap' : cs'.length ≤ c0') : Ret Try.prog 14 #[Value.slice a0 cs.length c0, Value.slice a0' cs'.length c0'] w0 (fun v w => v = .bool true ∧ Ext w0 w) := by
  have E := Ext.refl w0
  refine Ret.of (args := [Value.slice a0 cs.length c0, Value.slice a0' cs'.length c0']) Try.func14 rfl rfl rfl ?_
  rintro _ rfl
  show Cq _ _ _ _ [(0, Value.slice a0 cs.length c0), (1, Value.slice a0' cs'.length c0')] _
  refine Cq.seq ?_
  refine Cq.region ?_
  refine Sq.assign .plain rfl rfl ?_
  refine Sq.nil ?_
  refine Eq.next ?_
  refine Cq.seq ?_
  refine Cq.seq ?_
  refine Cq.region ?_
  refine Sq.move .plain rfl rfl ?_
  refine Sq.lenBytes (hc.ext E) .plain rfl und22 rfl ?_
  refine Sq.gtr .plain rfl rfl rfl ?_
  refine Sq.part (fun c1 => ?_) (fun c1 => ?_)
  · refine Sq.move .plain rfl rfl ?_
    refine Sq.off rfl rfl rfl rfl rfl rfl ?_
    refine Sq.off rfl rfl rfl rfl rfl rfl ?_
    refine Sq.off rfl rfl rfl rfl rfl rfl ?_
    refine Sq.pickT .plain rfl rfl rfl ?_
    refine Sq.nil ?_
    refine Eq.next ?_
    refine Cq.thn rfl ?_
    refine Cq.seq ?_
    refine Cq.region ?_
    refine Sq.assign .plain rfl rfl ?_
    refine Sq.nil ?_
    refine Eq.next ?_
    refine Cq.ret ?_
    refine Eq.pastRet ?_
    refine Eq.ret1 rfl rfl ?_
    exact ⟨rfl, E⟩
  · refine Sq.move .plain rfl rfl ?_
    refine Sq.move (.met rfl rfl rfl) rfl rfl ?_
    refine Sq.lenBytes (hc'.ext E) (.met rfl rfl rfl) rfl und22 rfl ?_
    refine Sq.gtr (.met rfl rfl rfl) rfl rfl rfl ?_
    refine Sq.part (fun c2 => ?_) (fun c2 => ?_)
    · refine Sq.pickF .plain rfl rfl rfl ?_
      refine Sq.nil ?_
      refine Eq.next ?_
      refine Cq.thn rfl ?_
      refine Cq.seq ?_
      refine Cq.region ?_
      refine Sq.assign .plain rfl rfl ?_
      refine Sq.nil ?_
      refine Eq.next ?_
      refine Cq.ret ?_
      refine Eq.pastRet ?_
      refine Eq.ret1 rfl rfl ?_
      exact ⟨rfl, E⟩
    · refine Sq.pickF .plain rfl rfl rfl ?_
      refine Sq.nil ?_
      refine Eq.next ?_
      refine Cq.els rfl ?_
      refine Cq.skip ?_
      refine Eq.next ?_
      refine Cq.seq ?_
      refine Cq.region ?_
      refine Sq.move .plain rfl rfl ?_
      refine Sq.call fn21 .plain rfl rfl (drawExtend_c _ _ _ _ _ (hc.ext E) hcap) ?_
      rintro _ w4 ⟨⟨u6, k7, a8, rfl, ⟨nx9, ac10, rfl, hn11, ha12⟩, hsm13, hk14⟩, e5⟩
      have hs15 := Below.size E
      have hs16 := Below.size e5
      replace E := E.trans e5
      refine Sq.move .plain rfl rfl ?_
      refine Sq.extract .plain rfl rfl rfl ?_
      refine Sq.extract .plain rfl rfl rfl ?_
      refine Sq.alloc zero26 .plain rfl (fun b17 w18 e19 hB20 hlo21 => ?_)
      have hd22 := Nat.le_trans (Below.size E) hlo21
      have hs23 := Below.size e19
      replace E := E.trans e19
      replace hn11 := hn11.ext e19
      replace ha12 := ha12.ext e19
      refine Sq.storeAgg agg26 .plain rfl rfl (one_cons rfl (one_cons (Rows.one hn11) (one_cons (Row.one ha12) one_nil))) hB20 rfl rfl (fun w24 g25 hB26 => ?_)
      have hs27 := World.grownBy.size g25
      replace E := E.grown g25 (fun k hk => by injection hk with hk; subst hk; omega)
      replace hn11 := hn11.stored g25 hB20 (by decide) (by decide)
      replace ha12 := ha12.stored g25 hB20 (by decide)
      replace hB20 := hB26
      refine Sq.assign .plain rfl rfl ?_
      refine Sq.nil ?_
      refine Eq.next ?_
      refine Cq.seq ?_
      refine Cq.region ?_
      refine Sq.loadAgg agg26 .plain rfl rfl hB20 rfl ?_
      refine Sq.move .plain rfl rfl ?_
      rcases Bool.eq_false_or_eq_true (validA a8 && decide (0 ≤ k7 ∧ k7 ≤ 63)) with hC | hC
      · obtain ⟨hv, hk⟩ := cond_spec hC
        refine Sq.call fn22 .plain rfl rfl (extend_c_T _ a8 _ _ hn11 ha12 k7 hC) ?_
        rintro _ w29 ⟨⟨_, rfl, nx31, ac32, rfl, hn33, ha34⟩, e30⟩
        have hs35 := Below.size E
        have hs36 := Below.size e30
        replace E := E.trans e30
        replace hn11 := hn11.ext e30
        replace ha12 := ha12.ext e30
        replace hB20 := hB20.ext e30
        refine Sq.move .plain rfl rfl ?_
        refine Sq.extract .plain rfl rfl rfl ?_
        refine Sq.extract .plain rfl rfl rfl ?_
        refine Sq.alloc zero26 .plain rfl (fun b37 w38 e39 hB40 hlo41 => ?_)
        have hd42 := Nat.le_trans (Below.size E) hlo41
        have hd43 := Nat.lt_of_lt_of_le hB20.lt hlo41
        have hs44 := Below.size e39
        replace E := E.trans e39
        replace hn11 := hn11.ext e39
        replace ha12 := ha12.ext e39
        replace hB20 := hB20.ext e39
        replace hn33 := hn33.ext e39
        replace ha34 := ha34.ext e39
        refine Sq.storeAgg agg26 .plain rfl rfl (one_cons rfl (one_cons (Rows.one (OwnRows.rows hn33)) (one_cons (Row.one (Own.row ha34)) one_nil))) hB40 rfl rfl (fun w45 g46 hB47 => ?_)
        have hs48 := World.grownBy.size g46
        replace E := E.grown g46 (fun k hk => by injection hk with hk; subst hk; omega)
        replace hn11 := hn11.stored g46 hB40 (by decide) (by decide)
        replace ha12 := ha12.stored g46 hB40 (by decide)
        replace hB20 := hB20.grown g46 (by intro h; injection h with h; omega)
        replace hn33 := hn33.stored g46 hB40 (by decide) (by decide)
        replace ha34 := ha34.stored g46 hB40 (by decide)
        replace hB40 := hB47
        refine Sq.assign .plain rfl rfl ?_
        refine Sq.nil ?_
        refine Eq.next ?_
        refine Cq.seq ?_
        refine Cq.region ?_
        refine Sq.loadAgg agg26 .plain rfl rfl hB20 rfl ?_
        refine Sq.move .plain rfl rfl ?_
        refine Sq.call fn23 .plain rfl rfl (sExtend_c_T _ a8 _ _ hn11 ha12 k7 hC) ?_
        rintro _ w50 ⟨⟨_, rfl, nx52, ac53, rfl, hn54, ha55⟩, e51⟩
        have hs56 := Below.size E
        have hs57 := Below.size e51
        replace E := E.trans e51
        replace hn11 := hn11.ext e51
        replace ha12 := ha12.ext e51
        replace hB20 := hB20.ext e51
        replace hn33 := hn33.ext e51
        replace ha34 := ha34.ext e51
        replace hB40 := hB40.ext e51
        refine Sq.move .plain rfl rfl ?_
        refine Sq.extract .plain rfl rfl rfl ?_
        refine Sq.extract .plain rfl rfl rfl ?_
        refine Sq.alloc zero26 .plain rfl (fun b58 w59 e60 hB61 hlo62 => ?_)
        have hd63 := Nat.le_trans (Below.size E) hlo62
        have hd64 := Nat.lt_of_lt_of_le hB20.lt hlo62
        have hd65 := Nat.lt_of_lt_of_le hB40.lt hlo62
        have hs66 := Below.size e60
        replace E := E.trans e60
        replace hn11 := hn11.ext e60
        replace ha12 := ha12.ext e60
        replace hB20 := hB20.ext e60
        replace hn33 := hn33.ext e60
        replace ha34 := ha34.ext e60
        replace hB40 := hB40.ext e60
        replace hn54 := hn54.ext e60
        replace ha55 := ha55.ext e60
        refine Sq.storeAgg agg26 .plain rfl rfl (one_cons rfl (one_cons (Rows.one (OwnRows.rows hn54)) (one_cons (Row.one (Own.row ha55)) one_nil))) hB61 rfl rfl (fun w67 g68 hB69 => ?_)
        have hs70 := World.grownBy.size g68
        replace E := E.grown g68 (fun k hk => by injection hk with hk; subst hk; omega)
        replace hn11 := hn11.stored g68 hB61 (by decide) (by decide)
        replace ha12 := ha12.stored g68 hB61 (by decide)
        replace hB20 := hB20.grown g68 (by intro h; injection h with h; omega)
        replace hn33 := hn33.stored g68 hB61 (by decide) (by decide)
        replace ha34 := ha34.stored g68 hB61 (by decide)
        replace hB40 := hB40.grown g68 (by intro h; injection h with h; omega)
        replace hn54 := hn54.stored g68 hB61 (by decide) (by decide)
        replace ha55 := ha55.stored g68 hB61 (by decide)
        replace hB61 := hB69
        refine Sq.assign .plain rfl rfl ?_
        refine Sq.nil ?_
        refine Eq.next ?_
        refine Cq.seq ?_
        refine Cq.region ?_
        refine Sq.move .plain rfl rfl ?_
        have hd76 := hB20.lt
        have hd77 := hB40.lt
        have hd78 := hB61.lt
        refine Sq.call fn40 .plain rfl rfl (drawWord_c _ _ _ _ _ (hc'.ext E) hcap') ?_
        rintro _ w72 ⟨⟨s74, rfl, hsz75⟩, e73⟩
        have hs79 := Below.size E
        have hs80 := Below.size e73
        replace E := E.trans e73
        replace hn11 := hn11.ext e73
        replace ha12 := ha12.ext e73
        replace hB20 := hB20.ext e73
        replace hn33 := hn33.ext e73
        replace ha34 := ha34.ext e73
        replace hB40 := hB40.ext e73
        replace hn54 := hn54.ext e73
        replace ha55 := ha55.ext e73
        replace hB61 := hB61.ext e73
        refine Sq.assign .plain rfl rfl ?_
        refine Sq.nil ?_
        refine Eq.next ?_
        refine Cq.seq ?_
        refine Cq.seq ?_
        refine Cq.region ?_
        refine Sq.loadAgg agg26 .plain rfl rfl hB40 rfl ?_
        refine Sq.loadAgg agg26 .plain rfl rfl hB61 rfl ?_
        have hd84 := hB20.lt
        have hd85 := hB40.lt
        have hd86 := hB61.lt
        refine Sq.call fn18 .plain rfl rfl (agAutomata_c _ (extend a8 k7) (extend a8 k7) _ _ _ _ (OwnRows.rows hn33) (Own.row ha34) (OwnRows.rows hn54) (Own.row ha55) (by first | exact fit_zero | exact fit_of_valid (by first | assumption | exact extend_valid hv hk | exact compl_valid' (extend_valid hv hk) | exact hv) | assumption)) ?_
        rintro _ w82 ⟨rfl, e83⟩
        have hs87 := Below.size E
        have hs88 := Below.size e83
        replace E := E.trans e83
        replace hn11 := hn11.ext e83
        replace ha12 := ha12.ext e83
        replace hB20 := hB20.ext e83
        replace hn33 := hn33.ext e83
        replace ha34 := ha34.ext e83
        replace hB40 := hB40.ext e83
        replace hn54 := hn54.ext e83
        replace ha55 := ha55.ext e83
        replace hB61 := hB61.ext e83
        refine Sq.beT (by exact eqA_refl _) ?_
        refine Sq.notT .plain rfl rfl ?_
        refine Sq.move .plain rfl rfl ?_
        refine Sq.move (.met rfl rfl rfl) rfl rfl ?_
        refine Sq.move (.met rfl rfl rfl) rfl rfl ?_
        refine Sq.neqB und4 (.met rfl rfl rfl) rfl rfl rfl ?_
        refine Sq.pickF .plain rfl rfl rfl ?_
        refine Sq.move .plain rfl rfl ?_
        refine Sq.move (.met rfl rfl rfl) rfl rfl ?_
        refine Sq.notT (.met rfl rfl rfl) rfl rfl ?_
        refine Sq.pickF .plain rfl rfl rfl ?_
        refine Sq.nil ?_
        refine Eq.next ?_
        refine Cq.els rfl ?_
        refine Cq.skip ?_
        refine Eq.next ?_
        refine Cq.seq ?_
        refine Cq.seq ?_
        refine Cq.region ?_
        refine Sq.move .plain rfl rfl ?_
        refine Sq.fieldAddr fld26_0 .plain rfl rfl ?_
        refine Sq.loadB one3 .plain rfl rfl hB20 rfl ?_
        refine Sq.move .plain rfl rfl ?_
        refine Sq.or .plain rfl rfl rfl (by have := (validA_spec.1 hv).1; omega) ?_
        refine Sq.call fn37 .plain rfl rfl (within_c s74 (orI a8.al k7) _) ?_
        rintro _ _ ⟨rfl, rfl⟩
        refine Sq.partB (fun hw => ?_) (fun hw => ?_)
        · refine Sq.notT .plain rfl rfl ?_
          refine Sq.nil ?_
          refine Eq.next ?_
          refine Cq.els rfl ?_
          refine Cq.skip ?_
          refine Eq.next ?_
          refine Cq.seq ?_
          refine Cq.region ?_
          refine Sq.move .plain rfl rfl ?_
          refine Sq.fieldAddr fld26_0 .plain rfl rfl ?_
          refine Sq.loadB one3 .plain rfl rfl hB20 rfl ?_
          have hd92 := hB20.lt
          have hd93 := hB40.lt
          have hd94 := hB61.lt
          refine Sq.call fn41 .plain rfl rfl (restrictW_c s74 a8.al (by first | omega | exact Nat.le_trans (restrictW_size _ _) (by omega)) _) ?_
          rintro _ w90 ⟨rfl, e91⟩
          have hs95 := Below.size E
          have hs96 := Below.size e91
          replace E := E.trans e91
          replace hn11 := hn11.ext e91
          replace ha12 := ha12.ext e91
          replace hB20 := hB20.ext e91
          replace hn33 := hn33.ext e91
          replace ha34 := ha34.ext e91
          replace hB40 := hB40.ext e91
          replace hn54 := hn54.ext e91
          replace ha55 := ha55.ext e91
          replace hB61 := hB61.ext e91
          refine Sq.assign .plain rfl rfl ?_
          refine Sq.nil ?_
          refine Eq.next ?_
          refine Cq.seq ?_
          refine Cq.drawS 16 (fun w' => Blk w' b37 26 [Value.int .i64 ((extend a8 k7).al), nx31, ac32] ∧ Blk w' b17 26 [Value.int .i64 a8.al, nx9, ac10]) mixed (⟨hB40, hB20⟩) (fun w97 e98 hS => ?_)
          clear hS
          have hs99 := Below.size e98
          replace E := E.trans e98
          replace hn11 := hn11.ext e98
          replace ha12 := ha12.ext e98
          replace hB20 := hB20.ext e98
          replace hn33 := hn33.ext e98
          replace ha34 := ha34.ext e98
          replace hB40 := hB40.ext e98
          replace hn54 := hn54.ext e98
          replace ha55 := ha55.ext e98
          replace hB61 := hB61.ext e98
          have E_w97 := E
          have hn11_w97 := hn11
          have ha12_w97 := ha12
          have hB20_w97 := hB20
          have hn33_w97 := hn33
          have ha34_w97 := ha34
          have hB40_w97 := hB40
          have hn54_w97 := hn54
          have ha55_w97 := ha55
          have hB61_w97 := hB61
          refine Gq.st 0 rfl (by kernel_rfl) rfl .plain rfl (fun _ _ _ h => h) ⟨hB40, hB20⟩ (fun w' x => Still.loadAgg agg26 rfl x.1 rfl) ?_
          refine Gq.st 1 rfl (by kernel_rfl) rfl .plain rfl (fun _ _ _ h => h) ⟨hB40, hB20⟩ (fun w' x => Still.move rfl) ?_
          refine Gq.st 3 rfl (by kernel_rfl) rfl .plain rfl (fun _ _ _ h => h) ⟨hB40, hB20⟩ (fun w' x => Still.loadAgg agg26 rfl x.2 rfl) ?_
          refine Gq.st 4 rfl (by kernel_rfl) rfl .plain rfl (fun _ _ _ h => h) ⟨hB40, hB20⟩ (fun w' x => Still.move rfl) ?_
          refine Gq.one 2 rfl (by kernel_rfl) ?_
          have hd103 := hB20.lt
          have hd104 := hB40.lt
          have hd105 := hB61.lt
          refine Sq.call fn28 .plain rfl rfl (accepts_c _ (extend a8 k7) _ _ (OwnRows.rows hn33) (Own.row ha34) s74 (by first | omega | exact Nat.le_trans (restrictW_size _ _) (by omega))) ?_
          rintro _ w101 ⟨rfl, e102⟩
          have hs106 := Below.size E
          have hs107 := Below.size e102
          replace E := E.trans e102
          replace hn11 := hn11.ext e102
          replace ha12 := ha12.ext e102
          replace hB20 := hB20.ext e102
          replace hn33 := hn33.ext e102
          replace ha34 := ha34.ext e102
          replace hB40 := hB40.ext e102
          replace hn54 := hn54.ext e102
          replace ha55 := ha55.ext e102
          replace hB61 := hB61.ext e102
          refine Sq.nil ?_
          refine Eq.goes (fun _ => ⟨hB40, hB20⟩) ?_
          refine Gq.one 5 rfl (by kernel_rfl) ?_
          have hd111 := hB20.lt
          have hd112 := hB40.lt
          have hd113 := hB61.lt
          refine Sq.call fn28 .plain rfl rfl (accepts_c _ a8 _ _ hn11 ha12 (restrictW s74 a8.al) (by first | omega | exact Nat.le_trans (restrictW_size _ _) (by omega))) ?_
          rintro _ w109 ⟨rfl, e110⟩
          have hs114 := Below.size E
          have hs115 := Below.size e110
          replace E := E.trans e110
          replace hn11 := hn11.ext e110
          replace ha12 := ha12.ext e110
          replace hB20 := hB20.ext e110
          replace hn33 := hn33.ext e110
          replace ha34 := ha34.ext e110
          replace hB40 := hB40.ext e110
          replace hn54 := hn54.ext e110
          replace ha55 := ha55.ext e110
          replace hB61 := hB61.ext e110
          refine Sq.nil ?_
          refine Eq.goes (fun _ => ⟨hB40, hB20⟩) ?_
          refine Gq.st 6 rfl (by kernel_rfl) rfl .plain rfl (fun _ _ _ h => h) ⟨hB40, hB20⟩ (fun w' x => Still.eqlB und4 rfl rfl) ?_
          refine Gq.beT (by rw [accepts_ext hv hk hw, restrictW_good (within_all hw) (validA_spec.1 hv).1]; exact beq_self_eq_true _) ?_
          refine Gq.st 7 rfl (by kernel_rfl) rfl .plain rfl (fun _ _ _ h => h) ⟨hB40, hB20⟩ (fun w' x => Still.move rfl) ?_
          refine Gq.st 8 rfl (by kernel_rfl) rfl (.met rfl rfl rfl) rfl (fun _ _ _ h => h) ⟨hB40, hB20⟩ (fun w' x => Still.loadAgg agg26 rfl x.1 rfl) ?_
          refine Gq.st 9 rfl (by kernel_rfl) rfl (.met rfl rfl rfl) rfl (fun _ _ _ h => h) ⟨hB40, hB20⟩ (fun w' x => Still.move rfl) ?_
          refine Gq.st 11 rfl (by kernel_rfl) rfl (.met rfl rfl rfl) rfl (fun _ _ _ h => h) ⟨hB40, hB20⟩ (fun w' x => Still.loadAgg agg26 rfl x.2 rfl) ?_
          refine Gq.st 12 rfl (by kernel_rfl) rfl (.met rfl rfl rfl) rfl (fun _ _ _ h => h) ⟨hB40, hB20⟩ (fun w' x => Still.move rfl) ?_
          refine Gq.one 10 rfl (by kernel_rfl) ?_
          have hd119 := hB20.lt
          have hd120 := hB40.lt
          have hd121 := hB61.lt
          refine Sq.call fn31 (.met rfl rfl rfl) rfl rfl (after_c _ (extend a8 k7) _ _ (OwnRows.rows hn33) (Own.row ha34) s74 (by first | omega | exact Nat.le_trans (restrictW_size _ _) (by omega))) ?_
          rintro _ w117 ⟨rfl, e118⟩
          have hs122 := Below.size E
          have hs123 := Below.size e118
          replace E := E.trans e118
          replace hn11 := hn11.ext e118
          replace ha12 := ha12.ext e118
          replace hB20 := hB20.ext e118
          replace hn33 := hn33.ext e118
          replace ha34 := ha34.ext e118
          replace hB40 := hB40.ext e118
          replace hn54 := hn54.ext e118
          replace ha55 := ha55.ext e118
          replace hB61 := hB61.ext e118
          refine Sq.nil ?_
          refine Eq.goes (fun _ => ⟨hB40, hB20⟩) ?_
          refine Gq.one 13 rfl (by kernel_rfl) ?_
          have hd127 := hB20.lt
          have hd128 := hB40.lt
          have hd129 := hB61.lt
          refine Sq.call fn31 (.met rfl rfl rfl) rfl rfl (after_c _ a8 _ _ hn11 ha12 (restrictW s74 a8.al) (by first | omega | exact Nat.le_trans (restrictW_size _ _) (by omega))) ?_
          rintro _ w125 ⟨rfl, e126⟩
          have hs130 := Below.size E
          have hs131 := Below.size e126
          replace E := E.trans e126
          replace hn11 := hn11.ext e126
          replace ha12 := ha12.ext e126
          replace hB20 := hB20.ext e126
          replace hn33 := hn33.ext e126
          replace ha34 := ha34.ext e126
          replace hB40 := hB40.ext e126
          replace hn54 := hn54.ext e126
          replace ha55 := ha55.ext e126
          replace hB61 := hB61.ext e126
          refine Sq.nil ?_
          refine Eq.goes (fun _ => ⟨hB40, hB20⟩) ?_
          refine Gq.st 14 rfl (by kernel_rfl) rfl (.met rfl rfl rfl) rfl (fun _ _ _ h => h) ⟨hB40, hB20⟩ (fun w' x => Still.eql rfl rfl) ?_
          refine Gq.isT (by rw [after_ext hv hk hw, restrictW_good (within_all hw) (validA_spec.1 hv).1]) ?_
          refine Gq.st 15 rfl (by kernel_rfl) rfl .plain rfl (fun _ _ _ h => h) ⟨hB40, hB20⟩ (fun w' x => Still.pickT rfl rfl) ?_
          refine Gq.one 16 rfl (by kernel_rfl) ?_
          refine Sq.assign .plain rfl rfl ?_
          refine Sq.nil ?_
          refine Eq.goes (fun h => absurd h (by decide)) ?_
          refine Gq.done (by kernel_rfl) ?_
          refine Eq.next ?_
          refine Cq.ret ?_
          refine Eq.ret1 rfl rfl ?_
          exact ⟨rfl, E⟩
        · refine Sq.notF .plain rfl rfl ?_
          refine Sq.nil ?_
          refine Eq.next ?_
          refine Cq.thn rfl ?_
          refine Cq.seq ?_
          refine Cq.region ?_
          refine Sq.loadAgg agg26 .plain rfl rfl hB40 rfl ?_
          refine Sq.move .plain rfl rfl ?_
          have hd135 := hB20.lt
          have hd136 := hB40.lt
          have hd137 := hB61.lt
          refine Sq.call fn28 .plain rfl rfl (accepts_c _ (extend a8 k7) _ _ (OwnRows.rows hn33) (Own.row ha34) s74 (by first | omega | exact Nat.le_trans (restrictW_size _ _) (by omega))) ?_
          rintro _ w133 ⟨rfl, e134⟩
          have hs138 := Below.size E
          have hs139 := Below.size e134
          replace E := E.trans e134
          replace hn11 := hn11.ext e134
          replace ha12 := ha12.ext e134
          replace hB20 := hB20.ext e134
          replace hn33 := hn33.ext e134
          replace ha34 := ha34.ext e134
          replace hB40 := hB40.ext e134
          replace hn54 := hn54.ext e134
          replace ha55 := ha55.ext e134
          replace hB61 := hB61.ext e134
          refine Sq.beF (accepts_out hw) ?_
          refine Sq.notF .plain rfl rfl ?_
          refine Sq.assign .plain rfl rfl ?_
          refine Sq.nil ?_
          refine Eq.next ?_
          refine Cq.ret ?_
          refine Eq.pastRet ?_
          refine Eq.ret1 rfl rfl ?_
          exact ⟨rfl, E⟩
      · refine Sq.call fn22 .plain rfl rfl (extend_c_F _ a8 _ _ hn11 ha12 k7 hC) ?_
        rintro _ w141 ⟨⟨_, rfl, nx143, ac144, rfl, hn145, ha146⟩, e142⟩
        have hs147 := Below.size E
        have hs148 := Below.size e142
        replace E := E.trans e142
        replace hn11 := hn11.ext e142
        replace ha12 := ha12.ext e142
        replace hB20 := hB20.ext e142
        refine Sq.move .plain rfl rfl ?_
        refine Sq.extract .plain rfl rfl rfl ?_
        refine Sq.extract .plain rfl rfl rfl ?_
        refine Sq.alloc zero26 .plain rfl (fun b149 w150 e151 hB152 hlo153 => ?_)
        have hd154 := Nat.le_trans (Below.size E) hlo153
        have hd155 := Nat.lt_of_lt_of_le hB20.lt hlo153
        have hs156 := Below.size e151
        replace E := E.trans e151
        replace hn11 := hn11.ext e151
        replace ha12 := ha12.ext e151
        replace hB20 := hB20.ext e151
        replace hn145 := hn145.ext e151
        replace ha146 := ha146.ext e151
        refine Sq.storeAgg agg26 .plain rfl rfl (one_cons rfl (one_cons (Rows.one (OwnRows.rows hn145)) (one_cons (Row.one (Own.row ha146)) one_nil))) hB152 rfl rfl (fun w157 g158 hB159 => ?_)
        have hs160 := World.grownBy.size g158
        replace E := E.grown g158 (fun k hk => by injection hk with hk; subst hk; omega)
        replace hn11 := hn11.stored g158 hB152 (by decide) (by decide)
        replace ha12 := ha12.stored g158 hB152 (by decide)
        replace hB20 := hB20.grown g158 (by intro h; injection h with h; omega)
        replace hn145 := hn145.stored g158 hB152 (by decide) (by decide)
        replace ha146 := ha146.stored g158 hB152 (by decide)
        replace hB152 := hB159
        refine Sq.assign .plain rfl rfl ?_
        refine Sq.nil ?_
        refine Eq.next ?_
        refine Cq.seq ?_
        refine Cq.region ?_
        refine Sq.loadAgg agg26 .plain rfl rfl hB20 rfl ?_
        refine Sq.move .plain rfl rfl ?_
        refine Sq.call fn23 .plain rfl rfl (sExtend_c_F _ a8 _ _ hn11 ha12 k7 hC) ?_
        rintro _ w162 ⟨⟨_, rfl, nx164, ac165, rfl, hn166, ha167⟩, e163⟩
        have hs168 := Below.size E
        have hs169 := Below.size e163
        replace E := E.trans e163
        replace hn11 := hn11.ext e163
        replace ha12 := ha12.ext e163
        replace hB20 := hB20.ext e163
        replace hn145 := hn145.ext e163
        replace ha146 := ha146.ext e163
        replace hB152 := hB152.ext e163
        refine Sq.move .plain rfl rfl ?_
        refine Sq.extract .plain rfl rfl rfl ?_
        refine Sq.extract .plain rfl rfl rfl ?_
        refine Sq.alloc zero26 .plain rfl (fun b170 w171 e172 hB173 hlo174 => ?_)
        have hd175 := Nat.le_trans (Below.size E) hlo174
        have hd176 := Nat.lt_of_lt_of_le hB20.lt hlo174
        have hd177 := Nat.lt_of_lt_of_le hB152.lt hlo174
        have hs178 := Below.size e172
        replace E := E.trans e172
        replace hn11 := hn11.ext e172
        replace ha12 := ha12.ext e172
        replace hB20 := hB20.ext e172
        replace hn145 := hn145.ext e172
        replace ha146 := ha146.ext e172
        replace hB152 := hB152.ext e172
        replace hn166 := hn166.ext e172
        replace ha167 := ha167.ext e172
        refine Sq.storeAgg agg26 .plain rfl rfl (one_cons rfl (one_cons (Rows.one (OwnRows.rows hn166)) (one_cons (Row.one (Own.row ha167)) one_nil))) hB173 rfl rfl (fun w179 g180 hB181 => ?_)
        have hs182 := World.grownBy.size g180
        replace E := E.grown g180 (fun k hk => by injection hk with hk; subst hk; omega)
        replace hn11 := hn11.stored g180 hB173 (by decide) (by decide)
        replace ha12 := ha12.stored g180 hB173 (by decide)
        replace hB20 := hB20.grown g180 (by intro h; injection h with h; omega)
        replace hn145 := hn145.stored g180 hB173 (by decide) (by decide)
        replace ha146 := ha146.stored g180 hB173 (by decide)
        replace hB152 := hB152.grown g180 (by intro h; injection h with h; omega)
        replace hn166 := hn166.stored g180 hB173 (by decide) (by decide)
        replace ha167 := ha167.stored g180 hB173 (by decide)
        replace hB173 := hB181
        refine Sq.assign .plain rfl rfl ?_
        refine Sq.nil ?_
        refine Eq.next ?_
        refine Cq.seq ?_
        refine Cq.region ?_
        refine Sq.move .plain rfl rfl ?_
        have hd188 := hB20.lt
        have hd189 := hB152.lt
        have hd190 := hB173.lt
        refine Sq.call fn40 .plain rfl rfl (drawWord_c _ _ _ _ _ (hc'.ext E) hcap') ?_
        rintro _ w184 ⟨⟨s186, rfl, hsz187⟩, e185⟩
        have hs191 := Below.size E
        have hs192 := Below.size e185
        replace E := E.trans e185
        replace hn11 := hn11.ext e185
        replace ha12 := ha12.ext e185
        replace hB20 := hB20.ext e185
        replace hn145 := hn145.ext e185
        replace ha146 := ha146.ext e185
        replace hB152 := hB152.ext e185
        replace hn166 := hn166.ext e185
        replace ha167 := ha167.ext e185
        replace hB173 := hB173.ext e185
        refine Sq.assign .plain rfl rfl ?_
        refine Sq.nil ?_
        refine Eq.next ?_
        refine Cq.seq ?_
        refine Cq.seq ?_
        refine Cq.region ?_
        refine Sq.loadAgg agg26 .plain rfl rfl hB152 rfl ?_
        refine Sq.loadAgg agg26 .plain rfl rfl hB173 rfl ?_
        have hd196 := hB20.lt
        have hd197 := hB152.lt
        have hd198 := hB173.lt
        refine Sq.call fn18 .plain rfl rfl (agAutomata_c _ zeroA zeroA _ _ _ _ (OwnRows.rows hn145) (Own.row ha146) (OwnRows.rows hn166) (Own.row ha167) (by first | exact fit_zero | exact fit_of_valid (by first | assumption | exact extend_valid hv hk | exact compl_valid' (extend_valid hv hk) | exact hv) | assumption)) ?_
        rintro _ w194 ⟨rfl, e195⟩
        have hs199 := Below.size E
        have hs200 := Below.size e195
        replace E := E.trans e195
        replace hn11 := hn11.ext e195
        replace ha12 := ha12.ext e195
        replace hB20 := hB20.ext e195
        replace hn145 := hn145.ext e195
        replace ha146 := ha146.ext e195
        replace hB152 := hB152.ext e195
        replace hn166 := hn166.ext e195
        replace ha167 := ha167.ext e195
        replace hB173 := hB173.ext e195
        refine Sq.beT (by exact eqA_refl _) ?_
        refine Sq.notT .plain rfl rfl ?_
        refine Sq.move .plain rfl rfl ?_
        refine Sq.move (.met rfl rfl rfl) rfl rfl ?_
        refine Sq.move (.met rfl rfl rfl) rfl rfl ?_
        refine Sq.neqB und4 (.met rfl rfl rfl) rfl rfl rfl ?_
        refine Sq.pickF .plain rfl rfl rfl ?_
        refine Sq.move .plain rfl rfl ?_
        refine Sq.move (.met rfl rfl rfl) rfl rfl ?_
        refine Sq.notF (.met rfl rfl rfl) rfl rfl ?_
        refine Sq.pickF .plain rfl rfl rfl ?_
        refine Sq.nil ?_
        refine Eq.next ?_
        refine Cq.thn rfl ?_
        refine Cq.seq ?_
        refine Cq.region ?_
        refine Sq.loadAgg agg26 .plain rfl rfl hB152 rfl ?_
        refine Sq.loadAgg agg26 .plain rfl rfl hB173 rfl ?_
        have hd204 := hB20.lt
        have hd205 := hB152.lt
        have hd206 := hB173.lt
        refine Sq.call fn18 .plain rfl rfl (agAutomata_c _ zeroA zeroA _ _ _ _ (OwnRows.rows hn145) (Own.row ha146) (OwnRows.rows hn166) (Own.row ha167) (by first | exact fit_zero | exact fit_of_valid (by first | assumption | exact extend_valid hv hk | exact compl_valid' (extend_valid hv hk) | exact hv) | assumption)) ?_
        rintro _ w202 ⟨rfl, e203⟩
        have hs207 := Below.size E
        have hs208 := Below.size e203
        replace E := E.trans e203
        replace hn11 := hn11.ext e203
        replace ha12 := ha12.ext e203
        replace hB20 := hB20.ext e203
        replace hn145 := hn145.ext e203
        replace ha146 := ha146.ext e203
        replace hB152 := hB152.ext e203
        replace hn166 := hn166.ext e203
        replace ha167 := ha167.ext e203
        replace hB173 := hB173.ext e203
        refine Sq.beT (by exact eqA_refl _) ?_
        refine Sq.move .plain rfl rfl ?_
        refine Sq.move (.met rfl rfl rfl) rfl rfl ?_
        refine Sq.move (.met rfl rfl rfl) rfl rfl ?_
        refine Sq.eqlB und4 (.met rfl rfl rfl) rfl rfl rfl ?_
        refine Sq.pickT .plain rfl rfl rfl ?_
        refine Sq.assign .plain rfl rfl ?_
        refine Sq.nil ?_
        refine Eq.next ?_
        refine Cq.ret ?_
        refine Eq.pastRet ?_
        refine Eq.ret1 rfl rfl ?_
        exact ⟨rfl, E⟩

end Go.Proofs.Ytmlhgkfbiapakaa
