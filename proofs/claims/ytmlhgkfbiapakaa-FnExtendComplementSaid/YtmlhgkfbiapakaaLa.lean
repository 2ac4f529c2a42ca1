/-
  Walks, printed by a program out of the translation and a contract for each function; each step is one law.
-/
import Derived.Test.YtmlhgkfbiapakaaWi
import Derived.Test.YtmlhgkfbiapakaaWc
import Derived.Test.YtmlhgkfbiapakaaWk
import Derived.Test.YtmlhgkfbiapakaaWl
set_option linter.unusedSimpArgs false
set_option linter.unusedVariables false
namespace Go.Proofs.Ytmlhgkfbiapakaa
open Go.RowKit

set_option maxRecDepth 100000 in
theorem lExtendOwn (w0 : World) (e : TypeId) (a0 : Option Addr) (c0 : Nat) (cs : List UInt8) (hc : Bytes w0 e (.slice a0 cs.length c0) cs) (hcap : cs.length ≤ c0) : Ret Try.prog 4 #[Value.slice a0 cs.length c0] w0 (fun v w => v = .bool true ∧ Ext w0 w) := by
  have E := Ext.refl w0
  refine Ret.of (args := [Value.slice a0 cs.length c0]) Try.func4 rfl rfl rfl ?_
  rintro _ rfl
  show Cq _ _ _ _ [(0, Value.slice a0 cs.length c0)] _
  refine Cq.seq ?_
  refine Cq.region ?_
  refine Sq.assign .plain rfl rfl ?_
  refine Sq.nil ?_
  refine Eq.next ?_
  refine Cq.seq ?_
  refine Cq.seq ?_
  refine Cq.region ?_
  refine Sq.move .plain rfl rfl ?_
  refine Sq.lenBytes (hc.ext E) .plain rfl und22 rfl ?_
  refine Sq.gtr .plain rfl rfl rfl ?_
  refine Sq.part (fun c1 => ?_) (fun c1 => ?_)
  · refine Sq.nil ?_
    refine Eq.next ?_
    refine Cq.thn rfl ?_
    refine Cq.seq ?_
    refine Cq.region ?_
    refine Sq.assign .plain rfl rfl ?_
    refine Sq.nil ?_
    refine Eq.next ?_
    refine Cq.ret ?_
    refine Eq.pastRet ?_
    refine Eq.ret1 rfl rfl ?_
    exact ⟨rfl, E⟩
  · refine Sq.nil ?_
    refine Eq.next ?_
    refine Cq.els rfl ?_
    refine Cq.skip ?_
    refine Eq.next ?_
    refine Cq.seq ?_
    refine Cq.region ?_
    refine Sq.move .plain rfl rfl ?_
    refine Sq.call fn21 .plain rfl rfl (drawExtend_c _ _ _ _ _ (hc.ext E) hcap) ?_
    rintro _ w3 ⟨⟨u5, k6, a7, rfl, ⟨nx8, ac9, rfl, hn10, ha11⟩, hsm12, hk13⟩, e4⟩
    have hs14 := Below.size E
    have hs15 := Below.size e4
    replace E := E.trans e4
    refine Sq.move .plain rfl rfl ?_
    refine Sq.extract .plain rfl rfl rfl ?_
    refine Sq.extract .plain rfl rfl rfl ?_
    refine Sq.alloc zero26 .plain rfl (fun b16 w17 e18 hB19 hlo20 => ?_)
    have hd21 := Nat.le_trans (Below.size E) hlo20
    have hs22 := Below.size e18
    replace E := E.trans e18
    replace hn10 := hn10.ext e18
    replace ha11 := ha11.ext e18
    refine Sq.storeAgg agg26 .plain rfl rfl (one_cons rfl (one_cons (Rows.one hn10) (one_cons (Row.one ha11) one_nil))) hB19 rfl rfl (fun w23 g24 hB25 => ?_)
    have hs26 := World.grownBy.size g24
    replace E := E.grown g24 (fun k hk => by injection hk with hk; subst hk; omega)
    replace hn10 := hn10.stored g24 hB19 (by decide) (by decide)
    replace ha11 := ha11.stored g24 hB19 (by decide)
    replace hB19 := hB25
    refine Sq.assign .plain rfl rfl ?_
    refine Sq.nil ?_
    refine Eq.next ?_
    refine Cq.seq ?_
    refine Cq.region ?_
    refine Sq.loadAgg agg26 .plain rfl rfl hB19 rfl ?_
    refine Sq.move .plain rfl rfl ?_
    rcases Bool.eq_false_or_eq_true (validA a7 && decide (0 ≤ k6 ∧ k6 ≤ 63)) with hC | hC
    · obtain ⟨hv, hk⟩ := cond_spec hC
      refine Sq.call fn22 .plain rfl rfl (extend_c_T _ a7 _ _ hn10 ha11 k6 hC) ?_
      rintro _ w28 ⟨⟨_, rfl, nx30, ac31, rfl, hn32, ha33⟩, e29⟩
      have hs34 := Below.size E
      have hs35 := Below.size e29
      replace E := E.trans e29
      replace hn10 := hn10.ext e29
      replace ha11 := ha11.ext e29
      replace hB19 := hB19.ext e29
      refine Sq.move .plain rfl rfl ?_
      refine Sq.extract .plain rfl rfl rfl ?_
      refine Sq.extract .plain rfl rfl rfl ?_
      refine Sq.alloc zero26 .plain rfl (fun b36 w37 e38 hB39 hlo40 => ?_)
      have hd41 := Nat.le_trans (Below.size E) hlo40
      have hd42 := Nat.lt_of_lt_of_le hB19.lt hlo40
      have hs43 := Below.size e38
      replace E := E.trans e38
      replace hn10 := hn10.ext e38
      replace ha11 := ha11.ext e38
      replace hB19 := hB19.ext e38
      replace hn32 := hn32.ext e38
      replace ha33 := ha33.ext e38
      refine Sq.storeAgg agg26 .plain rfl rfl (one_cons rfl (one_cons (Rows.one (OwnRows.rows hn32)) (one_cons (Row.one (Own.row ha33)) one_nil))) hB39 rfl rfl (fun w44 g45 hB46 => ?_)
      have hs47 := World.grownBy.size g45
      replace E := E.grown g45 (fun k hk => by injection hk with hk; subst hk; omega)
      replace hn10 := hn10.stored g45 hB39 (by decide) (by decide)
      replace ha11 := ha11.stored g45 hB39 (by decide)
      replace hB19 := hB19.grown g45 (by intro h; injection h with h; omega)
      replace hn32 := hn32.stored g45 hB39 (by decide) (by decide)
      replace ha33 := ha33.stored g45 hB39 (by decide)
      replace hB39 := hB46
      refine Sq.assign .plain rfl rfl ?_
      refine Sq.nil ?_
      refine Eq.next ?_
      refine Cq.seq ?_
      refine Cq.region ?_
      refine Sq.loadAgg agg26 .plain rfl rfl hB19 rfl ?_
      refine Sq.move .plain rfl rfl ?_
      refine Sq.call fn23 .plain rfl rfl (sExtend_c_T _ a7 _ _ hn10 ha11 k6 hC) ?_
      rintro _ w49 ⟨⟨_, rfl, nx51, ac52, rfl, hn53, ha54⟩, e50⟩
      have hs55 := Below.size E
      have hs56 := Below.size e50
      replace E := E.trans e50
      replace hn10 := hn10.ext e50
      replace ha11 := ha11.ext e50
      replace hB19 := hB19.ext e50
      replace hn32 := hn32.ext e50
      replace ha33 := ha33.ext e50
      replace hB39 := hB39.ext e50
      refine Sq.move .plain rfl rfl ?_
      refine Sq.extract .plain rfl rfl rfl ?_
      refine Sq.extract .plain rfl rfl rfl ?_
      refine Sq.alloc zero26 .plain rfl (fun b57 w58 e59 hB60 hlo61 => ?_)
      have hd62 := Nat.le_trans (Below.size E) hlo61
      have hd63 := Nat.lt_of_lt_of_le hB19.lt hlo61
      have hd64 := Nat.lt_of_lt_of_le hB39.lt hlo61
      have hs65 := Below.size e59
      replace E := E.trans e59
      replace hn10 := hn10.ext e59
      replace ha11 := ha11.ext e59
      replace hB19 := hB19.ext e59
      replace hn32 := hn32.ext e59
      replace ha33 := ha33.ext e59
      replace hB39 := hB39.ext e59
      replace hn53 := hn53.ext e59
      replace ha54 := ha54.ext e59
      refine Sq.storeAgg agg26 .plain rfl rfl (one_cons rfl (one_cons (Rows.one (OwnRows.rows hn53)) (one_cons (Row.one (Own.row ha54)) one_nil))) hB60 rfl rfl (fun w66 g67 hB68 => ?_)
      have hs69 := World.grownBy.size g67
      replace E := E.grown g67 (fun k hk => by injection hk with hk; subst hk; omega)
      replace hn10 := hn10.stored g67 hB60 (by decide) (by decide)
      replace ha11 := ha11.stored g67 hB60 (by decide)
      replace hB19 := hB19.grown g67 (by intro h; injection h with h; omega)
      replace hn32 := hn32.stored g67 hB60 (by decide) (by decide)
      replace ha33 := ha33.stored g67 hB60 (by decide)
      replace hB39 := hB39.grown g67 (by intro h; injection h with h; omega)
      replace hn53 := hn53.stored g67 hB60 (by decide) (by decide)
      replace ha54 := ha54.stored g67 hB60 (by decide)
      replace hB60 := hB68
      refine Sq.assign .plain rfl rfl ?_
      refine Sq.nil ?_
      refine Eq.next ?_
      refine Cq.seq ?_
      refine Cq.seq ?_
      refine Cq.region ?_
      refine Sq.loadAgg agg26 .plain rfl rfl hB39 rfl ?_
      refine Sq.loadAgg agg26 .plain rfl rfl hB60 rfl ?_
      have hd73 := hB19.lt
      have hd74 := hB39.lt
      have hd75 := hB60.lt
      refine Sq.call fn18 .plain rfl rfl (agAutomata_c _ (extend a7 k6) (extend a7 k6) _ _ _ _ (OwnRows.rows hn32) (Own.row ha33) (OwnRows.rows hn53) (Own.row ha54) (by first | exact fit_zero | exact fit_of_valid (by first | assumption | exact extend_valid hv hk | exact compl_valid' (extend_valid hv hk) | (rw [extend_own hv hk]; exact extend_valid hv hk) | (rw [extend_zero hv]; exact hv)) | assumption)) ?_
      rintro _ w71 ⟨rfl, e72⟩
      have hs76 := Below.size E
      have hs77 := Below.size e72
      replace E := E.trans e72
      replace hn10 := hn10.ext e72
      replace ha11 := ha11.ext e72
      replace hB19 := hB19.ext e72
      replace hn32 := hn32.ext e72
      replace ha33 := ha33.ext e72
      replace hB39 := hB39.ext e72
      replace hn53 := hn53.ext e72
      replace ha54 := ha54.ext e72
      replace hB60 := hB60.ext e72
      refine Sq.beT (by exact eqA_refl _) ?_
      refine Sq.notT .plain rfl rfl ?_
      refine Sq.move .plain rfl rfl ?_
      refine Sq.move (.met rfl rfl rfl) rfl rfl ?_
      refine Sq.move (.met rfl rfl rfl) rfl rfl ?_
      refine Sq.neqB und4 (.met rfl rfl rfl) rfl rfl rfl ?_
      refine Sq.pickF .plain rfl rfl rfl ?_
      refine Sq.move .plain rfl rfl ?_
      refine Sq.move (.met rfl rfl rfl) rfl rfl ?_
      refine Sq.notT (.met rfl rfl rfl) rfl rfl ?_
      refine Sq.pickF .plain rfl rfl rfl ?_
      refine Sq.nil ?_
      refine Eq.next ?_
      refine Cq.els rfl ?_
      refine Cq.skip ?_
      refine Eq.next ?_
      refine Cq.seq ?_
      refine Cq.region ?_
      refine Sq.loadAgg agg26 .plain rfl rfl hB39 rfl ?_
      refine Sq.move .plain rfl rfl ?_
      refine Sq.call fn22 .plain rfl rfl (extend_c_T _ (extend a7 k6) _ _ (OwnRows.rows hn32) (Own.row ha33) k6 (by exact cond_mk (extend_valid hv hk) hk)) ?_
      rintro _ w79 ⟨⟨_, rfl, nx81, ac82, rfl, hn83, ha84⟩, e80⟩
      have hs85 := Below.size E
      have hs86 := Below.size e80
      replace E := E.trans e80
      replace hn10 := hn10.ext e80
      replace ha11 := ha11.ext e80
      replace hB19 := hB19.ext e80
      replace hn32 := hn32.ext e80
      replace ha33 := ha33.ext e80
      replace hB39 := hB39.ext e80
      replace hn53 := hn53.ext e80
      replace ha54 := ha54.ext e80
      replace hB60 := hB60.ext e80
      refine Sq.move .plain rfl rfl ?_
      refine Sq.extract .plain rfl rfl rfl ?_
      refine Sq.extract .plain rfl rfl rfl ?_
      refine Sq.alloc zero26 .plain rfl (fun b87 w88 e89 hB90 hlo91 => ?_)
      have hd92 := Nat.le_trans (Below.size E) hlo91
      have hd93 := Nat.lt_of_lt_of_le hB19.lt hlo91
      have hd94 := Nat.lt_of_lt_of_le hB39.lt hlo91
      have hd95 := Nat.lt_of_lt_of_le hB60.lt hlo91
      have hs96 := Below.size e89
      replace E := E.trans e89
      replace hn10 := hn10.ext e89
      replace ha11 := ha11.ext e89
      replace hB19 := hB19.ext e89
      replace hn32 := hn32.ext e89
      replace ha33 := ha33.ext e89
      replace hB39 := hB39.ext e89
      replace hn53 := hn53.ext e89
      replace ha54 := ha54.ext e89
      replace hB60 := hB60.ext e89
      replace hn83 := hn83.ext e89
      replace ha84 := ha84.ext e89
      refine Sq.storeAgg agg26 .plain rfl rfl (one_cons rfl (one_cons (Rows.one (OwnRows.rows hn83)) (one_cons (Row.one (Own.row ha84)) one_nil))) hB90 rfl rfl (fun w97 g98 hB99 => ?_)
      have hs100 := World.grownBy.size g98
      replace E := E.grown g98 (fun k hk => by injection hk with hk; subst hk; omega)
      replace hn10 := hn10.stored g98 hB90 (by decide) (by decide)
      replace ha11 := ha11.stored g98 hB90 (by decide)
      replace hB19 := hB19.grown g98 (by intro h; injection h with h; omega)
      replace hn32 := hn32.stored g98 hB90 (by decide) (by decide)
      replace ha33 := ha33.stored g98 hB90 (by decide)
      replace hB39 := hB39.grown g98 (by intro h; injection h with h; omega)
      replace hn53 := hn53.stored g98 hB90 (by decide) (by decide)
      replace ha54 := ha54.stored g98 hB90 (by decide)
      replace hB60 := hB60.grown g98 (by intro h; injection h with h; omega)
      replace hn83 := hn83.stored g98 hB90 (by decide) (by decide)
      replace ha84 := ha84.stored g98 hB90 (by decide)
      replace hB90 := hB99
      refine Sq.assign .plain rfl rfl ?_
      refine Sq.nil ?_
      refine Eq.next ?_
      refine Cq.seq ?_
      refine Cq.region ?_
      refine Sq.loadAgg agg26 .plain rfl rfl hB19 rfl ?_
      refine Sq.call fn22 .plain rfl rfl (extend_c_T _ a7 _ _ hn10 ha11 0 (by exact cond_mk hv (by omega))) ?_
      rintro _ w102 ⟨⟨_, rfl, nx104, ac105, rfl, hn106, ha107⟩, e103⟩
      have hs108 := Below.size E
      have hs109 := Below.size e103
      replace E := E.trans e103
      replace hn10 := hn10.ext e103
      replace ha11 := ha11.ext e103
      replace hB19 := hB19.ext e103
      replace hn32 := hn32.ext e103
      replace ha33 := ha33.ext e103
      replace hB39 := hB39.ext e103
      replace hn53 := hn53.ext e103
      replace ha54 := ha54.ext e103
      replace hB60 := hB60.ext e103
      replace hn83 := hn83.ext e103
      replace ha84 := ha84.ext e103
      replace hB90 := hB90.ext e103
      refine Sq.move .plain rfl rfl ?_
      refine Sq.extract .plain rfl rfl rfl ?_
      refine Sq.extract .plain rfl rfl rfl ?_
      refine Sq.alloc zero26 .plain rfl (fun b110 w111 e112 hB113 hlo114 => ?_)
      have hd115 := Nat.le_trans (Below.size E) hlo114
      have hd116 := Nat.lt_of_lt_of_le hB19.lt hlo114
      have hd117 := Nat.lt_of_lt_of_le hB39.lt hlo114
      have hd118 := Nat.lt_of_lt_of_le hB60.lt hlo114
      have hd119 := Nat.lt_of_lt_of_le hB90.lt hlo114
      have hs120 := Below.size e112
      replace E := E.trans e112
      replace hn10 := hn10.ext e112
      replace ha11 := ha11.ext e112
      replace hB19 := hB19.ext e112
      replace hn32 := hn32.ext e112
      replace ha33 := ha33.ext e112
      replace hB39 := hB39.ext e112
      replace hn53 := hn53.ext e112
      replace ha54 := ha54.ext e112
      replace hB60 := hB60.ext e112
      replace hn83 := hn83.ext e112
      replace ha84 := ha84.ext e112
      replace hB90 := hB90.ext e112
      replace hn106 := hn106.ext e112
      replace ha107 := ha107.ext e112
      refine Sq.storeAgg agg26 .plain rfl rfl (one_cons rfl (one_cons (Rows.one (OwnRows.rows hn106)) (one_cons (Row.one (Own.row ha107)) one_nil))) hB113 rfl rfl (fun w121 g122 hB123 => ?_)
      have hs124 := World.grownBy.size g122
      replace E := E.grown g122 (fun k hk => by injection hk with hk; subst hk; omega)
      replace hn10 := hn10.stored g122 hB113 (by decide) (by decide)
      replace ha11 := ha11.stored g122 hB113 (by decide)
      replace hB19 := hB19.grown g122 (by intro h; injection h with h; omega)
      replace hn32 := hn32.stored g122 hB113 (by decide) (by decide)
      replace ha33 := ha33.stored g122 hB113 (by decide)
      replace hB39 := hB39.grown g122 (by intro h; injection h with h; omega)
      replace hn53 := hn53.stored g122 hB113 (by decide) (by decide)
      replace ha54 := ha54.stored g122 hB113 (by decide)
      replace hB60 := hB60.grown g122 (by intro h; injection h with h; omega)
      replace hn83 := hn83.stored g122 hB113 (by decide) (by decide)
      replace ha84 := ha84.stored g122 hB113 (by decide)
      replace hB90 := hB90.grown g122 (by intro h; injection h with h; omega)
      replace hn106 := hn106.stored g122 hB113 (by decide) (by decide)
      replace ha107 := ha107.stored g122 hB113 (by decide)
      replace hB113 := hB123
      refine Sq.assign .plain rfl rfl ?_
      refine Sq.nil ?_
      refine Eq.next ?_
      refine Cq.seq ?_
      refine Cq.region ?_
      refine Sq.move .plain rfl rfl ?_
      refine Sq.move .plain rfl rfl ?_
      refine Sq.move (.met rfl rfl rfl) rfl rfl ?_
      refine Sq.pickT .plain rfl rfl rfl ?_
      refine Sq.move .plain rfl rfl ?_
      refine Sq.loadAgg agg26 (.met rfl rfl rfl) rfl rfl hB90 rfl ?_
      refine Sq.loadAgg agg26 (.met rfl rfl rfl) rfl rfl hB39 rfl ?_
      have hd128 := hB19.lt
      have hd129 := hB39.lt
      have hd130 := hB60.lt
      have hd131 := hB90.lt
      have hd132 := hB113.lt
      refine Sq.call fn18 (.met rfl rfl rfl) rfl rfl (agAutomata_c _ ((extend (extend a7 k6) k6)) (extend a7 k6) _ _ _ _ (OwnRows.rows hn83) (Own.row ha84) (OwnRows.rows hn32) (Own.row ha33) (by first | exact fit_zero | exact fit_of_valid (by first | assumption | exact extend_valid hv hk | exact compl_valid' (extend_valid hv hk) | (rw [extend_own hv hk]; exact extend_valid hv hk) | (rw [extend_zero hv]; exact hv)) | assumption)) ?_
      rintro _ w126 ⟨rfl, e127⟩
      have hs133 := Below.size E
      have hs134 := Below.size e127
      replace E := E.trans e127
      replace hn10 := hn10.ext e127
      replace ha11 := ha11.ext e127
      replace hB19 := hB19.ext e127
      replace hn32 := hn32.ext e127
      replace ha33 := ha33.ext e127
      replace hB39 := hB39.ext e127
      replace hn53 := hn53.ext e127
      replace ha54 := ha54.ext e127
      replace hB60 := hB60.ext e127
      replace hn83 := hn83.ext e127
      replace ha84 := ha84.ext e127
      replace hB90 := hB90.ext e127
      replace hn106 := hn106.ext e127
      replace ha107 := ha107.ext e127
      replace hB113 := hB113.ext e127
      refine Sq.beT (by rw [extend_own hv hk]; exact eqA_refl _) ?_
      refine Sq.pickT .plain rfl rfl rfl ?_
      refine Sq.move .plain rfl rfl ?_
      refine Sq.loadAgg agg26 (.met rfl rfl rfl) rfl rfl hB113 rfl ?_
      refine Sq.loadAgg agg26 (.met rfl rfl rfl) rfl rfl hB19 rfl ?_
      have hd138 := hB19.lt
      have hd139 := hB39.lt
      have hd140 := hB60.lt
      have hd141 := hB90.lt
      have hd142 := hB113.lt
      refine Sq.call fn18 (.met rfl rfl rfl) rfl rfl (agAutomata_c _ (extend a7 0) a7 _ _ _ _ (OwnRows.rows hn106) (Own.row ha107) hn10 ha11 (by first | exact fit_zero | exact fit_of_valid (by first | assumption | exact extend_valid hv hk | exact compl_valid' (extend_valid hv hk) | (rw [extend_own hv hk]; exact extend_valid hv hk) | (rw [extend_zero hv]; exact hv)) | assumption)) ?_
      rintro _ w136 ⟨rfl, e137⟩
      have hs143 := Below.size E
      have hs144 := Below.size e137
      replace E := E.trans e137
      replace hn10 := hn10.ext e137
      replace ha11 := ha11.ext e137
      replace hB19 := hB19.ext e137
      replace hn32 := hn32.ext e137
      replace ha33 := ha33.ext e137
      replace hB39 := hB39.ext e137
      replace hn53 := hn53.ext e137
      replace ha54 := ha54.ext e137
      replace hB60 := hB60.ext e137
      replace hn83 := hn83.ext e137
      replace ha84 := ha84.ext e137
      replace hB90 := hB90.ext e137
      replace hn106 := hn106.ext e137
      replace ha107 := ha107.ext e137
      replace hB113 := hB113.ext e137
      refine Sq.beT (by rw [extend_zero hv]; exact eqA_refl _) ?_
      refine Sq.pickT .plain rfl rfl rfl ?_
      refine Sq.move .plain rfl rfl ?_
      refine Sq.loadAgg agg26 (.met rfl rfl rfl) rfl rfl hB39 rfl ?_
      have hd148 := hB19.lt
      have hd149 := hB39.lt
      have hd150 := hB60.lt
      have hd151 := hB90.lt
      have hd152 := hB113.lt
      refine Sq.call fn19 (.met rfl rfl rfl) rfl rfl (valid_c _ (extend a7 k6) _ _ (OwnRows.rows hn32) (Own.row ha33)) ?_
      rintro _ w146 ⟨rfl, e147⟩
      have hs153 := Below.size E
      have hs154 := Below.size e147
      replace E := E.trans e147
      replace hn10 := hn10.ext e147
      replace ha11 := ha11.ext e147
      replace hB19 := hB19.ext e147
      replace hn32 := hn32.ext e147
      replace ha33 := ha33.ext e147
      replace hB39 := hB39.ext e147
      replace hn53 := hn53.ext e147
      replace ha54 := ha54.ext e147
      replace hB60 := hB60.ext e147
      replace hn83 := hn83.ext e147
      replace ha84 := ha84.ext e147
      replace hB90 := hB90.ext e147
      replace hn106 := hn106.ext e147
      replace ha107 := ha107.ext e147
      replace hB113 := hB113.ext e147
      refine Sq.beT (by exact extend_valid hv hk) ?_
      refine Sq.pickT .plain rfl rfl rfl ?_
      refine Sq.assign .plain rfl rfl ?_
      refine Sq.nil ?_
      refine Eq.next ?_
      refine Cq.ret ?_
      refine Eq.ret1 rfl rfl ?_
      exact ⟨rfl, E⟩
    · refine Sq.call fn22 .plain rfl rfl (extend_c_F _ a7 _ _ hn10 ha11 k6 hC) ?_
      rintro _ w156 ⟨⟨_, rfl, nx158, ac159, rfl, hn160, ha161⟩, e157⟩
      have hs162 := Below.size E
      have hs163 := Below.size e157
      replace E := E.trans e157
      replace hn10 := hn10.ext e157
      replace ha11 := ha11.ext e157
      replace hB19 := hB19.ext e157
      refine Sq.move .plain rfl rfl ?_
      refine Sq.extract .plain rfl rfl rfl ?_
      refine Sq.extract .plain rfl rfl rfl ?_
      refine Sq.alloc zero26 .plain rfl (fun b164 w165 e166 hB167 hlo168 => ?_)
      have hd169 := Nat.le_trans (Below.size E) hlo168
      have hd170 := Nat.lt_of_lt_of_le hB19.lt hlo168
      have hs171 := Below.size e166
      replace E := E.trans e166
      replace hn10 := hn10.ext e166
      replace ha11 := ha11.ext e166
      replace hB19 := hB19.ext e166
      replace hn160 := hn160.ext e166
      replace ha161 := ha161.ext e166
      refine Sq.storeAgg agg26 .plain rfl rfl (one_cons rfl (one_cons (Rows.one (OwnRows.rows hn160)) (one_cons (Row.one (Own.row ha161)) one_nil))) hB167 rfl rfl (fun w172 g173 hB174 => ?_)
      have hs175 := World.grownBy.size g173
      replace E := E.grown g173 (fun k hk => by injection hk with hk; subst hk; omega)
      replace hn10 := hn10.stored g173 hB167 (by decide) (by decide)
      replace ha11 := ha11.stored g173 hB167 (by decide)
      replace hB19 := hB19.grown g173 (by intro h; injection h with h; omega)
      replace hn160 := hn160.stored g173 hB167 (by decide) (by decide)
      replace ha161 := ha161.stored g173 hB167 (by decide)
      replace hB167 := hB174
      refine Sq.assign .plain rfl rfl ?_
      refine Sq.nil ?_
      refine Eq.next ?_
      refine Cq.seq ?_
      refine Cq.region ?_
      refine Sq.loadAgg agg26 .plain rfl rfl hB19 rfl ?_
      refine Sq.move .plain rfl rfl ?_
      refine Sq.call fn23 .plain rfl rfl (sExtend_c_F _ a7 _ _ hn10 ha11 k6 hC) ?_
      rintro _ w177 ⟨⟨_, rfl, nx179, ac180, rfl, hn181, ha182⟩, e178⟩
      have hs183 := Below.size E
      have hs184 := Below.size e178
      replace E := E.trans e178
      replace hn10 := hn10.ext e178
      replace ha11 := ha11.ext e178
      replace hB19 := hB19.ext e178
      replace hn160 := hn160.ext e178
      replace ha161 := ha161.ext e178
      replace hB167 := hB167.ext e178
      refine Sq.move .plain rfl rfl ?_
      refine Sq.extract .plain rfl rfl rfl ?_
      refine Sq.extract .plain rfl rfl rfl ?_
      refine Sq.alloc zero26 .plain rfl (fun b185 w186 e187 hB188 hlo189 => ?_)
      have hd190 := Nat.le_trans (Below.size E) hlo189
      have hd191 := Nat.lt_of_lt_of_le hB19.lt hlo189
      have hd192 := Nat.lt_of_lt_of_le hB167.lt hlo189
      have hs193 := Below.size e187
      replace E := E.trans e187
      replace hn10 := hn10.ext e187
      replace ha11 := ha11.ext e187
      replace hB19 := hB19.ext e187
      replace hn160 := hn160.ext e187
      replace ha161 := ha161.ext e187
      replace hB167 := hB167.ext e187
      replace hn181 := hn181.ext e187
      replace ha182 := ha182.ext e187
      refine Sq.storeAgg agg26 .plain rfl rfl (one_cons rfl (one_cons (Rows.one (OwnRows.rows hn181)) (one_cons (Row.one (Own.row ha182)) one_nil))) hB188 rfl rfl (fun w194 g195 hB196 => ?_)
      have hs197 := World.grownBy.size g195
      replace E := E.grown g195 (fun k hk => by injection hk with hk; subst hk; omega)
      replace hn10 := hn10.stored g195 hB188 (by decide) (by decide)
      replace ha11 := ha11.stored g195 hB188 (by decide)
      replace hB19 := hB19.grown g195 (by intro h; injection h with h; omega)
      replace hn160 := hn160.stored g195 hB188 (by decide) (by decide)
      replace ha161 := ha161.stored g195 hB188 (by decide)
      replace hB167 := hB167.grown g195 (by intro h; injection h with h; omega)
      replace hn181 := hn181.stored g195 hB188 (by decide) (by decide)
      replace ha182 := ha182.stored g195 hB188 (by decide)
      replace hB188 := hB196
      refine Sq.assign .plain rfl rfl ?_
      refine Sq.nil ?_
      refine Eq.next ?_
      refine Cq.seq ?_
      refine Cq.seq ?_
      refine Cq.region ?_
      refine Sq.loadAgg agg26 .plain rfl rfl hB167 rfl ?_
      refine Sq.loadAgg agg26 .plain rfl rfl hB188 rfl ?_
      have hd201 := hB19.lt
      have hd202 := hB167.lt
      have hd203 := hB188.lt
      refine Sq.call fn18 .plain rfl rfl (agAutomata_c _ zeroA zeroA _ _ _ _ (OwnRows.rows hn160) (Own.row ha161) (OwnRows.rows hn181) (Own.row ha182) (by first | exact fit_zero | exact fit_of_valid (by first | assumption | exact extend_valid hv hk | exact compl_valid' (extend_valid hv hk) | (rw [extend_own hv hk]; exact extend_valid hv hk) | (rw [extend_zero hv]; exact hv)) | assumption)) ?_
      rintro _ w199 ⟨rfl, e200⟩
      have hs204 := Below.size E
      have hs205 := Below.size e200
      replace E := E.trans e200
      replace hn10 := hn10.ext e200
      replace ha11 := ha11.ext e200
      replace hB19 := hB19.ext e200
      replace hn160 := hn160.ext e200
      replace ha161 := ha161.ext e200
      replace hB167 := hB167.ext e200
      replace hn181 := hn181.ext e200
      replace ha182 := ha182.ext e200
      replace hB188 := hB188.ext e200
      refine Sq.beT (by exact eqA_refl _) ?_
      refine Sq.notT .plain rfl rfl ?_
      refine Sq.move .plain rfl rfl ?_
      refine Sq.move (.met rfl rfl rfl) rfl rfl ?_
      refine Sq.move (.met rfl rfl rfl) rfl rfl ?_
      refine Sq.neqB und4 (.met rfl rfl rfl) rfl rfl rfl ?_
      refine Sq.pickF .plain rfl rfl rfl ?_
      refine Sq.move .plain rfl rfl ?_
      refine Sq.move (.met rfl rfl rfl) rfl rfl ?_
      refine Sq.notF (.met rfl rfl rfl) rfl rfl ?_
      refine Sq.pickF .plain rfl rfl rfl ?_
      refine Sq.nil ?_
      refine Eq.next ?_
      refine Cq.thn rfl ?_
      refine Cq.seq ?_
      refine Cq.region ?_
      refine Sq.loadAgg agg26 .plain rfl rfl hB167 rfl ?_
      refine Sq.loadAgg agg26 .plain rfl rfl hB188 rfl ?_
      have hd209 := hB19.lt
      have hd210 := hB167.lt
      have hd211 := hB188.lt
      refine Sq.call fn18 .plain rfl rfl (agAutomata_c _ zeroA zeroA _ _ _ _ (OwnRows.rows hn160) (Own.row ha161) (OwnRows.rows hn181) (Own.row ha182) (by first | exact fit_zero | exact fit_of_valid (by first | assumption | exact extend_valid hv hk | exact compl_valid' (extend_valid hv hk) | (rw [extend_own hv hk]; exact extend_valid hv hk) | (rw [extend_zero hv]; exact hv)) | assumption)) ?_
      rintro _ w207 ⟨rfl, e208⟩
      have hs212 := Below.size E
      have hs213 := Below.size e208
      replace E := E.trans e208
      replace hn10 := hn10.ext e208
      replace ha11 := ha11.ext e208
      replace hB19 := hB19.ext e208
      replace hn160 := hn160.ext e208
      replace ha161 := ha161.ext e208
      replace hB167 := hB167.ext e208
      replace hn181 := hn181.ext e208
      replace ha182 := ha182.ext e208
      replace hB188 := hB188.ext e208
      refine Sq.beT (by exact eqA_refl _) ?_
      refine Sq.move .plain rfl rfl ?_
      refine Sq.move (.met rfl rfl rfl) rfl rfl ?_
      refine Sq.move (.met rfl rfl rfl) rfl rfl ?_
      refine Sq.eqlB und4 (.met rfl rfl rfl) rfl rfl rfl ?_
      refine Sq.pickT .plain rfl rfl rfl ?_
      refine Sq.assign .plain rfl rfl ?_
      refine Sq.nil ?_
      refine Eq.next ?_
      refine Cq.ret ?_
      refine Eq.pastRet ?_
      refine Eq.ret1 rfl rfl ?_
      exact ⟨rfl, E⟩

set_option maxRecDepth 100000 in
theorem lExtendTwice (w0 : World) (e : TypeId) (a0 : Option Addr) (c0 : Nat) (cs : List UInt8) (hc : Bytes w0 e (.slice a0 cs.length c0) cs) (hcap : cs.length ≤ c0) (e' : TypeId) (a0' : Option Addr) (c0' : Nat) (cs' : List UInt8) (hc' : Bytes w0 e' (.slice a0' cs'.length c0') cs') (hcap' : cs'.length ≤ c0') : Ret Try.prog 5 #[Value.slice a0 cs.length c0, Value.slice a0' cs'.length c0'] w0 (fun v w => v = .bool true ∧ Ext w0 w) := by
  have E := Ext.refl w0
  refine Ret.of (args := [Value.slice a0 cs.length c0, Value.slice a0' cs'.length c0']) Try.func5 rfl rfl rfl ?_
  rintro _ rfl
  show Cq _ _ _ _ [(0, Value.slice a0 cs.length c0), (1, Value.slice a0' cs'.length c0')] _
  refine Cq.seq ?_
  refine Cq.region ?_
  refine Sq.assign .plain rfl rfl ?_
  refine Sq.nil ?_
  refine Eq.next ?_
  refine Cq.seq ?_
  refine Cq.seq ?_
  refine Cq.region ?_
  refine Sq.move .plain rfl rfl ?_
  refine Sq.lenBytes (hc.ext E) .plain rfl und22 rfl ?_
  refine Sq.gtr .plain rfl rfl rfl ?_
  refine Sq.part (fun c1 => ?_) (fun c1 => ?_)
  · refine Sq.move .plain rfl rfl ?_
    refine Sq.off rfl rfl rfl rfl rfl rfl ?_
    refine Sq.off rfl rfl rfl rfl rfl rfl ?_
    refine Sq.off rfl rfl rfl rfl rfl rfl ?_
    refine Sq.pickT .plain rfl rfl rfl ?_
    refine Sq.nil ?_
    refine Eq.next ?_
    refine Cq.thn rfl ?_
    refine Cq.seq ?_
    refine Cq.region ?_
    refine Sq.assign .plain rfl rfl ?_
    refine Sq.nil ?_
    refine Eq.next ?_
    refine Cq.ret ?_
    refine Eq.pastRet ?_
    refine Eq.ret1 rfl rfl ?_
    exact ⟨rfl, E⟩
  · refine Sq.move .plain rfl rfl ?_
    refine Sq.move (.met rfl rfl rfl) rfl rfl ?_
    refine Sq.lenBytes (hc'.ext E) (.met rfl rfl rfl) rfl und22 rfl ?_
    refine Sq.gtr (.met rfl rfl rfl) rfl rfl rfl ?_
    refine Sq.part (fun c2 => ?_) (fun c2 => ?_)
    · refine Sq.pickF .plain rfl rfl rfl ?_
      refine Sq.nil ?_
      refine Eq.next ?_
      refine Cq.thn rfl ?_
      refine Cq.seq ?_
      refine Cq.region ?_
      refine Sq.assign .plain rfl rfl ?_
      refine Sq.nil ?_
      refine Eq.next ?_
      refine Cq.ret ?_
      refine Eq.pastRet ?_
      refine Eq.ret1 rfl rfl ?_
      exact ⟨rfl, E⟩
    · refine Sq.pickF .plain rfl rfl rfl ?_
      refine Sq.nil ?_
      refine Eq.next ?_
      refine Cq.els rfl ?_
      refine Cq.skip ?_
      refine Eq.next ?_
      refine Cq.seq ?_
      refine Cq.region ?_
      refine Sq.move .plain rfl rfl ?_
      refine Sq.call fn21 .plain rfl rfl (drawExtend_c _ _ _ _ _ (hc.ext E) hcap) ?_
      rintro _ w4 ⟨⟨u6, k7, a8, rfl, ⟨nx9, ac10, rfl, hn11, ha12⟩, hsm13, hk14⟩, e5⟩
      have hs15 := Below.size E
      have hs16 := Below.size e5
      replace E := E.trans e5
      refine Sq.move .plain rfl rfl ?_
      refine Sq.extract .plain rfl rfl rfl ?_
      refine Sq.extract .plain rfl rfl rfl ?_
      refine Sq.alloc zero26 .plain rfl (fun b17 w18 e19 hB20 hlo21 => ?_)
      have hd22 := Nat.le_trans (Below.size E) hlo21
      have hs23 := Below.size e19
      replace E := E.trans e19
      replace hn11 := hn11.ext e19
      replace ha12 := ha12.ext e19
      refine Sq.storeAgg agg26 .plain rfl rfl (one_cons rfl (one_cons (Rows.one hn11) (one_cons (Row.one ha12) one_nil))) hB20 rfl rfl (fun w24 g25 hB26 => ?_)
      have hs27 := World.grownBy.size g25
      replace E := E.grown g25 (fun k hk => by injection hk with hk; subst hk; omega)
      replace hn11 := hn11.stored g25 hB20 (by decide) (by decide)
      replace ha12 := ha12.stored g25 hB20 (by decide)
      replace hB20 := hB26
      refine Sq.assign .plain rfl rfl ?_
      refine Sq.nil ?_
      refine Eq.next ?_
      refine Cq.seq ?_
      refine Cq.region ?_
      refine Sq.loadAgg agg26 .plain rfl rfl hB20 rfl ?_
      refine Sq.move .plain rfl rfl ?_
      rcases Bool.eq_false_or_eq_true (validA a8 && decide (0 ≤ k7 ∧ k7 ≤ 63)) with hC | hC
      · obtain ⟨hv, hk⟩ := cond_spec hC
        refine Sq.call fn22 .plain rfl rfl (extend_c_T _ a8 _ _ hn11 ha12 k7 hC) ?_
        rintro _ w29 ⟨⟨_, rfl, nx31, ac32, rfl, hn33, ha34⟩, e30⟩
        have hs35 := Below.size E
        have hs36 := Below.size e30
        replace E := E.trans e30
        replace hn11 := hn11.ext e30
        replace ha12 := ha12.ext e30
        replace hB20 := hB20.ext e30
        refine Sq.move .plain rfl rfl ?_
        refine Sq.extract .plain rfl rfl rfl ?_
        refine Sq.extract .plain rfl rfl rfl ?_
        refine Sq.alloc zero26 .plain rfl (fun b37 w38 e39 hB40 hlo41 => ?_)
        have hd42 := Nat.le_trans (Below.size E) hlo41
        have hd43 := Nat.lt_of_lt_of_le hB20.lt hlo41
        have hs44 := Below.size e39
        replace E := E.trans e39
        replace hn11 := hn11.ext e39
        replace ha12 := ha12.ext e39
        replace hB20 := hB20.ext e39
        replace hn33 := hn33.ext e39
        replace ha34 := ha34.ext e39
        refine Sq.storeAgg agg26 .plain rfl rfl (one_cons rfl (one_cons (Rows.one (OwnRows.rows hn33)) (one_cons (Row.one (Own.row ha34)) one_nil))) hB40 rfl rfl (fun w45 g46 hB47 => ?_)
        have hs48 := World.grownBy.size g46
        replace E := E.grown g46 (fun k hk => by injection hk with hk; subst hk; omega)
        replace hn11 := hn11.stored g46 hB40 (by decide) (by decide)
        replace ha12 := ha12.stored g46 hB40 (by decide)
        replace hB20 := hB20.grown g46 (by intro h; injection h with h; omega)
        replace hn33 := hn33.stored g46 hB40 (by decide) (by decide)
        replace ha34 := ha34.stored g46 hB40 (by decide)
        replace hB40 := hB47
        refine Sq.assign .plain rfl rfl ?_
        refine Sq.nil ?_
        refine Eq.next ?_
        refine Cq.seq ?_
        refine Cq.region ?_
        refine Sq.loadAgg agg26 .plain rfl rfl hB20 rfl ?_
        refine Sq.move .plain rfl rfl ?_
        refine Sq.call fn23 .plain rfl rfl (sExtend_c_T _ a8 _ _ hn11 ha12 k7 hC) ?_
        rintro _ w50 ⟨⟨_, rfl, nx52, ac53, rfl, hn54, ha55⟩, e51⟩
        have hs56 := Below.size E
        have hs57 := Below.size e51
        replace E := E.trans e51
        replace hn11 := hn11.ext e51
        replace ha12 := ha12.ext e51
        replace hB20 := hB20.ext e51
        replace hn33 := hn33.ext e51
        replace ha34 := ha34.ext e51
        replace hB40 := hB40.ext e51
        refine Sq.move .plain rfl rfl ?_
        refine Sq.extract .plain rfl rfl rfl ?_
        refine Sq.extract .plain rfl rfl rfl ?_
        refine Sq.alloc zero26 .plain rfl (fun b58 w59 e60 hB61 hlo62 => ?_)
        have hd63 := Nat.le_trans (Below.size E) hlo62
        have hd64 := Nat.lt_of_lt_of_le hB20.lt hlo62
        have hd65 := Nat.lt_of_lt_of_le hB40.lt hlo62
        have hs66 := Below.size e60
        replace E := E.trans e60
        replace hn11 := hn11.ext e60
        replace ha12 := ha12.ext e60
        replace hB20 := hB20.ext e60
        replace hn33 := hn33.ext e60
        replace ha34 := ha34.ext e60
        replace hB40 := hB40.ext e60
        replace hn54 := hn54.ext e60
        replace ha55 := ha55.ext e60
        refine Sq.storeAgg agg26 .plain rfl rfl (one_cons rfl (one_cons (Rows.one (OwnRows.rows hn54)) (one_cons (Row.one (Own.row ha55)) one_nil))) hB61 rfl rfl (fun w67 g68 hB69 => ?_)
        have hs70 := World.grownBy.size g68
        replace E := E.grown g68 (fun k hk => by injection hk with hk; subst hk; omega)
        replace hn11 := hn11.stored g68 hB61 (by decide) (by decide)
        replace ha12 := ha12.stored g68 hB61 (by decide)
        replace hB20 := hB20.grown g68 (by intro h; injection h with h; omega)
        replace hn33 := hn33.stored g68 hB61 (by decide) (by decide)
        replace ha34 := ha34.stored g68 hB61 (by decide)
        replace hB40 := hB40.grown g68 (by intro h; injection h with h; omega)
        replace hn54 := hn54.stored g68 hB61 (by decide) (by decide)
        replace ha55 := ha55.stored g68 hB61 (by decide)
        replace hB61 := hB69
        refine Sq.assign .plain rfl rfl ?_
        refine Sq.nil ?_
        refine Eq.next ?_
        refine Cq.seq ?_
        refine Cq.region ?_
        refine Sq.move .plain rfl rfl ?_
        have hd83 := hB20.lt
        have hd84 := hB40.lt
        have hd85 := hB61.lt
        refine Sq.call fn21 .plain rfl rfl (drawExtend_c _ _ _ _ _ (hc'.ext E) hcap') ?_
        rintro _ w72 ⟨⟨u74, k75, a76, rfl, ⟨nx77, ac78, rfl, hn79, ha80⟩, hsm81, hk82⟩, e73⟩
        have hs86 := Below.size E
        have hs87 := Below.size e73
        replace E := E.trans e73
        replace hn11 := hn11.ext e73
        replace ha12 := ha12.ext e73
        replace hB20 := hB20.ext e73
        replace hn33 := hn33.ext e73
        replace ha34 := ha34.ext e73
        replace hB40 := hB40.ext e73
        replace hn54 := hn54.ext e73
        replace ha55 := ha55.ext e73
        replace hB61 := hB61.ext e73
        refine Sq.move .plain rfl rfl ?_
        refine Sq.extract .plain rfl rfl rfl ?_
        refine Sq.extract .plain rfl rfl rfl ?_
        refine Sq.alloc zero26 .plain rfl (fun b88 w89 e90 hB91 hlo92 => ?_)
        have hd93 := Nat.le_trans (Below.size E) hlo92
        have hd94 := Nat.lt_of_lt_of_le hB20.lt hlo92
        have hd95 := Nat.lt_of_lt_of_le hB40.lt hlo92
        have hd96 := Nat.lt_of_lt_of_le hB61.lt hlo92
        have hs97 := Below.size e90
        replace E := E.trans e90
        replace hn11 := hn11.ext e90
        replace ha12 := ha12.ext e90
        replace hB20 := hB20.ext e90
        replace hn33 := hn33.ext e90
        replace ha34 := ha34.ext e90
        replace hB40 := hB40.ext e90
        replace hn54 := hn54.ext e90
        replace ha55 := ha55.ext e90
        replace hB61 := hB61.ext e90
        replace hn79 := hn79.ext e90
        replace ha80 := ha80.ext e90
        refine Sq.storeAgg agg26 .plain rfl rfl (one_cons rfl (one_cons (Rows.one hn79) (one_cons (Row.one ha80) one_nil))) hB91 rfl rfl (fun w98 g99 hB100 => ?_)
        have hs101 := World.grownBy.size g99
        replace E := E.grown g99 (fun k hk => by injection hk with hk; subst hk; omega)
        replace hn11 := hn11.stored g99 hB91 (by decide) (by decide)
        replace ha12 := ha12.stored g99 hB91 (by decide)
        replace hB20 := hB20.grown g99 (by intro h; injection h with h; omega)
        replace hn33 := hn33.stored g99 hB91 (by decide) (by decide)
        replace ha34 := ha34.stored g99 hB91 (by decide)
        replace hB40 := hB40.grown g99 (by intro h; injection h with h; omega)
        replace hn54 := hn54.stored g99 hB91 (by decide) (by decide)
        replace ha55 := ha55.stored g99 hB91 (by decide)
        replace hB61 := hB61.grown g99 (by intro h; injection h with h; omega)
        replace hn79 := hn79.stored g99 hB91 (by decide) (by decide)
        replace ha80 := ha80.stored g99 hB91 (by decide)
        replace hB91 := hB100
        refine Sq.assign .plain rfl rfl ?_
        refine Sq.nil ?_
        refine Eq.next ?_
        refine Cq.seq ?_
        refine Cq.seq ?_
        refine Cq.region ?_
        refine Sq.loadAgg agg26 .plain rfl rfl hB40 rfl ?_
        refine Sq.loadAgg agg26 .plain rfl rfl hB61 rfl ?_
        have hd105 := hB20.lt
        have hd106 := hB40.lt
        have hd107 := hB61.lt
        have hd108 := hB91.lt
        refine Sq.call fn18 .plain rfl rfl (agAutomata_c _ (extend a8 k7) (extend a8 k7) _ _ _ _ (OwnRows.rows hn33) (Own.row ha34) (OwnRows.rows hn54) (Own.row ha55) (by first | exact fit_zero | exact fit_of_valid (by first | assumption | exact extend_valid hv hk | exact compl_valid' (extend_valid hv hk) | exact extend_valid (extend_valid hv hk) (by omega)) | assumption)) ?_
        rintro _ w103 ⟨rfl, e104⟩
        have hs109 := Below.size E
        have hs110 := Below.size e104
        replace E := E.trans e104
        replace hn11 := hn11.ext e104
        replace ha12 := ha12.ext e104
        replace hB20 := hB20.ext e104
        replace hn33 := hn33.ext e104
        replace ha34 := ha34.ext e104
        replace hB40 := hB40.ext e104
        replace hn54 := hn54.ext e104
        replace ha55 := ha55.ext e104
        replace hB61 := hB61.ext e104
        replace hn79 := hn79.ext e104
        replace ha80 := ha80.ext e104
        replace hB91 := hB91.ext e104
        refine Sq.beT (by exact eqA_refl _) ?_
        refine Sq.notT .plain rfl rfl ?_
        refine Sq.move .plain rfl rfl ?_
        refine Sq.move (.met rfl rfl rfl) rfl rfl ?_
        refine Sq.move (.met rfl rfl rfl) rfl rfl ?_
        refine Sq.neqB und4 (.met rfl rfl rfl) rfl rfl rfl ?_
        refine Sq.pickF .plain rfl rfl rfl ?_
        refine Sq.move .plain rfl rfl ?_
        refine Sq.move (.met rfl rfl rfl) rfl rfl ?_
        refine Sq.notT (.met rfl rfl rfl) rfl rfl ?_
        refine Sq.pickF .plain rfl rfl rfl ?_
        refine Sq.move .plain rfl rfl ?_
        refine Sq.move (.met rfl rfl rfl) rfl rfl ?_
        refine Sq.call fn24 (.met rfl rfl rfl) rfl rfl (agAlphabet_c _ _) ?_
        rintro _ _ ⟨rfl, rfl⟩
        refine Sq.part (fun c111 => ?_) (fun c111 => ?_)
        · refine Sq.notT (.met rfl rfl rfl) rfl rfl ?_
          refine Sq.pickF .plain rfl rfl rfl ?_
          refine Sq.nil ?_
          refine Eq.next ?_
          refine Cq.els rfl ?_
          refine Cq.skip ?_
          refine Eq.next ?_
          refine Cq.seq ?_
          refine Cq.region ?_
          refine Sq.loadAgg agg26 .plain rfl rfl hB40 rfl ?_
          refine Sq.move .plain rfl rfl ?_
          refine Sq.call fn22 .plain rfl rfl (extend_c_T _ (extend a8 k7) _ _ (OwnRows.rows hn33) (Own.row ha34) k75 (by exact cond_mk (extend_valid hv hk) (by omega))) ?_
          rintro _ w113 ⟨⟨_, rfl, nx115, ac116, rfl, hn117, ha118⟩, e114⟩
          have hs119 := Below.size E
          have hs120 := Below.size e114
          replace E := E.trans e114
          replace hn11 := hn11.ext e114
          replace ha12 := ha12.ext e114
          replace hB20 := hB20.ext e114
          replace hn33 := hn33.ext e114
          replace ha34 := ha34.ext e114
          replace hB40 := hB40.ext e114
          replace hn54 := hn54.ext e114
          replace ha55 := ha55.ext e114
          replace hB61 := hB61.ext e114
          replace hn79 := hn79.ext e114
          replace ha80 := ha80.ext e114
          replace hB91 := hB91.ext e114
          refine Sq.move .plain rfl rfl ?_
          refine Sq.extract .plain rfl rfl rfl ?_
          refine Sq.extract .plain rfl rfl rfl ?_
          refine Sq.alloc zero26 .plain rfl (fun b121 w122 e123 hB124 hlo125 => ?_)
          have hd126 := Nat.le_trans (Below.size E) hlo125
          have hd127 := Nat.lt_of_lt_of_le hB20.lt hlo125
          have hd128 := Nat.lt_of_lt_of_le hB40.lt hlo125
          have hd129 := Nat.lt_of_lt_of_le hB61.lt hlo125
          have hd130 := Nat.lt_of_lt_of_le hB91.lt hlo125
          have hs131 := Below.size e123
          replace E := E.trans e123
          replace hn11 := hn11.ext e123
          replace ha12 := ha12.ext e123
          replace hB20 := hB20.ext e123
          replace hn33 := hn33.ext e123
          replace ha34 := ha34.ext e123
          replace hB40 := hB40.ext e123
          replace hn54 := hn54.ext e123
          replace ha55 := ha55.ext e123
          replace hB61 := hB61.ext e123
          replace hn79 := hn79.ext e123
          replace ha80 := ha80.ext e123
          replace hB91 := hB91.ext e123
          replace hn117 := hn117.ext e123
          replace ha118 := ha118.ext e123
          refine Sq.storeAgg agg26 .plain rfl rfl (one_cons rfl (one_cons (Rows.one (OwnRows.rows hn117)) (one_cons (Row.one (Own.row ha118)) one_nil))) hB124 rfl rfl (fun w132 g133 hB134 => ?_)
          have hs135 := World.grownBy.size g133
          replace E := E.grown g133 (fun k hk => by injection hk with hk; subst hk; omega)
          replace hn11 := hn11.stored g133 hB124 (by decide) (by decide)
          replace ha12 := ha12.stored g133 hB124 (by decide)
          replace hB20 := hB20.grown g133 (by intro h; injection h with h; omega)
          replace hn33 := hn33.stored g133 hB124 (by decide) (by decide)
          replace ha34 := ha34.stored g133 hB124 (by decide)
          replace hB40 := hB40.grown g133 (by intro h; injection h with h; omega)
          replace hn54 := hn54.stored g133 hB124 (by decide) (by decide)
          replace ha55 := ha55.stored g133 hB124 (by decide)
          replace hB61 := hB61.grown g133 (by intro h; injection h with h; omega)
          replace hn79 := hn79.stored g133 hB124 (by decide) (by decide)
          replace ha80 := ha80.stored g133 hB124 (by decide)
          replace hB91 := hB91.grown g133 (by intro h; injection h with h; omega)
          replace hn117 := hn117.stored g133 hB124 (by decide) (by decide)
          replace ha118 := ha118.stored g133 hB124 (by decide)
          replace hB124 := hB134
          refine Sq.assign .plain rfl rfl ?_
          refine Sq.nil ?_
          refine Eq.next ?_
          refine Cq.seq ?_
          refine Cq.region ?_
          refine Sq.loadAgg agg26 .plain rfl rfl hB20 rfl ?_
          refine Sq.move .plain rfl rfl ?_
          refine Sq.move .plain rfl rfl ?_
          refine Sq.or .plain rfl rfl rfl (by omega) ?_
          refine Sq.call fn22 .plain rfl rfl (extend_c_T _ a8 _ _ hn11 ha12 (orI k7 k75) (by exact cond_mk hv (orI_le hk (by omega)))) ?_
          rintro _ w137 ⟨⟨_, rfl, nx139, ac140, rfl, hn141, ha142⟩, e138⟩
          have hs143 := Below.size E
          have hs144 := Below.size e138
          replace E := E.trans e138
          replace hn11 := hn11.ext e138
          replace ha12 := ha12.ext e138
          replace hB20 := hB20.ext e138
          replace hn33 := hn33.ext e138
          replace ha34 := ha34.ext e138
          replace hB40 := hB40.ext e138
          replace hn54 := hn54.ext e138
          replace ha55 := ha55.ext e138
          replace hB61 := hB61.ext e138
          replace hn79 := hn79.ext e138
          replace ha80 := ha80.ext e138
          replace hB91 := hB91.ext e138
          replace hn117 := hn117.ext e138
          replace ha118 := ha118.ext e138
          replace hB124 := hB124.ext e138
          refine Sq.move .plain rfl rfl ?_
          refine Sq.extract .plain rfl rfl rfl ?_
          refine Sq.extract .plain rfl rfl rfl ?_
          refine Sq.alloc zero26 .plain rfl (fun b145 w146 e147 hB148 hlo149 => ?_)
          have hd150 := Nat.le_trans (Below.size E) hlo149
          have hd151 := Nat.lt_of_lt_of_le hB20.lt hlo149
          have hd152 := Nat.lt_of_lt_of_le hB40.lt hlo149
          have hd153 := Nat.lt_of_lt_of_le hB61.lt hlo149
          have hd154 := Nat.lt_of_lt_of_le hB91.lt hlo149
          have hd155 := Nat.lt_of_lt_of_le hB124.lt hlo149
          have hs156 := Below.size e147
          replace E := E.trans e147
          replace hn11 := hn11.ext e147
          replace ha12 := ha12.ext e147
          replace hB20 := hB20.ext e147
          replace hn33 := hn33.ext e147
          replace ha34 := ha34.ext e147
          replace hB40 := hB40.ext e147
          replace hn54 := hn54.ext e147
          replace ha55 := ha55.ext e147
          replace hB61 := hB61.ext e147
          replace hn79 := hn79.ext e147
          replace ha80 := ha80.ext e147
          replace hB91 := hB91.ext e147
          replace hn117 := hn117.ext e147
          replace ha118 := ha118.ext e147
          replace hB124 := hB124.ext e147
          replace hn141 := hn141.ext e147
          replace ha142 := ha142.ext e147
          refine Sq.storeAgg agg26 .plain rfl rfl (one_cons rfl (one_cons (Rows.one (OwnRows.rows hn141)) (one_cons (Row.one (Own.row ha142)) one_nil))) hB148 rfl rfl (fun w157 g158 hB159 => ?_)
          have hs160 := World.grownBy.size g158
          replace E := E.grown g158 (fun k hk => by injection hk with hk; subst hk; omega)
          replace hn11 := hn11.stored g158 hB148 (by decide) (by decide)
          replace ha12 := ha12.stored g158 hB148 (by decide)
          replace hB20 := hB20.grown g158 (by intro h; injection h with h; omega)
          replace hn33 := hn33.stored g158 hB148 (by decide) (by decide)
          replace ha34 := ha34.stored g158 hB148 (by decide)
          replace hB40 := hB40.grown g158 (by intro h; injection h with h; omega)
          replace hn54 := hn54.stored g158 hB148 (by decide) (by decide)
          replace ha55 := ha55.stored g158 hB148 (by decide)
          replace hB61 := hB61.grown g158 (by intro h; injection h with h; omega)
          replace hn79 := hn79.stored g158 hB148 (by decide) (by decide)
          replace ha80 := ha80.stored g158 hB148 (by decide)
          replace hB91 := hB91.grown g158 (by intro h; injection h with h; omega)
          replace hn117 := hn117.stored g158 hB148 (by decide) (by decide)
          replace ha118 := ha118.stored g158 hB148 (by decide)
          replace hB124 := hB124.grown g158 (by intro h; injection h with h; omega)
          replace hn141 := hn141.stored g158 hB148 (by decide) (by decide)
          replace ha142 := ha142.stored g158 hB148 (by decide)
          replace hB148 := hB159
          refine Sq.assign .plain rfl rfl ?_
          refine Sq.nil ?_
          refine Eq.next ?_
          refine Cq.seq ?_
          refine Cq.region ?_
          refine Sq.move .plain rfl rfl ?_
          refine Sq.move .plain rfl rfl ?_
          refine Sq.move (.met rfl rfl rfl) rfl rfl ?_
          refine Sq.pickT .plain rfl rfl rfl ?_
          refine Sq.move .plain rfl rfl ?_
          refine Sq.loadAgg agg26 (.met rfl rfl rfl) rfl rfl hB124 rfl ?_
          refine Sq.loadAgg agg26 (.met rfl rfl rfl) rfl rfl hB148 rfl ?_
          have hd164 := hB20.lt
          have hd165 := hB40.lt
          have hd166 := hB61.lt
          have hd167 := hB91.lt
          have hd168 := hB124.lt
          have hd169 := hB148.lt
          refine Sq.call fn18 (.met rfl rfl rfl) rfl rfl (agAutomata_c _ ((extend (extend a8 k7) k75)) ((extend a8 (orI k7 k75))) _ _ _ _ (OwnRows.rows hn117) (Own.row ha118) (OwnRows.rows hn141) (Own.row ha142) (by first | exact fit_zero | exact fit_of_valid (by first | assumption | exact extend_valid hv hk | exact compl_valid' (extend_valid hv hk) | exact extend_valid (extend_valid hv hk) (by omega)) | assumption)) ?_
          rintro _ w162 ⟨rfl, e163⟩
          have hs170 := Below.size E
          have hs171 := Below.size e163
          replace E := E.trans e163
          replace hn11 := hn11.ext e163
          replace ha12 := ha12.ext e163
          replace hB20 := hB20.ext e163
          replace hn33 := hn33.ext e163
          replace ha34 := ha34.ext e163
          replace hB40 := hB40.ext e163
          replace hn54 := hn54.ext e163
          replace ha55 := ha55.ext e163
          replace hB61 := hB61.ext e163
          replace hn79 := hn79.ext e163
          replace ha80 := ha80.ext e163
          replace hB91 := hB91.ext e163
          replace hn117 := hn117.ext e163
          replace ha118 := ha118.ext e163
          replace hB124 := hB124.ext e163
          replace hn141 := hn141.ext e163
          replace ha142 := ha142.ext e163
          replace hB148 := hB148.ext e163
          refine Sq.beT (by rw [extend_twice hv hk]; exact eqA_refl _) ?_
          refine Sq.pickT .plain rfl rfl rfl ?_
          refine Sq.assign .plain rfl rfl ?_
          refine Sq.nil ?_
          refine Eq.next ?_
          refine Cq.ret ?_
          refine Eq.ret1 rfl rfl ?_
          exact ⟨rfl, E⟩
        · refine Sq.notF (.met rfl rfl rfl) rfl rfl ?_
          refine Sq.pickF .plain rfl rfl rfl ?_
          refine Sq.nil ?_
          refine Eq.next ?_
          refine Cq.thn rfl ?_
          refine Cq.seq ?_
          refine Cq.region ?_
          refine Sq.loadAgg agg26 .plain rfl rfl hB40 rfl ?_
          refine Sq.loadAgg agg26 .plain rfl rfl hB61 rfl ?_
          have hd175 := hB20.lt
          have hd176 := hB40.lt
          have hd177 := hB61.lt
          have hd178 := hB91.lt
          refine Sq.call fn18 .plain rfl rfl (agAutomata_c _ (extend a8 k7) (extend a8 k7) _ _ _ _ (OwnRows.rows hn33) (Own.row ha34) (OwnRows.rows hn54) (Own.row ha55) (by first | exact fit_zero | exact fit_of_valid (by first | assumption | exact extend_valid hv hk | exact compl_valid' (extend_valid hv hk) | exact extend_valid (extend_valid hv hk) (by omega)) | assumption)) ?_
          rintro _ w173 ⟨rfl, e174⟩
          have hs179 := Below.size E
          have hs180 := Below.size e174
          replace E := E.trans e174
          replace hn11 := hn11.ext e174
          replace ha12 := ha12.ext e174
          replace hB20 := hB20.ext e174
          replace hn33 := hn33.ext e174
          replace ha34 := ha34.ext e174
          replace hB40 := hB40.ext e174
          replace hn54 := hn54.ext e174
          replace ha55 := ha55.ext e174
          replace hB61 := hB61.ext e174
          replace hn79 := hn79.ext e174
          replace ha80 := ha80.ext e174
          replace hB91 := hB91.ext e174
          refine Sq.beT (by exact eqA_refl _) ?_
          refine Sq.move .plain rfl rfl ?_
          refine Sq.move (.met rfl rfl rfl) rfl rfl ?_
          refine Sq.move (.met rfl rfl rfl) rfl rfl ?_
          refine Sq.eqlB und4 (.met rfl rfl rfl) rfl rfl rfl ?_
          refine Sq.pickT .plain rfl rfl rfl ?_
          refine Sq.assign .plain rfl rfl ?_
          refine Sq.nil ?_
          refine Eq.next ?_
          refine Cq.ret ?_
          refine Eq.pastRet ?_
          refine Eq.ret1 rfl rfl ?_
          exact ⟨rfl, E⟩
      · refine Sq.call fn22 .plain rfl rfl (extend_c_F _ a8 _ _ hn11 ha12 k7 hC) ?_
        rintro _ w182 ⟨⟨_, rfl, nx184, ac185, rfl, hn186, ha187⟩, e183⟩
        have hs188 := Below.size E
        have hs189 := Below.size e183
        replace E := E.trans e183
        replace hn11 := hn11.ext e183
        replace ha12 := ha12.ext e183
        replace hB20 := hB20.ext e183
        refine Sq.move .plain rfl rfl ?_
        refine Sq.extract .plain rfl rfl rfl ?_
        refine Sq.extract .plain rfl rfl rfl ?_
        refine Sq.alloc zero26 .plain rfl (fun b190 w191 e192 hB193 hlo194 => ?_)
        have hd195 := Nat.le_trans (Below.size E) hlo194
        have hd196 := Nat.lt_of_lt_of_le hB20.lt hlo194
        have hs197 := Below.size e192
        replace E := E.trans e192
        replace hn11 := hn11.ext e192
        replace ha12 := ha12.ext e192
        replace hB20 := hB20.ext e192
        replace hn186 := hn186.ext e192
        replace ha187 := ha187.ext e192
        refine Sq.storeAgg agg26 .plain rfl rfl (one_cons rfl (one_cons (Rows.one (OwnRows.rows hn186)) (one_cons (Row.one (Own.row ha187)) one_nil))) hB193 rfl rfl (fun w198 g199 hB200 => ?_)
        have hs201 := World.grownBy.size g199
        replace E := E.grown g199 (fun k hk => by injection hk with hk; subst hk; omega)
        replace hn11 := hn11.stored g199 hB193 (by decide) (by decide)
        replace ha12 := ha12.stored g199 hB193 (by decide)
        replace hB20 := hB20.grown g199 (by intro h; injection h with h; omega)
        replace hn186 := hn186.stored g199 hB193 (by decide) (by decide)
        replace ha187 := ha187.stored g199 hB193 (by decide)
        replace hB193 := hB200
        refine Sq.assign .plain rfl rfl ?_
        refine Sq.nil ?_
        refine Eq.next ?_
        refine Cq.seq ?_
        refine Cq.region ?_
        refine Sq.loadAgg agg26 .plain rfl rfl hB20 rfl ?_
        refine Sq.move .plain rfl rfl ?_
        refine Sq.call fn23 .plain rfl rfl (sExtend_c_F _ a8 _ _ hn11 ha12 k7 hC) ?_
        rintro _ w203 ⟨⟨_, rfl, nx205, ac206, rfl, hn207, ha208⟩, e204⟩
        have hs209 := Below.size E
        have hs210 := Below.size e204
        replace E := E.trans e204
        replace hn11 := hn11.ext e204
        replace ha12 := ha12.ext e204
        replace hB20 := hB20.ext e204
        replace hn186 := hn186.ext e204
        replace ha187 := ha187.ext e204
        replace hB193 := hB193.ext e204
        refine Sq.move .plain rfl rfl ?_
        refine Sq.extract .plain rfl rfl rfl ?_
        refine Sq.extract .plain rfl rfl rfl ?_
        refine Sq.alloc zero26 .plain rfl (fun b211 w212 e213 hB214 hlo215 => ?_)
        have hd216 := Nat.le_trans (Below.size E) hlo215
        have hd217 := Nat.lt_of_lt_of_le hB20.lt hlo215
        have hd218 := Nat.lt_of_lt_of_le hB193.lt hlo215
        have hs219 := Below.size e213
        replace E := E.trans e213
        replace hn11 := hn11.ext e213
        replace ha12 := ha12.ext e213
        replace hB20 := hB20.ext e213
        replace hn186 := hn186.ext e213
        replace ha187 := ha187.ext e213
        replace hB193 := hB193.ext e213
        replace hn207 := hn207.ext e213
        replace ha208 := ha208.ext e213
        refine Sq.storeAgg agg26 .plain rfl rfl (one_cons rfl (one_cons (Rows.one (OwnRows.rows hn207)) (one_cons (Row.one (Own.row ha208)) one_nil))) hB214 rfl rfl (fun w220 g221 hB222 => ?_)
        have hs223 := World.grownBy.size g221
        replace E := E.grown g221 (fun k hk => by injection hk with hk; subst hk; omega)
        replace hn11 := hn11.stored g221 hB214 (by decide) (by decide)
        replace ha12 := ha12.stored g221 hB214 (by decide)
        replace hB20 := hB20.grown g221 (by intro h; injection h with h; omega)
        replace hn186 := hn186.stored g221 hB214 (by decide) (by decide)
        replace ha187 := ha187.stored g221 hB214 (by decide)
        replace hB193 := hB193.grown g221 (by intro h; injection h with h; omega)
        replace hn207 := hn207.stored g221 hB214 (by decide) (by decide)
        replace ha208 := ha208.stored g221 hB214 (by decide)
        replace hB214 := hB222
        refine Sq.assign .plain rfl rfl ?_
        refine Sq.nil ?_
        refine Eq.next ?_
        refine Cq.seq ?_
        refine Cq.region ?_
        refine Sq.move .plain rfl rfl ?_
        have hd236 := hB20.lt
        have hd237 := hB193.lt
        have hd238 := hB214.lt
        refine Sq.call fn21 .plain rfl rfl (drawExtend_c _ _ _ _ _ (hc'.ext E) hcap') ?_
        rintro _ w225 ⟨⟨u227, k228, a229, rfl, ⟨nx230, ac231, rfl, hn232, ha233⟩, hsm234, hk235⟩, e226⟩
        have hs239 := Below.size E
        have hs240 := Below.size e226
        replace E := E.trans e226
        replace hn11 := hn11.ext e226
        replace ha12 := ha12.ext e226
        replace hB20 := hB20.ext e226
        replace hn186 := hn186.ext e226
        replace ha187 := ha187.ext e226
        replace hB193 := hB193.ext e226
        replace hn207 := hn207.ext e226
        replace ha208 := ha208.ext e226
        replace hB214 := hB214.ext e226
        refine Sq.move .plain rfl rfl ?_
        refine Sq.extract .plain rfl rfl rfl ?_
        refine Sq.extract .plain rfl rfl rfl ?_
        refine Sq.alloc zero26 .plain rfl (fun b241 w242 e243 hB244 hlo245 => ?_)
        have hd246 := Nat.le_trans (Below.size E) hlo245
        have hd247 := Nat.lt_of_lt_of_le hB20.lt hlo245
        have hd248 := Nat.lt_of_lt_of_le hB193.lt hlo245
        have hd249 := Nat.lt_of_lt_of_le hB214.lt hlo245
        have hs250 := Below.size e243
        replace E := E.trans e243
        replace hn11 := hn11.ext e243
        replace ha12 := ha12.ext e243
        replace hB20 := hB20.ext e243
        replace hn186 := hn186.ext e243
        replace ha187 := ha187.ext e243
        replace hB193 := hB193.ext e243
        replace hn207 := hn207.ext e243
        replace ha208 := ha208.ext e243
        replace hB214 := hB214.ext e243
        replace hn232 := hn232.ext e243
        replace ha233 := ha233.ext e243
        refine Sq.storeAgg agg26 .plain rfl rfl (one_cons rfl (one_cons (Rows.one hn232) (one_cons (Row.one ha233) one_nil))) hB244 rfl rfl (fun w251 g252 hB253 => ?_)
        have hs254 := World.grownBy.size g252
        replace E := E.grown g252 (fun k hk => by injection hk with hk; subst hk; omega)
        replace hn11 := hn11.stored g252 hB244 (by decide) (by decide)
        replace ha12 := ha12.stored g252 hB244 (by decide)
        replace hB20 := hB20.grown g252 (by intro h; injection h with h; omega)
        replace hn186 := hn186.stored g252 hB244 (by decide) (by decide)
        replace ha187 := ha187.stored g252 hB244 (by decide)
        replace hB193 := hB193.grown g252 (by intro h; injection h with h; omega)
        replace hn207 := hn207.stored g252 hB244 (by decide) (by decide)
        replace ha208 := ha208.stored g252 hB244 (by decide)
        replace hB214 := hB214.grown g252 (by intro h; injection h with h; omega)
        replace hn232 := hn232.stored g252 hB244 (by decide) (by decide)
        replace ha233 := ha233.stored g252 hB244 (by decide)
        replace hB244 := hB253
        refine Sq.assign .plain rfl rfl ?_
        refine Sq.nil ?_
        refine Eq.next ?_
        refine Cq.seq ?_
        refine Cq.seq ?_
        refine Cq.region ?_
        refine Sq.loadAgg agg26 .plain rfl rfl hB193 rfl ?_
        refine Sq.loadAgg agg26 .plain rfl rfl hB214 rfl ?_
        have hd258 := hB20.lt
        have hd259 := hB193.lt
        have hd260 := hB214.lt
        have hd261 := hB244.lt
        refine Sq.call fn18 .plain rfl rfl (agAutomata_c _ zeroA zeroA _ _ _ _ (OwnRows.rows hn186) (Own.row ha187) (OwnRows.rows hn207) (Own.row ha208) (by first | exact fit_zero | exact fit_of_valid (by first | assumption | exact extend_valid hv hk | exact compl_valid' (extend_valid hv hk) | exact extend_valid (extend_valid hv hk) (by omega)) | assumption)) ?_
        rintro _ w256 ⟨rfl, e257⟩
        have hs262 := Below.size E
        have hs263 := Below.size e257
        replace E := E.trans e257
        replace hn11 := hn11.ext e257
        replace ha12 := ha12.ext e257
        replace hB20 := hB20.ext e257
        replace hn186 := hn186.ext e257
        replace ha187 := ha187.ext e257
        replace hB193 := hB193.ext e257
        replace hn207 := hn207.ext e257
        replace ha208 := ha208.ext e257
        replace hB214 := hB214.ext e257
        replace hn232 := hn232.ext e257
        replace ha233 := ha233.ext e257
        replace hB244 := hB244.ext e257
        refine Sq.beT (by exact eqA_refl _) ?_
        refine Sq.notT .plain rfl rfl ?_
        refine Sq.move .plain rfl rfl ?_
        refine Sq.move (.met rfl rfl rfl) rfl rfl ?_
        refine Sq.move (.met rfl rfl rfl) rfl rfl ?_
        refine Sq.neqB und4 (.met rfl rfl rfl) rfl rfl rfl ?_
        refine Sq.pickF .plain rfl rfl rfl ?_
        refine Sq.move .plain rfl rfl ?_
        refine Sq.move (.met rfl rfl rfl) rfl rfl ?_
        refine Sq.notF (.met rfl rfl rfl) rfl rfl ?_
        refine Sq.pickF .plain rfl rfl rfl ?_
        refine Sq.move .plain rfl rfl ?_
        refine Sq.off rfl rfl rfl rfl rfl rfl ?_
        refine Sq.off rfl rfl rfl rfl rfl rfl ?_
        refine Sq.off rfl rfl rfl rfl rfl rfl ?_
        refine Sq.pickT .plain rfl rfl rfl ?_
        refine Sq.nil ?_
        refine Eq.next ?_
        refine Cq.thn rfl ?_
        refine Cq.seq ?_
        refine Cq.region ?_
        refine Sq.loadAgg agg26 .plain rfl rfl hB193 rfl ?_
        refine Sq.loadAgg agg26 .plain rfl rfl hB214 rfl ?_
        have hd267 := hB20.lt
        have hd268 := hB193.lt
        have hd269 := hB214.lt
        have hd270 := hB244.lt
        refine Sq.call fn18 .plain rfl rfl (agAutomata_c _ zeroA zeroA _ _ _ _ (OwnRows.rows hn186) (Own.row ha187) (OwnRows.rows hn207) (Own.row ha208) (by first | exact fit_zero | exact fit_of_valid (by first | assumption | exact extend_valid hv hk | exact compl_valid' (extend_valid hv hk) | exact extend_valid (extend_valid hv hk) (by omega)) | assumption)) ?_
        rintro _ w265 ⟨rfl, e266⟩
        have hs271 := Below.size E
        have hs272 := Below.size e266
        replace E := E.trans e266
        replace hn11 := hn11.ext e266
        replace ha12 := ha12.ext e266
        replace hB20 := hB20.ext e266
        replace hn186 := hn186.ext e266
        replace ha187 := ha187.ext e266
        replace hB193 := hB193.ext e266
        replace hn207 := hn207.ext e266
        replace ha208 := ha208.ext e266
        replace hB214 := hB214.ext e266
        replace hn232 := hn232.ext e266
        replace ha233 := ha233.ext e266
        replace hB244 := hB244.ext e266
        refine Sq.beT (by exact eqA_refl _) ?_
        refine Sq.move .plain rfl rfl ?_
        refine Sq.move (.met rfl rfl rfl) rfl rfl ?_
        refine Sq.move (.met rfl rfl rfl) rfl rfl ?_
        refine Sq.eqlB und4 (.met rfl rfl rfl) rfl rfl rfl ?_
        refine Sq.pickT .plain rfl rfl rfl ?_
        refine Sq.assign .plain rfl rfl ?_
        refine Sq.nil ?_
        refine Eq.next ?_
        refine Cq.ret ?_
        refine Eq.pastRet ?_
        refine Eq.ret1 rfl rfl ?_
        exact ⟨rfl, E⟩

set_option maxRecDepth 100000 in
theorem lExtendCompl (w0 : World) (e : TypeId) (a0 : Option Addr) (c0 : Nat) (cs : List UInt8) (hc : Bytes w0 e (.slice a0 cs.length c0) cs) (hcap : cs.length ≤ c0) : Ret Try.prog 7 #[Value.slice a0 cs.length c0] w0 (fun v w => v = .bool true ∧ Ext w0 w) := by
  have E := Ext.refl w0
  refine Ret.of (args := [Value.slice a0 cs.length c0]) Try.func7 rfl rfl rfl ?_
  rintro _ rfl
  show Cq _ _ _ _ [(0, Value.slice a0 cs.length c0)] _
  refine Cq.seq ?_
  refine Cq.region ?_
  refine Sq.assign .plain rfl rfl ?_
  refine Sq.nil ?_
  refine Eq.next ?_
  refine Cq.seq ?_
  refine Cq.seq ?_
  refine Cq.region ?_
  refine Sq.move .plain rfl rfl ?_
  refine Sq.lenBytes (hc.ext E) .plain rfl und22 rfl ?_
  refine Sq.gtr .plain rfl rfl rfl ?_
  refine Sq.part (fun c1 => ?_) (fun c1 => ?_)
  · refine Sq.nil ?_
    refine Eq.next ?_
    refine Cq.thn rfl ?_
    refine Cq.seq ?_
    refine Cq.region ?_
    refine Sq.assign .plain rfl rfl ?_
    refine Sq.nil ?_
    refine Eq.next ?_
    refine Cq.ret ?_
    refine Eq.pastRet ?_
    refine Eq.ret1 rfl rfl ?_
    exact ⟨rfl, E⟩
  · refine Sq.nil ?_
    refine Eq.next ?_
    refine Cq.els rfl ?_
    refine Cq.skip ?_
    refine Eq.next ?_
    refine Cq.seq ?_
    refine Cq.region ?_
    refine Sq.move .plain rfl rfl ?_
    refine Sq.call fn21 .plain rfl rfl (drawExtend_c _ _ _ _ _ (hc.ext E) hcap) ?_
    rintro _ w3 ⟨⟨u5, k6, a7, rfl, ⟨nx8, ac9, rfl, hn10, ha11⟩, hsm12, hk13⟩, e4⟩
    have hs14 := Below.size E
    have hs15 := Below.size e4
    replace E := E.trans e4
    refine Sq.move .plain rfl rfl ?_
    refine Sq.extract .plain rfl rfl rfl ?_
    refine Sq.extract .plain rfl rfl rfl ?_
    refine Sq.alloc zero26 .plain rfl (fun b16 w17 e18 hB19 hlo20 => ?_)
    have hd21 := Nat.le_trans (Below.size E) hlo20
    have hs22 := Below.size e18
    replace E := E.trans e18
    replace hn10 := hn10.ext e18
    replace ha11 := ha11.ext e18
    refine Sq.storeAgg agg26 .plain rfl rfl (one_cons rfl (one_cons (Rows.one hn10) (one_cons (Row.one ha11) one_nil))) hB19 rfl rfl (fun w23 g24 hB25 => ?_)
    have hs26 := World.grownBy.size g24
    replace E := E.grown g24 (fun k hk => by injection hk with hk; subst hk; omega)
    replace hn10 := hn10.stored g24 hB19 (by decide) (by decide)
    replace ha11 := ha11.stored g24 hB19 (by decide)
    replace hB19 := hB25
    refine Sq.assign .plain rfl rfl ?_
    refine Sq.nil ?_
    refine Eq.next ?_
    refine Cq.seq ?_
    refine Cq.region ?_
    refine Sq.loadAgg agg26 .plain rfl rfl hB19 rfl ?_
    refine Sq.move .plain rfl rfl ?_
    rcases Bool.eq_false_or_eq_true (validA a7 && decide (0 ≤ k6 ∧ k6 ≤ 63)) with hC | hC
    · obtain ⟨hv, hk⟩ := cond_spec hC
      refine Sq.call fn22 .plain rfl rfl (extend_c_T _ a7 _ _ hn10 ha11 k6 hC) ?_
      rintro _ w28 ⟨⟨_, rfl, nx30, ac31, rfl, hn32, ha33⟩, e29⟩
      have hs34 := Below.size E
      have hs35 := Below.size e29
      replace E := E.trans e29
      replace hn10 := hn10.ext e29
      replace ha11 := ha11.ext e29
      replace hB19 := hB19.ext e29
      refine Sq.move .plain rfl rfl ?_
      refine Sq.extract .plain rfl rfl rfl ?_
      refine Sq.extract .plain rfl rfl rfl ?_
      refine Sq.alloc zero26 .plain rfl (fun b36 w37 e38 hB39 hlo40 => ?_)
      have hd41 := Nat.le_trans (Below.size E) hlo40
      have hd42 := Nat.lt_of_lt_of_le hB19.lt hlo40
      have hs43 := Below.size e38
      replace E := E.trans e38
      replace hn10 := hn10.ext e38
      replace ha11 := ha11.ext e38
      replace hB19 := hB19.ext e38
      replace hn32 := hn32.ext e38
      replace ha33 := ha33.ext e38
      refine Sq.storeAgg agg26 .plain rfl rfl (one_cons rfl (one_cons (Rows.one (OwnRows.rows hn32)) (one_cons (Row.one (Own.row ha33)) one_nil))) hB39 rfl rfl (fun w44 g45 hB46 => ?_)
      have hs47 := World.grownBy.size g45
      replace E := E.grown g45 (fun k hk => by injection hk with hk; subst hk; omega)
      replace hn10 := hn10.stored g45 hB39 (by decide) (by decide)
      replace ha11 := ha11.stored g45 hB39 (by decide)
      replace hB19 := hB19.grown g45 (by intro h; injection h with h; omega)
      replace hn32 := hn32.stored g45 hB39 (by decide) (by decide)
      replace ha33 := ha33.stored g45 hB39 (by decide)
      replace hB39 := hB46
      refine Sq.assign .plain rfl rfl ?_
      refine Sq.nil ?_
      refine Eq.next ?_
      refine Cq.seq ?_
      refine Cq.region ?_
      refine Sq.loadAgg agg26 .plain rfl rfl hB19 rfl ?_
      refine Sq.move .plain rfl rfl ?_
      refine Sq.call fn23 .plain rfl rfl (sExtend_c_T _ a7 _ _ hn10 ha11 k6 hC) ?_
      rintro _ w49 ⟨⟨_, rfl, nx51, ac52, rfl, hn53, ha54⟩, e50⟩
      have hs55 := Below.size E
      have hs56 := Below.size e50
      replace E := E.trans e50
      replace hn10 := hn10.ext e50
      replace ha11 := ha11.ext e50
      replace hB19 := hB19.ext e50
      replace hn32 := hn32.ext e50
      replace ha33 := ha33.ext e50
      replace hB39 := hB39.ext e50
      refine Sq.move .plain rfl rfl ?_
      refine Sq.extract .plain rfl rfl rfl ?_
      refine Sq.extract .plain rfl rfl rfl ?_
      refine Sq.alloc zero26 .plain rfl (fun b57 w58 e59 hB60 hlo61 => ?_)
      have hd62 := Nat.le_trans (Below.size E) hlo61
      have hd63 := Nat.lt_of_lt_of_le hB19.lt hlo61
      have hd64 := Nat.lt_of_lt_of_le hB39.lt hlo61
      have hs65 := Below.size e59
      replace E := E.trans e59
      replace hn10 := hn10.ext e59
      replace ha11 := ha11.ext e59
      replace hB19 := hB19.ext e59
      replace hn32 := hn32.ext e59
      replace ha33 := ha33.ext e59
      replace hB39 := hB39.ext e59
      replace hn53 := hn53.ext e59
      replace ha54 := ha54.ext e59
      refine Sq.storeAgg agg26 .plain rfl rfl (one_cons rfl (one_cons (Rows.one (OwnRows.rows hn53)) (one_cons (Row.one (Own.row ha54)) one_nil))) hB60 rfl rfl (fun w66 g67 hB68 => ?_)
      have hs69 := World.grownBy.size g67
      replace E := E.grown g67 (fun k hk => by injection hk with hk; subst hk; omega)
      replace hn10 := hn10.stored g67 hB60 (by decide) (by decide)
      replace ha11 := ha11.stored g67 hB60 (by decide)
      replace hB19 := hB19.grown g67 (by intro h; injection h with h; omega)
      replace hn32 := hn32.stored g67 hB60 (by decide) (by decide)
      replace ha33 := ha33.stored g67 hB60 (by decide)
      replace hB39 := hB39.grown g67 (by intro h; injection h with h; omega)
      replace hn53 := hn53.stored g67 hB60 (by decide) (by decide)
      replace ha54 := ha54.stored g67 hB60 (by decide)
      replace hB60 := hB68
      refine Sq.assign .plain rfl rfl ?_
      refine Sq.nil ?_
      refine Eq.next ?_
      refine Cq.seq ?_
      refine Cq.seq ?_
      refine Cq.region ?_
      refine Sq.loadAgg agg26 .plain rfl rfl hB39 rfl ?_
      refine Sq.loadAgg agg26 .plain rfl rfl hB60 rfl ?_
      have hd73 := hB19.lt
      have hd74 := hB39.lt
      have hd75 := hB60.lt
      refine Sq.call fn18 .plain rfl rfl (agAutomata_c _ (extend a7 k6) (extend a7 k6) _ _ _ _ (OwnRows.rows hn32) (Own.row ha33) (OwnRows.rows hn53) (Own.row ha54) (by first | exact fit_zero | exact fit_of_valid (by first | assumption | exact extend_valid hv hk | exact compl_valid' (extend_valid hv hk) | exact hv) | assumption)) ?_
      rintro _ w71 ⟨rfl, e72⟩
      have hs76 := Below.size E
      have hs77 := Below.size e72
      replace E := E.trans e72
      replace hn10 := hn10.ext e72
      replace ha11 := ha11.ext e72
      replace hB19 := hB19.ext e72
      replace hn32 := hn32.ext e72
      replace ha33 := ha33.ext e72
      replace hB39 := hB39.ext e72
      replace hn53 := hn53.ext e72
      replace ha54 := ha54.ext e72
      replace hB60 := hB60.ext e72
      refine Sq.beT (by exact eqA_refl _) ?_
      refine Sq.notT .plain rfl rfl ?_
      refine Sq.move .plain rfl rfl ?_
      refine Sq.move (.met rfl rfl rfl) rfl rfl ?_
      refine Sq.move (.met rfl rfl rfl) rfl rfl ?_
      refine Sq.neqB und4 (.met rfl rfl rfl) rfl rfl rfl ?_
      refine Sq.pickF .plain rfl rfl rfl ?_
      refine Sq.move .plain rfl rfl ?_
      refine Sq.move (.met rfl rfl rfl) rfl rfl ?_
      refine Sq.notT (.met rfl rfl rfl) rfl rfl ?_
      refine Sq.pickF .plain rfl rfl rfl ?_
      refine Sq.nil ?_
      refine Eq.next ?_
      refine Cq.els rfl ?_
      refine Cq.skip ?_
      refine Eq.next ?_
      refine Cq.seq ?_
      refine Cq.region ?_
      refine Sq.loadAgg agg26 .plain rfl rfl hB39 rfl ?_
      refine Sq.call fn29 .plain rfl rfl (compl_c_T _ (extend a7 k6) _ _ (OwnRows.rows hn32) (Own.row ha33) (by exact extend_valid hv hk)) ?_
      rintro _ w79 ⟨⟨_, rfl, nx81, ac82, rfl, hn83, ha84⟩, e80⟩
      have hs85 := Below.size E
      have hs86 := Below.size e80
      replace E := E.trans e80
      replace hn10 := hn10.ext e80
      replace ha11 := ha11.ext e80
      replace hB19 := hB19.ext e80
      replace hn32 := hn32.ext e80
      replace ha33 := ha33.ext e80
      replace hB39 := hB39.ext e80
      replace hn53 := hn53.ext e80
      replace ha54 := ha54.ext e80
      replace hB60 := hB60.ext e80
      refine Sq.move .plain rfl rfl ?_
      refine Sq.extract .plain rfl rfl rfl ?_
      refine Sq.extract .plain rfl rfl rfl ?_
      refine Sq.alloc zero26 .plain rfl (fun b87 w88 e89 hB90 hlo91 => ?_)
      have hd92 := Nat.le_trans (Below.size E) hlo91
      have hd93 := Nat.lt_of_lt_of_le hB19.lt hlo91
      have hd94 := Nat.lt_of_lt_of_le hB39.lt hlo91
      have hd95 := Nat.lt_of_lt_of_le hB60.lt hlo91
      have hs96 := Below.size e89
      replace E := E.trans e89
      replace hn10 := hn10.ext e89
      replace ha11 := ha11.ext e89
      replace hB19 := hB19.ext e89
      replace hn32 := hn32.ext e89
      replace ha33 := ha33.ext e89
      replace hB39 := hB39.ext e89
      replace hn53 := hn53.ext e89
      replace ha54 := ha54.ext e89
      replace hB60 := hB60.ext e89
      replace hn83 := hn83.ext e89
      replace ha84 := ha84.ext e89
      refine Sq.storeAgg agg26 .plain rfl rfl (one_cons rfl (one_cons (Rows.one (OwnRows.rows hn83)) (one_cons (Row.one (Own.row ha84)) one_nil))) hB90 rfl rfl (fun w97 g98 hB99 => ?_)
      have hs100 := World.grownBy.size g98
      replace E := E.grown g98 (fun k hk => by injection hk with hk; subst hk; omega)
      replace hn10 := hn10.stored g98 hB90 (by decide) (by decide)
      replace ha11 := ha11.stored g98 hB90 (by decide)
      replace hB19 := hB19.grown g98 (by intro h; injection h with h; omega)
      replace hn32 := hn32.stored g98 hB90 (by decide) (by decide)
      replace ha33 := ha33.stored g98 hB90 (by decide)
      replace hB39 := hB39.grown g98 (by intro h; injection h with h; omega)
      replace hn53 := hn53.stored g98 hB90 (by decide) (by decide)
      replace ha54 := ha54.stored g98 hB90 (by decide)
      replace hB60 := hB60.grown g98 (by intro h; injection h with h; omega)
      replace hn83 := hn83.stored g98 hB90 (by decide) (by decide)
      replace ha84 := ha84.stored g98 hB90 (by decide)
      replace hB90 := hB99
      refine Sq.assign .plain rfl rfl ?_
      refine Sq.nil ?_
      refine Eq.next ?_
      refine Cq.seq ?_
      refine Cq.region ?_
      refine Sq.loadAgg agg26 .plain rfl rfl hB19 rfl ?_
      refine Sq.call fn29 .plain rfl rfl (compl_c_T _ a7 _ _ hn10 ha11 (by exact hv)) ?_
      rintro _ w102 ⟨⟨_, rfl, nx104, ac105, rfl, hn106, ha107⟩, e103⟩
      have hs108 := Below.size E
      have hs109 := Below.size e103
      replace E := E.trans e103
      replace hn10 := hn10.ext e103
      replace ha11 := ha11.ext e103
      replace hB19 := hB19.ext e103
      replace hn32 := hn32.ext e103
      replace ha33 := ha33.ext e103
      replace hB39 := hB39.ext e103
      replace hn53 := hn53.ext e103
      replace ha54 := ha54.ext e103
      replace hB60 := hB60.ext e103
      replace hn83 := hn83.ext e103
      replace ha84 := ha84.ext e103
      replace hB90 := hB90.ext e103
      refine Sq.move .plain rfl rfl ?_
      refine Sq.extract .plain rfl rfl rfl ?_
      refine Sq.extract .plain rfl rfl rfl ?_
      refine Sq.alloc zero26 .plain rfl (fun b110 w111 e112 hB113 hlo114 => ?_)
      have hd115 := Nat.le_trans (Below.size E) hlo114
      have hd116 := Nat.lt_of_lt_of_le hB19.lt hlo114
      have hd117 := Nat.lt_of_lt_of_le hB39.lt hlo114
      have hd118 := Nat.lt_of_lt_of_le hB60.lt hlo114
      have hd119 := Nat.lt_of_lt_of_le hB90.lt hlo114
      have hs120 := Below.size e112
      replace E := E.trans e112
      replace hn10 := hn10.ext e112
      replace ha11 := ha11.ext e112
      replace hB19 := hB19.ext e112
      replace hn32 := hn32.ext e112
      replace ha33 := ha33.ext e112
      replace hB39 := hB39.ext e112
      replace hn53 := hn53.ext e112
      replace ha54 := ha54.ext e112
      replace hB60 := hB60.ext e112
      replace hn83 := hn83.ext e112
      replace ha84 := ha84.ext e112
      replace hB90 := hB90.ext e112
      replace hn106 := hn106.ext e112
      replace ha107 := ha107.ext e112
      refine Sq.storeAgg agg26 .plain rfl rfl (one_cons rfl (one_cons (Rows.one (OwnRows.rows hn106)) (one_cons (Row.one (Own.row ha107)) one_nil))) hB113 rfl rfl (fun w121 g122 hB123 => ?_)
      have hs124 := World.grownBy.size g122
      replace E := E.grown g122 (fun k hk => by injection hk with hk; subst hk; omega)
      replace hn10 := hn10.stored g122 hB113 (by decide) (by decide)
      replace ha11 := ha11.stored g122 hB113 (by decide)
      replace hB19 := hB19.grown g122 (by intro h; injection h with h; omega)
      replace hn32 := hn32.stored g122 hB113 (by decide) (by decide)
      replace ha33 := ha33.stored g122 hB113 (by decide)
      replace hB39 := hB39.grown g122 (by intro h; injection h with h; omega)
      replace hn53 := hn53.stored g122 hB113 (by decide) (by decide)
      replace ha54 := ha54.stored g122 hB113 (by decide)
      replace hB60 := hB60.grown g122 (by intro h; injection h with h; omega)
      replace hn83 := hn83.stored g122 hB113 (by decide) (by decide)
      replace ha84 := ha84.stored g122 hB113 (by decide)
      replace hB90 := hB90.grown g122 (by intro h; injection h with h; omega)
      replace hn106 := hn106.stored g122 hB113 (by decide) (by decide)
      replace ha107 := ha107.stored g122 hB113 (by decide)
      replace hB113 := hB123
      refine Sq.assign .plain rfl rfl ?_
      refine Sq.nil ?_
      refine Eq.next ?_
      refine Cq.seq ?_
      refine Cq.region ?_
      refine Sq.loadAgg agg26 .plain rfl rfl hB113 rfl ?_
      refine Sq.move .plain rfl rfl ?_
      refine Sq.call fn22 .plain rfl rfl (extend_c_T _ (compl a7) _ _ (OwnRows.rows hn106) (Own.row ha107) k6 (by exact cond_mk (compl_valid' hv) hk)) ?_
      rintro _ w126 ⟨⟨_, rfl, nx128, ac129, rfl, hn130, ha131⟩, e127⟩
      have hs132 := Below.size E
      have hs133 := Below.size e127
      replace E := E.trans e127
      replace hn10 := hn10.ext e127
      replace ha11 := ha11.ext e127
      replace hB19 := hB19.ext e127
      replace hn32 := hn32.ext e127
      replace ha33 := ha33.ext e127
      replace hB39 := hB39.ext e127
      replace hn53 := hn53.ext e127
      replace ha54 := ha54.ext e127
      replace hB60 := hB60.ext e127
      replace hn83 := hn83.ext e127
      replace ha84 := ha84.ext e127
      replace hB90 := hB90.ext e127
      replace hn106 := hn106.ext e127
      replace ha107 := ha107.ext e127
      replace hB113 := hB113.ext e127
      refine Sq.move .plain rfl rfl ?_
      refine Sq.extract .plain rfl rfl rfl ?_
      refine Sq.extract .plain rfl rfl rfl ?_
      refine Sq.alloc zero26 .plain rfl (fun b134 w135 e136 hB137 hlo138 => ?_)
      have hd139 := Nat.le_trans (Below.size E) hlo138
      have hd140 := Nat.lt_of_lt_of_le hB19.lt hlo138
      have hd141 := Nat.lt_of_lt_of_le hB39.lt hlo138
      have hd142 := Nat.lt_of_lt_of_le hB60.lt hlo138
      have hd143 := Nat.lt_of_lt_of_le hB90.lt hlo138
      have hd144 := Nat.lt_of_lt_of_le hB113.lt hlo138
      have hs145 := Below.size e136
      replace E := E.trans e136
      replace hn10 := hn10.ext e136
      replace ha11 := ha11.ext e136
      replace hB19 := hB19.ext e136
      replace hn32 := hn32.ext e136
      replace ha33 := ha33.ext e136
      replace hB39 := hB39.ext e136
      replace hn53 := hn53.ext e136
      replace ha54 := ha54.ext e136
      replace hB60 := hB60.ext e136
      replace hn83 := hn83.ext e136
      replace ha84 := ha84.ext e136
      replace hB90 := hB90.ext e136
      replace hn106 := hn106.ext e136
      replace ha107 := ha107.ext e136
      replace hB113 := hB113.ext e136
      replace hn130 := hn130.ext e136
      replace ha131 := ha131.ext e136
      refine Sq.storeAgg agg26 .plain rfl rfl (one_cons rfl (one_cons (Rows.one (OwnRows.rows hn130)) (one_cons (Row.one (Own.row ha131)) one_nil))) hB137 rfl rfl (fun w146 g147 hB148 => ?_)
      have hs149 := World.grownBy.size g147
      replace E := E.grown g147 (fun k hk => by injection hk with hk; subst hk; omega)
      replace hn10 := hn10.stored g147 hB137 (by decide) (by decide)
      replace ha11 := ha11.stored g147 hB137 (by decide)
      replace hB19 := hB19.grown g147 (by intro h; injection h with h; omega)
      replace hn32 := hn32.stored g147 hB137 (by decide) (by decide)
      replace ha33 := ha33.stored g147 hB137 (by decide)
      replace hB39 := hB39.grown g147 (by intro h; injection h with h; omega)
      replace hn53 := hn53.stored g147 hB137 (by decide) (by decide)
      replace ha54 := ha54.stored g147 hB137 (by decide)
      replace hB60 := hB60.grown g147 (by intro h; injection h with h; omega)
      replace hn83 := hn83.stored g147 hB137 (by decide) (by decide)
      replace ha84 := ha84.stored g147 hB137 (by decide)
      replace hB90 := hB90.grown g147 (by intro h; injection h with h; omega)
      replace hn106 := hn106.stored g147 hB137 (by decide) (by decide)
      replace ha107 := ha107.stored g147 hB137 (by decide)
      replace hB113 := hB113.grown g147 (by intro h; injection h with h; omega)
      replace hn130 := hn130.stored g147 hB137 (by decide) (by decide)
      replace ha131 := ha131.stored g147 hB137 (by decide)
      replace hB137 := hB148
      refine Sq.assign .plain rfl rfl ?_
      refine Sq.nil ?_
      refine Eq.next ?_
      refine Cq.seq ?_
      refine Cq.region ?_
      refine Sq.move .plain rfl rfl ?_
      refine Sq.move .plain rfl rfl ?_
      refine Sq.loadAgg agg26 (.met rfl rfl rfl) rfl rfl hB90 rfl ?_
      refine Sq.loadAgg agg26 (.met rfl rfl rfl) rfl rfl hB137 rfl ?_
      have hd153 := hB19.lt
      have hd154 := hB39.lt
      have hd155 := hB60.lt
      have hd156 := hB90.lt
      have hd157 := hB113.lt
      have hd158 := hB137.lt
      refine Sq.call fn18 (.met rfl rfl rfl) rfl rfl (agAutomata_c _ ((compl (extend a7 k6))) ((extend (compl a7) k6)) _ _ _ _ (OwnRows.rows hn83) (Own.row ha84) (OwnRows.rows hn130) (Own.row ha131) (by first | exact fit_zero | exact fit_of_valid (by first | assumption | exact extend_valid hv hk | exact compl_valid' (extend_valid hv hk) | exact hv) | assumption)) ?_
      rintro _ w151 ⟨rfl, e152⟩
      have hs159 := Below.size E
      have hs160 := Below.size e152
      replace E := E.trans e152
      replace hn10 := hn10.ext e152
      replace ha11 := ha11.ext e152
      replace hB19 := hB19.ext e152
      replace hn32 := hn32.ext e152
      replace ha33 := ha33.ext e152
      replace hB39 := hB39.ext e152
      replace hn53 := hn53.ext e152
      replace ha54 := ha54.ext e152
      replace hB60 := hB60.ext e152
      replace hn83 := hn83.ext e152
      replace ha84 := ha84.ext e152
      replace hB90 := hB90.ext e152
      replace hn106 := hn106.ext e152
      replace ha107 := ha107.ext e152
      replace hB113 := hB113.ext e152
      replace hn130 := hn130.ext e152
      replace ha131 := ha131.ext e152
      replace hB137 := hB137.ext e152
      refine Sq.beT (by exact eqA_refl (compl (extend _ _))) ?_
      refine Sq.pickT .plain rfl rfl rfl ?_
      refine Sq.assign .plain rfl rfl ?_
      refine Sq.nil ?_
      refine Eq.next ?_
      refine Cq.ret ?_
      refine Eq.ret1 rfl rfl ?_
      exact ⟨rfl, E⟩
    · refine Sq.call fn22 .plain rfl rfl (extend_c_F _ a7 _ _ hn10 ha11 k6 hC) ?_
      rintro _ w162 ⟨⟨_, rfl, nx164, ac165, rfl, hn166, ha167⟩, e163⟩
      have hs168 := Below.size E
      have hs169 := Below.size e163
      replace E := E.trans e163
      replace hn10 := hn10.ext e163
      replace ha11 := ha11.ext e163
      replace hB19 := hB19.ext e163
      refine Sq.move .plain rfl rfl ?_
      refine Sq.extract .plain rfl rfl rfl ?_
      refine Sq.extract .plain rfl rfl rfl ?_
      refine Sq.alloc zero26 .plain rfl (fun b170 w171 e172 hB173 hlo174 => ?_)
      have hd175 := Nat.le_trans (Below.size E) hlo174
      have hd176 := Nat.lt_of_lt_of_le hB19.lt hlo174
      have hs177 := Below.size e172
      replace E := E.trans e172
      replace hn10 := hn10.ext e172
      replace ha11 := ha11.ext e172
      replace hB19 := hB19.ext e172
      replace hn166 := hn166.ext e172
      replace ha167 := ha167.ext e172
      refine Sq.storeAgg agg26 .plain rfl rfl (one_cons rfl (one_cons (Rows.one (OwnRows.rows hn166)) (one_cons (Row.one (Own.row ha167)) one_nil))) hB173 rfl rfl (fun w178 g179 hB180 => ?_)
      have hs181 := World.grownBy.size g179
      replace E := E.grown g179 (fun k hk => by injection hk with hk; subst hk; omega)
      replace hn10 := hn10.stored g179 hB173 (by decide) (by decide)
      replace ha11 := ha11.stored g179 hB173 (by decide)
      replace hB19 := hB19.grown g179 (by intro h; injection h with h; omega)
      replace hn166 := hn166.stored g179 hB173 (by decide) (by decide)
      replace ha167 := ha167.stored g179 hB173 (by decide)
      replace hB173 := hB180
      refine Sq.assign .plain rfl rfl ?_
      refine Sq.nil ?_
      refine Eq.next ?_
      refine Cq.seq ?_
      refine Cq.region ?_
      refine Sq.loadAgg agg26 .plain rfl rfl hB19 rfl ?_
      refine Sq.move .plain rfl rfl ?_
      refine Sq.call fn23 .plain rfl rfl (sExtend_c_F _ a7 _ _ hn10 ha11 k6 hC) ?_
      rintro _ w183 ⟨⟨_, rfl, nx185, ac186, rfl, hn187, ha188⟩, e184⟩
      have hs189 := Below.size E
      have hs190 := Below.size e184
      replace E := E.trans e184
      replace hn10 := hn10.ext e184
      replace ha11 := ha11.ext e184
      replace hB19 := hB19.ext e184
      replace hn166 := hn166.ext e184
      replace ha167 := ha167.ext e184
      replace hB173 := hB173.ext e184
      refine Sq.move .plain rfl rfl ?_
      refine Sq.extract .plain rfl rfl rfl ?_
      refine Sq.extract .plain rfl rfl rfl ?_
      refine Sq.alloc zero26 .plain rfl (fun b191 w192 e193 hB194 hlo195 => ?_)
      have hd196 := Nat.le_trans (Below.size E) hlo195
      have hd197 := Nat.lt_of_lt_of_le hB19.lt hlo195
      have hd198 := Nat.lt_of_lt_of_le hB173.lt hlo195
      have hs199 := Below.size e193
      replace E := E.trans e193
      replace hn10 := hn10.ext e193
      replace ha11 := ha11.ext e193
      replace hB19 := hB19.ext e193
      replace hn166 := hn166.ext e193
      replace ha167 := ha167.ext e193
      replace hB173 := hB173.ext e193
      replace hn187 := hn187.ext e193
      replace ha188 := ha188.ext e193
      refine Sq.storeAgg agg26 .plain rfl rfl (one_cons rfl (one_cons (Rows.one (OwnRows.rows hn187)) (one_cons (Row.one (Own.row ha188)) one_nil))) hB194 rfl rfl (fun w200 g201 hB202 => ?_)
      have hs203 := World.grownBy.size g201
      replace E := E.grown g201 (fun k hk => by injection hk with hk; subst hk; omega)
      replace hn10 := hn10.stored g201 hB194 (by decide) (by decide)
      replace ha11 := ha11.stored g201 hB194 (by decide)
      replace hB19 := hB19.grown g201 (by intro h; injection h with h; omega)
      replace hn166 := hn166.stored g201 hB194 (by decide) (by decide)
      replace ha167 := ha167.stored g201 hB194 (by decide)
      replace hB173 := hB173.grown g201 (by intro h; injection h with h; omega)
      replace hn187 := hn187.stored g201 hB194 (by decide) (by decide)
      replace ha188 := ha188.stored g201 hB194 (by decide)
      replace hB194 := hB202
      refine Sq.assign .plain rfl rfl ?_
      refine Sq.nil ?_
      refine Eq.next ?_
      refine Cq.seq ?_
      refine Cq.seq ?_
      refine Cq.region ?_
      refine Sq.loadAgg agg26 .plain rfl rfl hB173 rfl ?_
      refine Sq.loadAgg agg26 .plain rfl rfl hB194 rfl ?_
      have hd207 := hB19.lt
      have hd208 := hB173.lt
      have hd209 := hB194.lt
      refine Sq.call fn18 .plain rfl rfl (agAutomata_c _ zeroA zeroA _ _ _ _ (OwnRows.rows hn166) (Own.row ha167) (OwnRows.rows hn187) (Own.row ha188) (by first | exact fit_zero | exact fit_of_valid (by first | assumption | exact extend_valid hv hk | exact compl_valid' (extend_valid hv hk) | exact hv) | assumption)) ?_
      rintro _ w205 ⟨rfl, e206⟩
      have hs210 := Below.size E
      have hs211 := Below.size e206
      replace E := E.trans e206
      replace hn10 := hn10.ext e206
      replace ha11 := ha11.ext e206
      replace hB19 := hB19.ext e206
      replace hn166 := hn166.ext e206
      replace ha167 := ha167.ext e206
      replace hB173 := hB173.ext e206
      replace hn187 := hn187.ext e206
      replace ha188 := ha188.ext e206
      replace hB194 := hB194.ext e206
      refine Sq.beT (by exact eqA_refl _) ?_
      refine Sq.notT .plain rfl rfl ?_
      refine Sq.move .plain rfl rfl ?_
      refine Sq.move (.met rfl rfl rfl) rfl rfl ?_
      refine Sq.move (.met rfl rfl rfl) rfl rfl ?_
      refine Sq.neqB und4 (.met rfl rfl rfl) rfl rfl rfl ?_
      refine Sq.pickF .plain rfl rfl rfl ?_
      refine Sq.move .plain rfl rfl ?_
      refine Sq.move (.met rfl rfl rfl) rfl rfl ?_
      refine Sq.notF (.met rfl rfl rfl) rfl rfl ?_
      refine Sq.pickF .plain rfl rfl rfl ?_
      refine Sq.nil ?_
      refine Eq.next ?_
      refine Cq.thn rfl ?_
      refine Cq.seq ?_
      refine Cq.region ?_
      refine Sq.loadAgg agg26 .plain rfl rfl hB173 rfl ?_
      refine Sq.loadAgg agg26 .plain rfl rfl hB194 rfl ?_
      have hd215 := hB19.lt
      have hd216 := hB173.lt
      have hd217 := hB194.lt
      refine Sq.call fn18 .plain rfl rfl (agAutomata_c _ zeroA zeroA _ _ _ _ (OwnRows.rows hn166) (Own.row ha167) (OwnRows.rows hn187) (Own.row ha188) (by first | exact fit_zero | exact fit_of_valid (by first | assumption | exact extend_valid hv hk | exact compl_valid' (extend_valid hv hk) | exact hv) | assumption)) ?_
      rintro _ w213 ⟨rfl, e214⟩
      have hs218 := Below.size E
      have hs219 := Below.size e214
      replace E := E.trans e214
      replace hn10 := hn10.ext e214
      replace ha11 := ha11.ext e214
      replace hB19 := hB19.ext e214
      replace hn166 := hn166.ext e214
      replace ha167 := ha167.ext e214
      replace hB173 := hB173.ext e214
      replace hn187 := hn187.ext e214
      replace ha188 := ha188.ext e214
      replace hB194 := hB194.ext e214
      refine Sq.beT (by exact eqA_refl _) ?_
      refine Sq.move .plain rfl rfl ?_
      refine Sq.move (.met rfl rfl rfl) rfl rfl ?_
      refine Sq.move (.met rfl rfl rfl) rfl rfl ?_
      refine Sq.eqlB und4 (.met rfl rfl rfl) rfl rfl rfl ?_
      refine Sq.pickT .plain rfl rfl rfl ?_
      refine Sq.assign .plain rfl rfl ?_
      refine Sq.nil ?_
      refine Eq.next ?_
      refine Cq.ret ?_
      refine Eq.pastRet ?_
      refine Eq.ret1 rfl rfl ?_
      exact ⟨rfl, E⟩

end Go.Proofs.Ytmlhgkfbiapakaa
