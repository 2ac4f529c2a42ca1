/-
  Walks, printed by a program out of the translation and a contract for each function; each step is one law.
-/
import Derived.Test.YtmlhgkfbiapakaaWi
import Derived.Test.YtmlhgkfbiapakaaWk
import Derived.Test.YtmlhgkfbiapakaaWl
import Derived.Test.YtmlhgkfbiapakaaWs
set_option linter.unusedSimpArgs false
set_option linter.unusedVariables false
namespace Go.Proofs.Ytmlhgkfbiapakaa
open Go.RowKit

set_option maxRecDepth 100000 in
theorem lSafetyExtend (w0 : World) (e : TypeId) (a0 : Option Addr) (c0 : Nat) (cs : List UInt8) (hc : Bytes w0 e (.slice a0 cs.length c0) cs) (hcap : cs.length ≤ c0) : Ret Try.prog 8 #[Value.slice a0 cs.length c0] w0 (fun v w => v = .bool true ∧ Ext w0 w) := by
  have E := Ext.refl w0
  refine Ret.of (args := [Value.slice a0 cs.length c0]) Try.func8 rfl rfl rfl ?_
  rintro _ rfl
  show Cq _ _ _ _ [(0, Value.slice a0 cs.length c0)] _
  refine Cq.seq ?_
  refine Cq.region ?_
  refine Sq.assign .plain rfl rfl ?_
  refine Sq.nil ?_
  refine Eq.next ?_
  refine Cq.seq ?_
  refine Cq.seq ?_
  refine Cq.region ?_
  refine Sq.move .plain rfl rfl ?_
  refine Sq.lenBytes (hc.ext E) .plain rfl und22 rfl ?_
  refine Sq.gtr .plain rfl rfl rfl ?_
  refine Sq.part (fun c1 => ?_) (fun c1 => ?_)
  · refine Sq.nil ?_
    refine Eq.next ?_
    refine Cq.thn rfl ?_
    refine Cq.seq ?_
    refine Cq.region ?_
    refine Sq.assign .plain rfl rfl ?_
    refine Sq.nil ?_
    refine Eq.next ?_
    refine Cq.ret ?_
    refine Eq.pastRet ?_
    refine Eq.ret1 rfl rfl ?_
    exact ⟨rfl, E⟩
  · refine Sq.nil ?_
    refine Eq.next ?_
    refine Cq.els rfl ?_
    refine Cq.skip ?_
    refine Eq.next ?_
    refine Cq.seq ?_
    refine Cq.region ?_
    refine Sq.move .plain rfl rfl ?_
    refine Sq.call fn21 .plain rfl rfl (drawExtend_c _ _ _ _ _ (hc.ext E) hcap) ?_
    rintro _ w3 ⟨⟨u5, k6, a7, rfl, ⟨nx8, ac9, rfl, hn10, ha11⟩, hsm12, hk13⟩, e4⟩
    have hs14 := Below.size E
    have hs15 := Below.size e4
    replace E := E.trans e4
    refine Sq.move .plain rfl rfl ?_
    refine Sq.extract .plain rfl rfl rfl ?_
    refine Sq.extract .plain rfl rfl rfl ?_
    refine Sq.alloc zero26 .plain rfl (fun b16 w17 e18 hB19 hlo20 => ?_)
    have hd21 := Nat.le_trans (Below.size E) hlo20
    have hs22 := Below.size e18
    replace E := E.trans e18
    replace hn10 := hn10.ext e18
    replace ha11 := ha11.ext e18
    refine Sq.storeAgg agg26 .plain rfl rfl (one_cons rfl (one_cons (Rows.one hn10) (one_cons (Row.one ha11) one_nil))) hB19 rfl rfl (fun w23 g24 hB25 => ?_)
    have hs26 := World.grownBy.size g24
    replace E := E.grown g24 (fun k hk => by injection hk with hk; subst hk; omega)
    replace hn10 := hn10.stored g24 hB19 (by decide) (by decide)
    replace ha11 := ha11.stored g24 hB19 (by decide)
    replace hB19 := hB25
    refine Sq.assign .plain rfl rfl ?_
    refine Sq.nil ?_
    refine Eq.next ?_
    refine Cq.seq ?_
    refine Cq.region ?_
    refine Sq.loadAgg agg26 .plain rfl rfl hB19 rfl ?_
    refine Sq.move .plain rfl rfl ?_
    rcases Bool.eq_false_or_eq_true (validA a7 && decide (0 ≤ k6 ∧ k6 ≤ 63)) with hC | hC
    · obtain ⟨hv, hk⟩ := cond_spec hC
      refine Sq.call fn22 .plain rfl rfl (extend_c_T _ a7 _ _ hn10 ha11 k6 hC) ?_
      rintro _ w28 ⟨⟨_, rfl, nx30, ac31, rfl, hn32, ha33⟩, e29⟩
      have hs34 := Below.size E
      have hs35 := Below.size e29
      replace E := E.trans e29
      replace hn10 := hn10.ext e29
      replace ha11 := ha11.ext e29
      replace hB19 := hB19.ext e29
      refine Sq.move .plain rfl rfl ?_
      refine Sq.extract .plain rfl rfl rfl ?_
      refine Sq.extract .plain rfl rfl rfl ?_
      refine Sq.alloc zero26 .plain rfl (fun b36 w37 e38 hB39 hlo40 => ?_)
      have hd41 := Nat.le_trans (Below.size E) hlo40
      have hd42 := Nat.lt_of_lt_of_le hB19.lt hlo40
      have hs43 := Below.size e38
      replace E := E.trans e38
      replace hn10 := hn10.ext e38
      replace ha11 := ha11.ext e38
      replace hB19 := hB19.ext e38
      replace hn32 := hn32.ext e38
      replace ha33 := ha33.ext e38
      refine Sq.storeAgg agg26 .plain rfl rfl (one_cons rfl (one_cons (Rows.one (OwnRows.rows hn32)) (one_cons (Row.one (Own.row ha33)) one_nil))) hB39 rfl rfl (fun w44 g45 hB46 => ?_)
      have hs47 := World.grownBy.size g45
      replace E := E.grown g45 (fun k hk => by injection hk with hk; subst hk; omega)
      replace hn10 := hn10.stored g45 hB39 (by decide) (by decide)
      replace ha11 := ha11.stored g45 hB39 (by decide)
      replace hB19 := hB19.grown g45 (by intro h; injection h with h; omega)
      replace hn32 := hn32.stored g45 hB39 (by decide) (by decide)
      replace ha33 := ha33.stored g45 hB39 (by decide)
      replace hB39 := hB46
      refine Sq.assign .plain rfl rfl ?_
      refine Sq.nil ?_
      refine Eq.next ?_
      refine Cq.seq ?_
      refine Cq.region ?_
      refine Sq.loadAgg agg26 .plain rfl rfl hB19 rfl ?_
      refine Sq.move .plain rfl rfl ?_
      refine Sq.call fn23 .plain rfl rfl (sExtend_c_T _ a7 _ _ hn10 ha11 k6 hC) ?_
      rintro _ w49 ⟨⟨_, rfl, nx51, ac52, rfl, hn53, ha54⟩, e50⟩
      have hs55 := Below.size E
      have hs56 := Below.size e50
      replace E := E.trans e50
      replace hn10 := hn10.ext e50
      replace ha11 := ha11.ext e50
      replace hB19 := hB19.ext e50
      replace hn32 := hn32.ext e50
      replace ha33 := ha33.ext e50
      replace hB39 := hB39.ext e50
      refine Sq.move .plain rfl rfl ?_
      refine Sq.extract .plain rfl rfl rfl ?_
      refine Sq.extract .plain rfl rfl rfl ?_
      refine Sq.alloc zero26 .plain rfl (fun b57 w58 e59 hB60 hlo61 => ?_)
      have hd62 := Nat.le_trans (Below.size E) hlo61
      have hd63 := Nat.lt_of_lt_of_le hB19.lt hlo61
      have hd64 := Nat.lt_of_lt_of_le hB39.lt hlo61
      have hs65 := Below.size e59
      replace E := E.trans e59
      replace hn10 := hn10.ext e59
      replace ha11 := ha11.ext e59
      replace hB19 := hB19.ext e59
      replace hn32 := hn32.ext e59
      replace ha33 := ha33.ext e59
      replace hB39 := hB39.ext e59
      replace hn53 := hn53.ext e59
      replace ha54 := ha54.ext e59
      refine Sq.storeAgg agg26 .plain rfl rfl (one_cons rfl (one_cons (Rows.one (OwnRows.rows hn53)) (one_cons (Row.one (Own.row ha54)) one_nil))) hB60 rfl rfl (fun w66 g67 hB68 => ?_)
      have hs69 := World.grownBy.size g67
      replace E := E.grown g67 (fun k hk => by injection hk with hk; subst hk; omega)
      replace hn10 := hn10.stored g67 hB60 (by decide) (by decide)
      replace ha11 := ha11.stored g67 hB60 (by decide)
      replace hB19 := hB19.grown g67 (by intro h; injection h with h; omega)
      replace hn32 := hn32.stored g67 hB60 (by decide) (by decide)
      replace ha33 := ha33.stored g67 hB60 (by decide)
      replace hB39 := hB39.grown g67 (by intro h; injection h with h; omega)
      replace hn53 := hn53.stored g67 hB60 (by decide) (by decide)
      replace ha54 := ha54.stored g67 hB60 (by decide)
      replace hB60 := hB68
      refine Sq.assign .plain rfl rfl ?_
      refine Sq.nil ?_
      refine Eq.next ?_
      refine Cq.seq ?_
      refine Cq.seq ?_
      refine Cq.region ?_
      refine Sq.loadAgg agg26 .plain rfl rfl hB39 rfl ?_
      refine Sq.loadAgg agg26 .plain rfl rfl hB60 rfl ?_
      have hd73 := hB19.lt
      have hd74 := hB39.lt
      have hd75 := hB60.lt
      refine Sq.call fn18 .plain rfl rfl (agAutomata_c _ (extend a7 k6) (extend a7 k6) _ _ _ _ (OwnRows.rows hn32) (Own.row ha33) (OwnRows.rows hn53) (Own.row ha54) (by first | exact fit_zero | exact fit_of_valid (by first | assumption | exact extend_valid hv hk | exact compl_valid' (extend_valid hv hk) | exact safe_valid (extend_valid hv hk)) | assumption)) ?_
      rintro _ w71 ⟨rfl, e72⟩
      have hs76 := Below.size E
      have hs77 := Below.size e72
      replace E := E.trans e72
      replace hn10 := hn10.ext e72
      replace ha11 := ha11.ext e72
      replace hB19 := hB19.ext e72
      replace hn32 := hn32.ext e72
      replace ha33 := ha33.ext e72
      replace hB39 := hB39.ext e72
      replace hn53 := hn53.ext e72
      replace ha54 := ha54.ext e72
      replace hB60 := hB60.ext e72
      refine Sq.beT (by exact eqA_refl _) ?_
      refine Sq.notT .plain rfl rfl ?_
      refine Sq.move .plain rfl rfl ?_
      refine Sq.move (.met rfl rfl rfl) rfl rfl ?_
      refine Sq.move (.met rfl rfl rfl) rfl rfl ?_
      refine Sq.neqB und4 (.met rfl rfl rfl) rfl rfl rfl ?_
      refine Sq.pickF .plain rfl rfl rfl ?_
      refine Sq.move .plain rfl rfl ?_
      refine Sq.move (.met rfl rfl rfl) rfl rfl ?_
      refine Sq.notT (.met rfl rfl rfl) rfl rfl ?_
      refine Sq.pickF .plain rfl rfl rfl ?_
      refine Sq.nil ?_
      refine Eq.next ?_
      refine Cq.els rfl ?_
      refine Cq.skip ?_
      refine Eq.next ?_
      refine Cq.seq ?_
      refine Cq.region ?_
      refine Sq.loadAgg agg26 .plain rfl rfl hB39 rfl ?_
      refine Sq.call fn16 .plain rfl rfl (safety_c_T _ (extend a7 k6) _ _ (OwnRows.rows hn32) (Own.row ha33) (by exact extend_valid hv hk)) ?_
      rintro _ w79 ⟨⟨_, rfl, nx81, ac82, rfl, hn83, ha84⟩, e80⟩
      have hs85 := Below.size E
      have hs86 := Below.size e80
      replace E := E.trans e80
      replace hn10 := hn10.ext e80
      replace ha11 := ha11.ext e80
      replace hB19 := hB19.ext e80
      replace hn32 := hn32.ext e80
      replace ha33 := ha33.ext e80
      replace hB39 := hB39.ext e80
      replace hn53 := hn53.ext e80
      replace ha54 := ha54.ext e80
      replace hB60 := hB60.ext e80
      refine Sq.move .plain rfl rfl ?_
      refine Sq.extract .plain rfl rfl rfl ?_
      refine Sq.extract .plain rfl rfl rfl ?_
      refine Sq.alloc zero26 .plain rfl (fun b87 w88 e89 hB90 hlo91 => ?_)
      have hd92 := Nat.le_trans (Below.size E) hlo91
      have hd93 := Nat.lt_of_lt_of_le hB19.lt hlo91
      have hd94 := Nat.lt_of_lt_of_le hB39.lt hlo91
      have hd95 := Nat.lt_of_lt_of_le hB60.lt hlo91
      have hs96 := Below.size e89
      replace E := E.trans e89
      replace hn10 := hn10.ext e89
      replace ha11 := ha11.ext e89
      replace hB19 := hB19.ext e89
      replace hn32 := hn32.ext e89
      replace ha33 := ha33.ext e89
      replace hB39 := hB39.ext e89
      replace hn53 := hn53.ext e89
      replace ha54 := ha54.ext e89
      replace hB60 := hB60.ext e89
      replace hn83 := hn83.ext e89
      replace ha84 := ha84.ext e89
      refine Sq.storeAgg agg26 .plain rfl rfl (one_cons rfl (one_cons (Rows.one (OwnRows.rows hn83)) (one_cons (Row.one (Own.row ha84)) one_nil))) hB90 rfl rfl (fun w97 g98 hB99 => ?_)
      have hs100 := World.grownBy.size g98
      replace E := E.grown g98 (fun k hk => by injection hk with hk; subst hk; omega)
      replace hn10 := hn10.stored g98 hB90 (by decide) (by decide)
      replace ha11 := ha11.stored g98 hB90 (by decide)
      replace hB19 := hB19.grown g98 (by intro h; injection h with h; omega)
      replace hn32 := hn32.stored g98 hB90 (by decide) (by decide)
      replace ha33 := ha33.stored g98 hB90 (by decide)
      replace hB39 := hB39.grown g98 (by intro h; injection h with h; omega)
      replace hn53 := hn53.stored g98 hB90 (by decide) (by decide)
      replace ha54 := ha54.stored g98 hB90 (by decide)
      replace hB60 := hB60.grown g98 (by intro h; injection h with h; omega)
      replace hn83 := hn83.stored g98 hB90 (by decide) (by decide)
      replace ha84 := ha84.stored g98 hB90 (by decide)
      replace hB90 := hB99
      refine Sq.assign .plain rfl rfl ?_
      refine Sq.nil ?_
      refine Eq.next ?_
      refine Cq.seq ?_
      refine Cq.region ?_
      refine Sq.loadAgg agg26 .plain rfl rfl hB19 rfl ?_
      refine Sq.call fn16 .plain rfl rfl (safety_c_T _ a7 _ _ hn10 ha11 (by exact hv)) ?_
      rintro _ w102 ⟨⟨_, rfl, nx104, ac105, rfl, hn106, ha107⟩, e103⟩
      have hs108 := Below.size E
      have hs109 := Below.size e103
      replace E := E.trans e103
      replace hn10 := hn10.ext e103
      replace ha11 := ha11.ext e103
      replace hB19 := hB19.ext e103
      replace hn32 := hn32.ext e103
      replace ha33 := ha33.ext e103
      replace hB39 := hB39.ext e103
      replace hn53 := hn53.ext e103
      replace ha54 := ha54.ext e103
      replace hB60 := hB60.ext e103
      replace hn83 := hn83.ext e103
      replace ha84 := ha84.ext e103
      replace hB90 := hB90.ext e103
      refine Sq.move .plain rfl rfl ?_
      refine Sq.extract .plain rfl rfl rfl ?_
      refine Sq.extract .plain rfl rfl rfl ?_
      refine Sq.alloc zero26 .plain rfl (fun b110 w111 e112 hB113 hlo114 => ?_)
      have hd115 := Nat.le_trans (Below.size E) hlo114
      have hd116 := Nat.lt_of_lt_of_le hB19.lt hlo114
      have hd117 := Nat.lt_of_lt_of_le hB39.lt hlo114
      have hd118 := Nat.lt_of_lt_of_le hB60.lt hlo114
      have hd119 := Nat.lt_of_lt_of_le hB90.lt hlo114
      have hs120 := Below.size e112
      replace E := E.trans e112
      replace hn10 := hn10.ext e112
      replace ha11 := ha11.ext e112
      replace hB19 := hB19.ext e112
      replace hn32 := hn32.ext e112
      replace ha33 := ha33.ext e112
      replace hB39 := hB39.ext e112
      replace hn53 := hn53.ext e112
      replace ha54 := ha54.ext e112
      replace hB60 := hB60.ext e112
      replace hn83 := hn83.ext e112
      replace ha84 := ha84.ext e112
      replace hB90 := hB90.ext e112
      replace hn106 := hn106.ext e112
      replace ha107 := ha107.ext e112
      refine Sq.storeAgg agg26 .plain rfl rfl (one_cons rfl (one_cons (Rows.one (OwnRows.rows hn106)) (one_cons (Row.one (Own.row ha107)) one_nil))) hB113 rfl rfl (fun w121 g122 hB123 => ?_)
      have hs124 := World.grownBy.size g122
      replace E := E.grown g122 (fun k hk => by injection hk with hk; subst hk; omega)
      replace hn10 := hn10.stored g122 hB113 (by decide) (by decide)
      replace ha11 := ha11.stored g122 hB113 (by decide)
      replace hB19 := hB19.grown g122 (by intro h; injection h with h; omega)
      replace hn32 := hn32.stored g122 hB113 (by decide) (by decide)
      replace ha33 := ha33.stored g122 hB113 (by decide)
      replace hB39 := hB39.grown g122 (by intro h; injection h with h; omega)
      replace hn53 := hn53.stored g122 hB113 (by decide) (by decide)
      replace ha54 := ha54.stored g122 hB113 (by decide)
      replace hB60 := hB60.grown g122 (by intro h; injection h with h; omega)
      replace hn83 := hn83.stored g122 hB113 (by decide) (by decide)
      replace ha84 := ha84.stored g122 hB113 (by decide)
      replace hB90 := hB90.grown g122 (by intro h; injection h with h; omega)
      replace hn106 := hn106.stored g122 hB113 (by decide) (by decide)
      replace ha107 := ha107.stored g122 hB113 (by decide)
      replace hB113 := hB123
      refine Sq.assign .plain rfl rfl ?_
      refine Sq.nil ?_
      refine Eq.next ?_
      refine Cq.seq ?_
      refine Cq.region ?_
      refine Sq.loadAgg agg26 .plain rfl rfl hB113 rfl ?_
      refine Sq.move .plain rfl rfl ?_
      refine Sq.call fn22 .plain rfl rfl (extend_c_T _ (safe a7) _ _ (OwnRows.rows hn106) (Own.row ha107) k6 (by exact cond_mk (safe_valid hv) hk)) ?_
      rintro _ w126 ⟨⟨_, rfl, nx128, ac129, rfl, hn130, ha131⟩, e127⟩
      have hs132 := Below.size E
      have hs133 := Below.size e127
      replace E := E.trans e127
      replace hn10 := hn10.ext e127
      replace ha11 := ha11.ext e127
      replace hB19 := hB19.ext e127
      replace hn32 := hn32.ext e127
      replace ha33 := ha33.ext e127
      replace hB39 := hB39.ext e127
      replace hn53 := hn53.ext e127
      replace ha54 := ha54.ext e127
      replace hB60 := hB60.ext e127
      replace hn83 := hn83.ext e127
      replace ha84 := ha84.ext e127
      replace hB90 := hB90.ext e127
      replace hn106 := hn106.ext e127
      replace ha107 := ha107.ext e127
      replace hB113 := hB113.ext e127
      refine Sq.move .plain rfl rfl ?_
      refine Sq.extract .plain rfl rfl rfl ?_
      refine Sq.extract .plain rfl rfl rfl ?_
      refine Sq.alloc zero26 .plain rfl (fun b134 w135 e136 hB137 hlo138 => ?_)
      have hd139 := Nat.le_trans (Below.size E) hlo138
      have hd140 := Nat.lt_of_lt_of_le hB19.lt hlo138
      have hd141 := Nat.lt_of_lt_of_le hB39.lt hlo138
      have hd142 := Nat.lt_of_lt_of_le hB60.lt hlo138
      have hd143 := Nat.lt_of_lt_of_le hB90.lt hlo138
      have hd144 := Nat.lt_of_lt_of_le hB113.lt hlo138
      have hs145 := Below.size e136
      replace E := E.trans e136
      replace hn10 := hn10.ext e136
      replace ha11 := ha11.ext e136
      replace hB19 := hB19.ext e136
      replace hn32 := hn32.ext e136
      replace ha33 := ha33.ext e136
      replace hB39 := hB39.ext e136
      replace hn53 := hn53.ext e136
      replace ha54 := ha54.ext e136
      replace hB60 := hB60.ext e136
      replace hn83 := hn83.ext e136
      replace ha84 := ha84.ext e136
      replace hB90 := hB90.ext e136
      replace hn106 := hn106.ext e136
      replace ha107 := ha107.ext e136
      replace hB113 := hB113.ext e136
      replace hn130 := hn130.ext e136
      replace ha131 := ha131.ext e136
      refine Sq.storeAgg agg26 .plain rfl rfl (one_cons rfl (one_cons (Rows.one (OwnRows.rows hn130)) (one_cons (Row.one (Own.row ha131)) one_nil))) hB137 rfl rfl (fun w146 g147 hB148 => ?_)
      have hs149 := World.grownBy.size g147
      replace E := E.grown g147 (fun k hk => by injection hk with hk; subst hk; omega)
      replace hn10 := hn10.stored g147 hB137 (by decide) (by decide)
      replace ha11 := ha11.stored g147 hB137 (by decide)
      replace hB19 := hB19.grown g147 (by intro h; injection h with h; omega)
      replace hn32 := hn32.stored g147 hB137 (by decide) (by decide)
      replace ha33 := ha33.stored g147 hB137 (by decide)
      replace hB39 := hB39.grown g147 (by intro h; injection h with h; omega)
      replace hn53 := hn53.stored g147 hB137 (by decide) (by decide)
      replace ha54 := ha54.stored g147 hB137 (by decide)
      replace hB60 := hB60.grown g147 (by intro h; injection h with h; omega)
      replace hn83 := hn83.stored g147 hB137 (by decide) (by decide)
      replace ha84 := ha84.stored g147 hB137 (by decide)
      replace hB90 := hB90.grown g147 (by intro h; injection h with h; omega)
      replace hn106 := hn106.stored g147 hB137 (by decide) (by decide)
      replace ha107 := ha107.stored g147 hB137 (by decide)
      replace hB113 := hB113.grown g147 (by intro h; injection h with h; omega)
      replace hn130 := hn130.stored g147 hB137 (by decide) (by decide)
      replace ha131 := ha131.stored g147 hB137 (by decide)
      replace hB137 := hB148
      refine Sq.assign .plain rfl rfl ?_
      refine Sq.nil ?_
      refine Eq.next ?_
      refine Cq.seq ?_
      refine Cq.region ?_
      refine Sq.move .plain rfl rfl ?_
      refine Sq.move .plain rfl rfl ?_
      refine Sq.loadAgg agg26 (.met rfl rfl rfl) rfl rfl hB90 rfl ?_
      refine Sq.loadAgg agg26 (.met rfl rfl rfl) rfl rfl hB137 rfl ?_
      have hd153 := hB19.lt
      have hd154 := hB39.lt
      have hd155 := hB60.lt
      have hd156 := hB90.lt
      have hd157 := hB113.lt
      have hd158 := hB137.lt
      refine Sq.call fn18 (.met rfl rfl rfl) rfl rfl (agAutomata_c _ ((safe (extend a7 k6))) ((extend (safe a7) k6)) _ _ _ _ (OwnRows.rows hn83) (Own.row ha84) (OwnRows.rows hn130) (Own.row ha131) (by first | exact fit_zero | exact fit_of_valid (by first | assumption | exact extend_valid hv hk | exact compl_valid' (extend_valid hv hk) | exact safe_valid (extend_valid hv hk)) | assumption)) ?_
      rintro _ w151 ⟨rfl, e152⟩
      have hs159 := Below.size E
      have hs160 := Below.size e152
      replace E := E.trans e152
      replace hn10 := hn10.ext e152
      replace ha11 := ha11.ext e152
      replace hB19 := hB19.ext e152
      replace hn32 := hn32.ext e152
      replace ha33 := ha33.ext e152
      replace hB39 := hB39.ext e152
      replace hn53 := hn53.ext e152
      replace ha54 := ha54.ext e152
      replace hB60 := hB60.ext e152
      replace hn83 := hn83.ext e152
      replace ha84 := ha84.ext e152
      replace hB90 := hB90.ext e152
      replace hn106 := hn106.ext e152
      replace ha107 := ha107.ext e152
      replace hB113 := hB113.ext e152
      replace hn130 := hn130.ext e152
      replace ha131 := ha131.ext e152
      replace hB137 := hB137.ext e152
      refine Sq.beT (by rw [safe_extend hv hk]; exact eqA_refl _) ?_
      refine Sq.pickT .plain rfl rfl rfl ?_
      refine Sq.assign .plain rfl rfl ?_
      refine Sq.nil ?_
      refine Eq.next ?_
      refine Cq.ret ?_
      refine Eq.ret1 rfl rfl ?_
      exact ⟨rfl, E⟩
    · refine Sq.call fn22 .plain rfl rfl (extend_c_F _ a7 _ _ hn10 ha11 k6 hC) ?_
      rintro _ w162 ⟨⟨_, rfl, nx164, ac165, rfl, hn166, ha167⟩, e163⟩
      have hs168 := Below.size E
      have hs169 := Below.size e163
      replace E := E.trans e163
      replace hn10 := hn10.ext e163
      replace ha11 := ha11.ext e163
      replace hB19 := hB19.ext e163
      refine Sq.move .plain rfl rfl ?_
      refine Sq.extract .plain rfl rfl rfl ?_
      refine Sq.extract .plain rfl rfl rfl ?_
      refine Sq.alloc zero26 .plain rfl (fun b170 w171 e172 hB173 hlo174 => ?_)
      have hd175 := Nat.le_trans (Below.size E) hlo174
      have hd176 := Nat.lt_of_lt_of_le hB19.lt hlo174
      have hs177 := Below.size e172
      replace E := E.trans e172
      replace hn10 := hn10.ext e172
      replace ha11 := ha11.ext e172
      replace hB19 := hB19.ext e172
      replace hn166 := hn166.ext e172
      replace ha167 := ha167.ext e172
      refine Sq.storeAgg agg26 .plain rfl rfl (one_cons rfl (one_cons (Rows.one (OwnRows.rows hn166)) (one_cons (Row.one (Own.row ha167)) one_nil))) hB173 rfl rfl (fun w178 g179 hB180 => ?_)
      have hs181 := World.grownBy.size g179
      replace E := E.grown g179 (fun k hk => by injection hk with hk; subst hk; omega)
      replace hn10 := hn10.stored g179 hB173 (by decide) (by decide)
      replace ha11 := ha11.stored g179 hB173 (by decide)
      replace hB19 := hB19.grown g179 (by intro h; injection h with h; omega)
      replace hn166 := hn166.stored g179 hB173 (by decide) (by decide)
      replace ha167 := ha167.stored g179 hB173 (by decide)
      replace hB173 := hB180
      refine Sq.assign .plain rfl rfl ?_
      refine Sq.nil ?_
      refine Eq.next ?_
      refine Cq.seq ?_
      refine Cq.region ?_
      refine Sq.loadAgg agg26 .plain rfl rfl hB19 rfl ?_
      refine Sq.move .plain rfl rfl ?_
      refine Sq.call fn23 .plain rfl rfl (sExtend_c_F _ a7 _ _ hn10 ha11 k6 hC) ?_
      rintro _ w183 ⟨⟨_, rfl, nx185, ac186, rfl, hn187, ha188⟩, e184⟩
      have hs189 := Below.size E
      have hs190 := Below.size e184
      replace E := E.trans e184
      replace hn10 := hn10.ext e184
      replace ha11 := ha11.ext e184
      replace hB19 := hB19.ext e184
      replace hn166 := hn166.ext e184
      replace ha167 := ha167.ext e184
      replace hB173 := hB173.ext e184
      refine Sq.move .plain rfl rfl ?_
      refine Sq.extract .plain rfl rfl rfl ?_
      refine Sq.extract .plain rfl rfl rfl ?_
      refine Sq.alloc zero26 .plain rfl (fun b191 w192 e193 hB194 hlo195 => ?_)
      have hd196 := Nat.le_trans (Below.size E) hlo195
      have hd197 := Nat.lt_of_lt_of_le hB19.lt hlo195
      have hd198 := Nat.lt_of_lt_of_le hB173.lt hlo195
      have hs199 := Below.size e193
      replace E := E.trans e193
      replace hn10 := hn10.ext e193
      replace ha11 := ha11.ext e193
      replace hB19 := hB19.ext e193
      replace hn166 := hn166.ext e193
      replace ha167 := ha167.ext e193
      replace hB173 := hB173.ext e193
      replace hn187 := hn187.ext e193
      replace ha188 := ha188.ext e193
      refine Sq.storeAgg agg26 .plain rfl rfl (one_cons rfl (one_cons (Rows.one (OwnRows.rows hn187)) (one_cons (Row.one (Own.row ha188)) one_nil))) hB194 rfl rfl (fun w200 g201 hB202 => ?_)
      have hs203 := World.grownBy.size g201
      replace E := E.grown g201 (fun k hk => by injection hk with hk; subst hk; omega)
      replace hn10 := hn10.stored g201 hB194 (by decide) (by decide)
      replace ha11 := ha11.stored g201 hB194 (by decide)
      replace hB19 := hB19.grown g201 (by intro h; injection h with h; omega)
      replace hn166 := hn166.stored g201 hB194 (by decide) (by decide)
      replace ha167 := ha167.stored g201 hB194 (by decide)
      replace hB173 := hB173.grown g201 (by intro h; injection h with h; omega)
      replace hn187 := hn187.stored g201 hB194 (by decide) (by decide)
      replace ha188 := ha188.stored g201 hB194 (by decide)
      replace hB194 := hB202
      refine Sq.assign .plain rfl rfl ?_
      refine Sq.nil ?_
      refine Eq.next ?_
      refine Cq.seq ?_
      refine Cq.seq ?_
      refine Cq.region ?_
      refine Sq.loadAgg agg26 .plain rfl rfl hB173 rfl ?_
      refine Sq.loadAgg agg26 .plain rfl rfl hB194 rfl ?_
      have hd207 := hB19.lt
      have hd208 := hB173.lt
      have hd209 := hB194.lt
      refine Sq.call fn18 .plain rfl rfl (agAutomata_c _ zeroA zeroA _ _ _ _ (OwnRows.rows hn166) (Own.row ha167) (OwnRows.rows hn187) (Own.row ha188) (by first | exact fit_zero | exact fit_of_valid (by first | assumption | exact extend_valid hv hk | exact compl_valid' (extend_valid hv hk) | exact safe_valid (extend_valid hv hk)) | assumption)) ?_
      rintro _ w205 ⟨rfl, e206⟩
      have hs210 := Below.size E
      have hs211 := Below.size e206
      replace E := E.trans e206
      replace hn10 := hn10.ext e206
      replace ha11 := ha11.ext e206
      replace hB19 := hB19.ext e206
      replace hn166 := hn166.ext e206
      replace ha167 := ha167.ext e206
      replace hB173 := hB173.ext e206
      replace hn187 := hn187.ext e206
      replace ha188 := ha188.ext e206
      replace hB194 := hB194.ext e206
      refine Sq.beT (by exact eqA_refl _) ?_
      refine Sq.notT .plain rfl rfl ?_
      refine Sq.move .plain rfl rfl ?_
      refine Sq.move (.met rfl rfl rfl) rfl rfl ?_
      refine Sq.move (.met rfl rfl rfl) rfl rfl ?_
      refine Sq.neqB und4 (.met rfl rfl rfl) rfl rfl rfl ?_
      refine Sq.pickF .plain rfl rfl rfl ?_
      refine Sq.move .plain rfl rfl ?_
      refine Sq.move (.met rfl rfl rfl) rfl rfl ?_
      refine Sq.notF (.met rfl rfl rfl) rfl rfl ?_
      refine Sq.pickF .plain rfl rfl rfl ?_
      refine Sq.nil ?_
      refine Eq.next ?_
      refine Cq.thn rfl ?_
      refine Cq.seq ?_
      refine Cq.region ?_
      refine Sq.loadAgg agg26 .plain rfl rfl hB173 rfl ?_
      refine Sq.loadAgg agg26 .plain rfl rfl hB194 rfl ?_
      have hd215 := hB19.lt
      have hd216 := hB173.lt
      have hd217 := hB194.lt
      refine Sq.call fn18 .plain rfl rfl (agAutomata_c _ zeroA zeroA _ _ _ _ (OwnRows.rows hn166) (Own.row ha167) (OwnRows.rows hn187) (Own.row ha188) (by first | exact fit_zero | exact fit_of_valid (by first | assumption | exact extend_valid hv hk | exact compl_valid' (extend_valid hv hk) | exact safe_valid (extend_valid hv hk)) | assumption)) ?_
      rintro _ w213 ⟨rfl, e214⟩
      have hs218 := Below.size E
      have hs219 := Below.size e214
      replace E := E.trans e214
      replace hn10 := hn10.ext e214
      replace ha11 := ha11.ext e214
      replace hB19 := hB19.ext e214
      replace hn166 := hn166.ext e214
      replace ha167 := ha167.ext e214
      replace hB173 := hB173.ext e214
      replace hn187 := hn187.ext e214
      replace ha188 := ha188.ext e214
      replace hB194 := hB194.ext e214
      refine Sq.beT (by exact eqA_refl _) ?_
      refine Sq.move .plain rfl rfl ?_
      refine Sq.move (.met rfl rfl rfl) rfl rfl ?_
      refine Sq.move (.met rfl rfl rfl) rfl rfl ?_
      refine Sq.eqlB und4 (.met rfl rfl rfl) rfl rfl rfl ?_
      refine Sq.pickT .plain rfl rfl rfl ?_
      refine Sq.assign .plain rfl rfl ?_
      refine Sq.nil ?_
      refine Eq.next ?_
      refine Cq.ret ?_
      refine Eq.pastRet ?_
      refine Eq.ret1 rfl rfl ?_
      exact ⟨rfl, E⟩

end Go.Proofs.Ytmlhgkfbiapakaa
