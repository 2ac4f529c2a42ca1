/-
  Walks, printed by a program out of the translation and a contract for each function; each step is one law.
-/
import Derived.Test.YtdejmfkpohgamaaNc
import Derived.Test.YtdejmfkpohgamaaNe
set_option linter.unusedSimpArgs false
set_option linter.unusedVariables false
namespace Go.Proofs.Ytdejmfkpohgamaa
open Go.RowKit

set_option maxRecDepth 100000 in
theorem lTrimStays (w0 : World) (e : TypeId) (a0 : Option Addr) (c0 : Nat) (cs : List UInt8) (hc : Bytes w0 e (.slice a0 cs.length c0) cs) (hcap : cs.length ≤ c0) : Ret Try.prog 12 #[Value.slice a0 cs.length c0] w0 (fun v w => v = .bool true ∧ Ext w0 w) := by
  have E := Ext.refl w0
  refine Ret.of (args := [Value.slice a0 cs.length c0]) Try.func12 rfl rfl rfl ?_
  rintro _ rfl
  show Cq _ _ _ _ [(0, Value.slice a0 cs.length c0)] _
  refine Cq.seq ?_
  refine Cq.region ?_
  refine Sq.assign .plain rfl rfl ?_
  refine Sq.nil ?_
  refine Eq.next ?_
  refine Cq.seq ?_
  refine Cq.seq ?_
  refine Cq.region ?_
  refine Sq.move .plain rfl rfl ?_
  refine Sq.lenBytes (hc.ext E) .plain rfl und22 rfl ?_
  refine Sq.gtr .plain rfl rfl rfl ?_
  refine Sq.part (fun c1 => ?_) (fun c1 => ?_)
  · refine Sq.nil ?_
    refine Eq.next ?_
    refine Cq.thn rfl ?_
    refine Cq.seq ?_
    refine Cq.region ?_
    refine Sq.assign .plain rfl rfl ?_
    refine Sq.nil ?_
    refine Eq.next ?_
    refine Cq.ret ?_
    refine Eq.pastRet ?_
    refine Eq.ret1 rfl rfl ?_
    exact ⟨rfl, E⟩
  · refine Sq.nil ?_
    refine Eq.next ?_
    refine Cq.els rfl ?_
    refine Cq.skip ?_
    refine Eq.next ?_
    refine Cq.seq ?_
    refine Cq.region ?_
    refine Sq.move .plain rfl rfl ?_
    refine Sq.call fn35 .plain rfl rfl (drawTrim_c _ _ _ _ _ (hc.ext E) hcap) ?_
    rintro _ w3 ⟨⟨a5, ⟨nx6, ac7, rfl, hn8, ha9⟩, hsm10⟩, e4⟩
    have hs11 := Below.size E
    have hs12 := Below.size e4
    replace E := E.trans e4
    refine Sq.alloc zero26 .plain rfl (fun b13 w14 e15 hB16 hlo17 => ?_)
    have hd18 := Nat.le_trans (Below.size E) hlo17
    have hs19 := Below.size e15
    replace E := E.trans e15
    replace hn8 := hn8.ext e15
    replace ha9 := ha9.ext e15
    refine Sq.storeAgg agg26 .plain rfl rfl (one_cons rfl (one_cons (Rows.one hn8) (one_cons (Row.one ha9) one_nil))) hB16 rfl rfl (fun w20 g21 hB22 => ?_)
    have hs23 := World.grownBy.size g21
    replace E := E.grown g21 (fun k hk => by injection hk with hk; subst hk; omega)
    replace hn8 := hn8.stored g21 hB16 (by decide) (by decide)
    replace ha9 := ha9.stored g21 hB16 (by decide)
    replace hB16 := hB22
    refine Sq.nil ?_
    refine Eq.next ?_
    refine Cq.seq ?_
    refine Cq.region ?_
    refine Sq.loadAgg agg26 .plain rfl rfl hB16 rfl ?_
    rcases Bool.eq_false_or_eq_true (validA a5) with hC | hC
    · have hv := hC
      refine Sq.call fn19 .plain rfl rfl (trimA_c_T _ a5 _ _ hn8 ha9 hC) ?_
      rintro _ w25 ⟨⟨_, rfl, nx27, ac28, rfl, hn29, ha30⟩, e26⟩
      have hs31 := Below.size E
      have hs32 := Below.size e26
      replace E := E.trans e26
      replace hn8 := hn8.ext e26
      replace ha9 := ha9.ext e26
      replace hB16 := hB16.ext e26
      refine Sq.move .plain rfl rfl ?_
      refine Sq.extract .plain rfl rfl rfl ?_
      refine Sq.extract .plain rfl rfl rfl ?_
      refine Sq.alloc zero26 .plain rfl (fun b33 w34 e35 hB36 hlo37 => ?_)
      have hd38 := Nat.le_trans (Below.size E) hlo37
      have hd39 := Nat.lt_of_lt_of_le hB16.lt hlo37
      have hs40 := Below.size e35
      replace E := E.trans e35
      replace hn8 := hn8.ext e35
      replace ha9 := ha9.ext e35
      replace hB16 := hB16.ext e35
      replace hn29 := hn29.ext e35
      replace ha30 := ha30.ext e35
      refine Sq.storeAgg agg26 .plain rfl rfl (one_cons rfl (one_cons (Rows.one (OwnRows.rows hn29)) (one_cons (Row.one (Own.row ha30)) one_nil))) hB36 rfl rfl (fun w41 g42 hB43 => ?_)
      have hs44 := World.grownBy.size g42
      replace E := E.grown g42 (fun k hk => by injection hk with hk; subst hk; omega)
      replace hn8 := hn8.stored g42 hB36 (by decide) (by decide)
      replace ha9 := ha9.stored g42 hB36 (by decide)
      replace hB16 := hB16.grown g42 (by intro h; injection h with h; omega)
      replace hn29 := hn29.stored g42 hB36 (by decide) (by decide)
      replace ha30 := ha30.stored g42 hB36 (by decide)
      replace hB36 := hB43
      refine Sq.assign .plain rfl rfl ?_
      refine Sq.nil ?_
      refine Eq.next ?_
      refine Cq.seq ?_
      refine Cq.region ?_
      refine Sq.loadAgg agg26 .plain rfl rfl hB16 rfl ?_
      refine Sq.call fn36 .plain rfl rfl (sTrimA_c_T _ a5 _ _ hn8 ha9 hC) ?_
      rintro _ w46 ⟨⟨_, rfl, nx48, ac49, rfl, hn50, ha51⟩, e47⟩
      have hs52 := Below.size E
      have hs53 := Below.size e47
      replace E := E.trans e47
      replace hn8 := hn8.ext e47
      replace ha9 := ha9.ext e47
      replace hB16 := hB16.ext e47
      replace hn29 := hn29.ext e47
      replace ha30 := ha30.ext e47
      replace hB36 := hB36.ext e47
      refine Sq.move .plain rfl rfl ?_
      refine Sq.extract .plain rfl rfl rfl ?_
      refine Sq.extract .plain rfl rfl rfl ?_
      refine Sq.alloc zero26 .plain rfl (fun b54 w55 e56 hB57 hlo58 => ?_)
      have hd59 := Nat.le_trans (Below.size E) hlo58
      have hd60 := Nat.lt_of_lt_of_le hB16.lt hlo58
      have hd61 := Nat.lt_of_lt_of_le hB36.lt hlo58
      have hs62 := Below.size e56
      replace E := E.trans e56
      replace hn8 := hn8.ext e56
      replace ha9 := ha9.ext e56
      replace hB16 := hB16.ext e56
      replace hn29 := hn29.ext e56
      replace ha30 := ha30.ext e56
      replace hB36 := hB36.ext e56
      replace hn50 := hn50.ext e56
      replace ha51 := ha51.ext e56
      refine Sq.storeAgg agg26 .plain rfl rfl (one_cons rfl (one_cons (Rows.one (OwnRows.rows hn50)) (one_cons (Row.one (Own.row ha51)) one_nil))) hB57 rfl rfl (fun w63 g64 hB65 => ?_)
      have hs66 := World.grownBy.size g64
      replace E := E.grown g64 (fun k hk => by injection hk with hk; subst hk; omega)
      replace hn8 := hn8.stored g64 hB57 (by decide) (by decide)
      replace ha9 := ha9.stored g64 hB57 (by decide)
      replace hB16 := hB16.grown g64 (by intro h; injection h with h; omega)
      replace hn29 := hn29.stored g64 hB57 (by decide) (by decide)
      replace ha30 := ha30.stored g64 hB57 (by decide)
      replace hB36 := hB36.grown g64 (by intro h; injection h with h; omega)
      replace hn50 := hn50.stored g64 hB57 (by decide) (by decide)
      replace ha51 := ha51.stored g64 hB57 (by decide)
      replace hB57 := hB65
      refine Sq.assign .plain rfl rfl ?_
      refine Sq.nil ?_
      refine Eq.next ?_
      refine Cq.seq ?_
      refine Cq.seq ?_
      refine Cq.region ?_
      refine Sq.loadAgg agg26 .plain rfl rfl hB36 rfl ?_
      refine Sq.loadAgg agg26 .plain rfl rfl hB57 rfl ?_
      have hd70 := hB16.lt
      have hd71 := hB36.lt
      have hd72 := hB57.lt
      refine Sq.call fn18 .plain rfl rfl (agAutomata_c _ (trim a5) (trim a5) _ _ _ _ (OwnRows.rows hn29) (Own.row ha30) (OwnRows.rows hn50) (Own.row ha51) (by first | exact fit_zero | exact fit_of_valid (by first | assumption | exact extend_valid hv hk | exact compl_valid' (extend_valid hv hk) | exact trim_valid hv | exact trim_valid (trim_valid hv)) | assumption)) ?_
      rintro _ w68 ⟨rfl, e69⟩
      have hs73 := Below.size E
      have hs74 := Below.size e69
      replace E := E.trans e69
      replace hn8 := hn8.ext e69
      replace ha9 := ha9.ext e69
      replace hB16 := hB16.ext e69
      replace hn29 := hn29.ext e69
      replace ha30 := ha30.ext e69
      replace hB36 := hB36.ext e69
      replace hn50 := hn50.ext e69
      replace ha51 := ha51.ext e69
      replace hB57 := hB57.ext e69
      refine Sq.beT (by exact eqA_refl _) ?_
      refine Sq.notT .plain rfl rfl ?_
      refine Sq.move .plain rfl rfl ?_
      refine Sq.move (.met rfl rfl rfl) rfl rfl ?_
      refine Sq.move (.met rfl rfl rfl) rfl rfl ?_
      refine Sq.neqB und4 (.met rfl rfl rfl) rfl rfl rfl ?_
      refine Sq.pickF .plain rfl rfl rfl ?_
      refine Sq.move .plain rfl rfl ?_
      refine Sq.move (.met rfl rfl rfl) rfl rfl ?_
      refine Sq.notT (.met rfl rfl rfl) rfl rfl ?_
      refine Sq.pickF .plain rfl rfl rfl ?_
      refine Sq.nil ?_
      refine Eq.next ?_
      refine Cq.els rfl ?_
      refine Cq.skip ?_
      refine Eq.next ?_
      refine Cq.seq ?_
      refine Cq.region ?_
      refine Sq.loadAgg agg26 .plain rfl rfl hB36 rfl ?_
      refine Sq.call fn19 .plain rfl rfl (trimA_c_T _ (trim a5) _ _ (OwnRows.rows hn29) (Own.row ha30) (by exact trim_valid hv)) ?_
      rintro _ w76 ⟨⟨_, rfl, nx78, ac79, rfl, hn80, ha81⟩, e77⟩
      have hs82 := Below.size E
      have hs83 := Below.size e77
      replace E := E.trans e77
      replace hn8 := hn8.ext e77
      replace ha9 := ha9.ext e77
      replace hB16 := hB16.ext e77
      replace hn29 := hn29.ext e77
      replace ha30 := ha30.ext e77
      replace hB36 := hB36.ext e77
      replace hn50 := hn50.ext e77
      replace ha51 := ha51.ext e77
      replace hB57 := hB57.ext e77
      refine Sq.move .plain rfl rfl ?_
      refine Sq.extract .plain rfl rfl rfl ?_
      refine Sq.extract .plain rfl rfl rfl ?_
      refine Sq.alloc zero26 .plain rfl (fun b84 w85 e86 hB87 hlo88 => ?_)
      have hd89 := Nat.le_trans (Below.size E) hlo88
      have hd90 := Nat.lt_of_lt_of_le hB16.lt hlo88
      have hd91 := Nat.lt_of_lt_of_le hB36.lt hlo88
      have hd92 := Nat.lt_of_lt_of_le hB57.lt hlo88
      have hs93 := Below.size e86
      replace E := E.trans e86
      replace hn8 := hn8.ext e86
      replace ha9 := ha9.ext e86
      replace hB16 := hB16.ext e86
      replace hn29 := hn29.ext e86
      replace ha30 := ha30.ext e86
      replace hB36 := hB36.ext e86
      replace hn50 := hn50.ext e86
      replace ha51 := ha51.ext e86
      replace hB57 := hB57.ext e86
      replace hn80 := hn80.ext e86
      replace ha81 := ha81.ext e86
      refine Sq.storeAgg agg26 .plain rfl rfl (one_cons rfl (one_cons (Rows.one (OwnRows.rows hn80)) (one_cons (Row.one (Own.row ha81)) one_nil))) hB87 rfl rfl (fun w94 g95 hB96 => ?_)
      have hs97 := World.grownBy.size g95
      replace E := E.grown g95 (fun k hk => by injection hk with hk; subst hk; omega)
      replace hn8 := hn8.stored g95 hB87 (by decide) (by decide)
      replace ha9 := ha9.stored g95 hB87 (by decide)
      replace hB16 := hB16.grown g95 (by intro h; injection h with h; omega)
      replace hn29 := hn29.stored g95 hB87 (by decide) (by decide)
      replace ha30 := ha30.stored g95 hB87 (by decide)
      replace hB36 := hB36.grown g95 (by intro h; injection h with h; omega)
      replace hn50 := hn50.stored g95 hB87 (by decide) (by decide)
      replace ha51 := ha51.stored g95 hB87 (by decide)
      replace hB57 := hB57.grown g95 (by intro h; injection h with h; omega)
      replace hn80 := hn80.stored g95 hB87 (by decide) (by decide)
      replace ha81 := ha81.stored g95 hB87 (by decide)
      replace hB87 := hB96
      refine Sq.assign .plain rfl rfl ?_
      refine Sq.nil ?_
      refine Eq.next ?_
      refine Cq.seq ?_
      refine Cq.region ?_
      refine Sq.move .plain rfl rfl ?_
      refine Sq.move .plain rfl rfl ?_
      refine Sq.loadAgg agg26 (.met rfl rfl rfl) rfl rfl hB36 rfl ?_
      refine Sq.loadAgg agg26 (.met rfl rfl rfl) rfl rfl hB87 rfl ?_
      have hd101 := hB16.lt
      have hd102 := hB36.lt
      have hd103 := hB57.lt
      have hd104 := hB87.lt
      refine Sq.call fn18 (.met rfl rfl rfl) rfl rfl (agAutomata_c _ (trim a5) ((trim (trim a5))) _ _ _ _ (OwnRows.rows hn29) (Own.row ha30) (OwnRows.rows hn80) (Own.row ha81) (by first | exact fit_zero | exact fit_of_valid (by first | assumption | exact extend_valid hv hk | exact compl_valid' (extend_valid hv hk) | exact trim_valid hv | exact trim_valid (trim_valid hv)) | assumption)) ?_
      rintro _ w99 ⟨rfl, e100⟩
      have hs105 := Below.size E
      have hs106 := Below.size e100
      replace E := E.trans e100
      replace hn8 := hn8.ext e100
      replace ha9 := ha9.ext e100
      replace hB16 := hB16.ext e100
      replace hn29 := hn29.ext e100
      replace ha30 := ha30.ext e100
      replace hB36 := hB36.ext e100
      replace hn50 := hn50.ext e100
      replace ha51 := ha51.ext e100
      replace hB57 := hB57.ext e100
      replace hn80 := hn80.ext e100
      replace ha81 := ha81.ext e100
      replace hB87 := hB87.ext e100
      refine Sq.beT (by rw [trim_trim hv]; exact eqA_refl _) ?_
      refine Sq.pickT .plain rfl rfl rfl ?_
      refine Sq.assign .plain rfl rfl ?_
      refine Sq.nil ?_
      refine Eq.next ?_
      refine Cq.ret ?_
      refine Eq.ret1 rfl rfl ?_
      exact ⟨rfl, E⟩
    · refine Sq.call fn19 .plain rfl rfl (trimA_c_F _ a5 _ _ hn8 ha9 hC) ?_
      rintro _ w108 ⟨⟨_, rfl, nx110, ac111, rfl, hn112, ha113⟩, e109⟩
      have hs114 := Below.size E
      have hs115 := Below.size e109
      replace E := E.trans e109
      replace hn8 := hn8.ext e109
      replace ha9 := ha9.ext e109
      replace hB16 := hB16.ext e109
      refine Sq.move .plain rfl rfl ?_
      refine Sq.extract .plain rfl rfl rfl ?_
      refine Sq.extract .plain rfl rfl rfl ?_
      refine Sq.alloc zero26 .plain rfl (fun b116 w117 e118 hB119 hlo120 => ?_)
      have hd121 := Nat.le_trans (Below.size E) hlo120
      have hd122 := Nat.lt_of_lt_of_le hB16.lt hlo120
      have hs123 := Below.size e118
      replace E := E.trans e118
      replace hn8 := hn8.ext e118
      replace ha9 := ha9.ext e118
      replace hB16 := hB16.ext e118
      replace hn112 := hn112.ext e118
      replace ha113 := ha113.ext e118
      refine Sq.storeAgg agg26 .plain rfl rfl (one_cons rfl (one_cons (Rows.one (OwnRows.rows hn112)) (one_cons (Row.one (Own.row ha113)) one_nil))) hB119 rfl rfl (fun w124 g125 hB126 => ?_)
      have hs127 := World.grownBy.size g125
      replace E := E.grown g125 (fun k hk => by injection hk with hk; subst hk; omega)
      replace hn8 := hn8.stored g125 hB119 (by decide) (by decide)
      replace ha9 := ha9.stored g125 hB119 (by decide)
      replace hB16 := hB16.grown g125 (by intro h; injection h with h; omega)
      replace hn112 := hn112.stored g125 hB119 (by decide) (by decide)
      replace ha113 := ha113.stored g125 hB119 (by decide)
      replace hB119 := hB126
      refine Sq.assign .plain rfl rfl ?_
      refine Sq.nil ?_
      refine Eq.next ?_
      refine Cq.seq ?_
      refine Cq.region ?_
      refine Sq.loadAgg agg26 .plain rfl rfl hB16 rfl ?_
      refine Sq.call fn36 .plain rfl rfl (sTrimA_c_F _ a5 _ _ hn8 ha9 hC) ?_
      rintro _ w129 ⟨⟨_, rfl, nx131, ac132, rfl, hn133, ha134⟩, e130⟩
      have hs135 := Below.size E
      have hs136 := Below.size e130
      replace E := E.trans e130
      replace hn8 := hn8.ext e130
      replace ha9 := ha9.ext e130
      replace hB16 := hB16.ext e130
      replace hn112 := hn112.ext e130
      replace ha113 := ha113.ext e130
      replace hB119 := hB119.ext e130
      refine Sq.move .plain rfl rfl ?_
      refine Sq.extract .plain rfl rfl rfl ?_
      refine Sq.extract .plain rfl rfl rfl ?_
      refine Sq.alloc zero26 .plain rfl (fun b137 w138 e139 hB140 hlo141 => ?_)
      have hd142 := Nat.le_trans (Below.size E) hlo141
      have hd143 := Nat.lt_of_lt_of_le hB16.lt hlo141
      have hd144 := Nat.lt_of_lt_of_le hB119.lt hlo141
      have hs145 := Below.size e139
      replace E := E.trans e139
      replace hn8 := hn8.ext e139
      replace ha9 := ha9.ext e139
      replace hB16 := hB16.ext e139
      replace hn112 := hn112.ext e139
      replace ha113 := ha113.ext e139
      replace hB119 := hB119.ext e139
      replace hn133 := hn133.ext e139
      replace ha134 := ha134.ext e139
      refine Sq.storeAgg agg26 .plain rfl rfl (one_cons rfl (one_cons (Rows.one (OwnRows.rows hn133)) (one_cons (Row.one (Own.row ha134)) one_nil))) hB140 rfl rfl (fun w146 g147 hB148 => ?_)
      have hs149 := World.grownBy.size g147
      replace E := E.grown g147 (fun k hk => by injection hk with hk; subst hk; omega)
      replace hn8 := hn8.stored g147 hB140 (by decide) (by decide)
      replace ha9 := ha9.stored g147 hB140 (by decide)
      replace hB16 := hB16.grown g147 (by intro h; injection h with h; omega)
      replace hn112 := hn112.stored g147 hB140 (by decide) (by decide)
      replace ha113 := ha113.stored g147 hB140 (by decide)
      replace hB119 := hB119.grown g147 (by intro h; injection h with h; omega)
      replace hn133 := hn133.stored g147 hB140 (by decide) (by decide)
      replace ha134 := ha134.stored g147 hB140 (by decide)
      replace hB140 := hB148
      refine Sq.assign .plain rfl rfl ?_
      refine Sq.nil ?_
      refine Eq.next ?_
      refine Cq.seq ?_
      refine Cq.seq ?_
      refine Cq.region ?_
      refine Sq.loadAgg agg26 .plain rfl rfl hB119 rfl ?_
      refine Sq.loadAgg agg26 .plain rfl rfl hB140 rfl ?_
      have hd153 := hB16.lt
      have hd154 := hB119.lt
      have hd155 := hB140.lt
      refine Sq.call fn18 .plain rfl rfl (agAutomata_c _ zeroA zeroA _ _ _ _ (OwnRows.rows hn112) (Own.row ha113) (OwnRows.rows hn133) (Own.row ha134) (by first | exact fit_zero | exact fit_of_valid (by first | assumption | exact extend_valid hv hk | exact compl_valid' (extend_valid hv hk) | exact trim_valid hv | exact trim_valid (trim_valid hv)) | assumption)) ?_
      rintro _ w151 ⟨rfl, e152⟩
      have hs156 := Below.size E
      have hs157 := Below.size e152
      replace E := E.trans e152
      replace hn8 := hn8.ext e152
      replace ha9 := ha9.ext e152
      replace hB16 := hB16.ext e152
      replace hn112 := hn112.ext e152
      replace ha113 := ha113.ext e152
      replace hB119 := hB119.ext e152
      replace hn133 := hn133.ext e152
      replace ha134 := ha134.ext e152
      replace hB140 := hB140.ext e152
      refine Sq.beT (by exact eqA_refl _) ?_
      refine Sq.notT .plain rfl rfl ?_
      refine Sq.move .plain rfl rfl ?_
      refine Sq.move (.met rfl rfl rfl) rfl rfl ?_
      refine Sq.move (.met rfl rfl rfl) rfl rfl ?_
      refine Sq.neqB und4 (.met rfl rfl rfl) rfl rfl rfl ?_
      refine Sq.pickF .plain rfl rfl rfl ?_
      refine Sq.move .plain rfl rfl ?_
      refine Sq.move (.met rfl rfl rfl) rfl rfl ?_
      refine Sq.notF (.met rfl rfl rfl) rfl rfl ?_
      refine Sq.pickF .plain rfl rfl rfl ?_
      refine Sq.nil ?_
      refine Eq.next ?_
      refine Cq.thn rfl ?_
      refine Cq.seq ?_
      refine Cq.region ?_
      refine Sq.loadAgg agg26 .plain rfl rfl hB119 rfl ?_
      refine Sq.loadAgg agg26 .plain rfl rfl hB140 rfl ?_
      have hd161 := hB16.lt
      have hd162 := hB119.lt
      have hd163 := hB140.lt
      refine Sq.call fn18 .plain rfl rfl (agAutomata_c _ zeroA zeroA _ _ _ _ (OwnRows.rows hn112) (Own.row ha113) (OwnRows.rows hn133) (Own.row ha134) (by first | exact fit_zero | exact fit_of_valid (by first | assumption | exact extend_valid hv hk | exact compl_valid' (extend_valid hv hk) | exact trim_valid hv | exact trim_valid (trim_valid hv)) | assumption)) ?_
      rintro _ w159 ⟨rfl, e160⟩
      have hs164 := Below.size E
      have hs165 := Below.size e160
      replace E := E.trans e160
      replace hn8 := hn8.ext e160
      replace ha9 := ha9.ext e160
      replace hB16 := hB16.ext e160
      replace hn112 := hn112.ext e160
      replace ha113 := ha113.ext e160
      replace hB119 := hB119.ext e160
      replace hn133 := hn133.ext e160
      replace ha134 := ha134.ext e160
      replace hB140 := hB140.ext e160
      refine Sq.beT (by exact eqA_refl _) ?_
      refine Sq.move .plain rfl rfl ?_
      refine Sq.move (.met rfl rfl rfl) rfl rfl ?_
      refine Sq.move (.met rfl rfl rfl) rfl rfl ?_
      refine Sq.eqlB und4 (.met rfl rfl rfl) rfl rfl rfl ?_
      refine Sq.pickT .plain rfl rfl rfl ?_
      refine Sq.assign .plain rfl rfl ?_
      refine Sq.nil ?_
      refine Eq.next ?_
      refine Cq.ret ?_
      refine Eq.pastRet ?_
      refine Eq.ret1 rfl rfl ?_
      exact ⟨rfl, E⟩

end Go.Proofs.Ytdejmfkpohgamaa
