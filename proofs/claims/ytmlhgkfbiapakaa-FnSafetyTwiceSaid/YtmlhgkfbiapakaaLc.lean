/-
  Walks, printed by a program out of the translation and a contract for each function; each step is one law.
-/
import Derived.Test.YtmlhgkfbiapakaaWi
import Derived.Test.YtmlhgkfbiapakaaWs
import Derived.Test.YtmlhgkfbiapakaaWm
set_option linter.unusedSimpArgs false
set_option linter.unusedVariables false
namespace Go.Proofs.Ytmlhgkfbiapakaa
open Go.RowKit

set_option maxRecDepth 100000 in
theorem lSafetyTwice (w0 : World) (e : TypeId) (a0 : Option Addr) (c0 : Nat) (cs : List UInt8) (hc : Bytes w0 e (.slice a0 cs.length c0) cs) (hcap : cs.length ≤ c0) : Ret Try.prog 3 #[Value.slice a0 cs.length c0] w0 (fun v w => v = .bool true ∧ Ext w0 w) := by
  have E := Ext.refl w0
  refine Ret.of (args := [Value.slice a0 cs.length c0]) Try.func3 rfl rfl rfl ?_
  rintro _ rfl
  show Cq _ _ _ _ [(0, Value.slice a0 cs.length c0)] _
  refine Cq.seq ?_
  refine Cq.region ?_
  refine Sq.assign .plain rfl rfl ?_
  refine Sq.nil ?_
  refine Eq.next ?_
  refine Cq.seq ?_
  refine Cq.seq ?_
  refine Cq.region ?_
  refine Sq.move .plain rfl rfl ?_
  refine Sq.lenBytes (hc.ext E) .plain rfl und22 rfl ?_
  refine Sq.gtr .plain rfl rfl rfl ?_
  refine Sq.part (fun c1 => ?_) (fun c1 => ?_)
  · refine Sq.nil ?_
    refine Eq.next ?_
    refine Cq.thn rfl ?_
    refine Cq.seq ?_
    refine Cq.region ?_
    refine Sq.assign .plain rfl rfl ?_
    refine Sq.nil ?_
    refine Eq.next ?_
    refine Cq.ret ?_
    refine Eq.pastRet ?_
    refine Eq.ret1 rfl rfl ?_
    exact ⟨by first | rfl | rw [decide_eq_true (count_safe hv (by decide))], E⟩
  · refine Sq.nil ?_
    refine Eq.next ?_
    refine Cq.els rfl ?_
    refine Cq.skip ?_
    refine Eq.next ?_
    refine Cq.seq ?_
    refine Cq.region ?_
    refine Sq.move .plain rfl rfl ?_
    refine Sq.call fn15 .plain rfl rfl (drawSafety_c _ _ _ _ _ (hc.ext E) hcap) ?_
    rintro _ w3 ⟨⟨a5, ⟨nx6, ac7, rfl, hn8, ha9⟩, hsm10⟩, e4⟩
    have hs11 := Below.size E
    have hs12 := Below.size e4
    replace E := E.trans e4
    refine Sq.alloc zero26 .plain rfl (fun b13 w14 e15 hB16 hlo17 => ?_)
    have hd18 := Nat.le_trans (Below.size E) hlo17
    have hs19 := Below.size e15
    replace E := E.trans e15
    replace hn8 := hn8.ext e15
    replace ha9 := ha9.ext e15
    refine Sq.storeAgg agg26 .plain rfl rfl (one_cons rfl (one_cons (Rows.one hn8) (one_cons (Row.one ha9) one_nil))) hB16 rfl rfl (fun w20 g21 hB22 => ?_)
    have hs23 := World.grownBy.size g21
    replace E := E.grown g21 (fun k hk => by injection hk with hk; subst hk; omega)
    replace hn8 := hn8.stored g21 hB16 (by decide) (by decide)
    replace ha9 := ha9.stored g21 hB16 (by decide)
    replace hB16 := hB22
    refine Sq.nil ?_
    refine Eq.next ?_
    refine Cq.seq ?_
    refine Cq.region ?_
    refine Sq.loadAgg agg26 .plain rfl rfl hB16 rfl ?_
    rcases Bool.eq_false_or_eq_true (validA a5) with hC | hC
    · have hv := hC
      refine Sq.call fn16 .plain rfl rfl (safety_c_T _ a5 _ _ hn8 ha9 hC) ?_
      rintro _ w25 ⟨⟨_, rfl, nx27, ac28, rfl, hn29, ha30⟩, e26⟩
      have hs31 := Below.size E
      have hs32 := Below.size e26
      replace E := E.trans e26
      replace hn8 := hn8.ext e26
      replace ha9 := ha9.ext e26
      replace hB16 := hB16.ext e26
      refine Sq.move .plain rfl rfl ?_
      refine Sq.extract .plain rfl rfl rfl ?_
      refine Sq.extract .plain rfl rfl rfl ?_
      refine Sq.alloc zero26 .plain rfl (fun b33 w34 e35 hB36 hlo37 => ?_)
      have hd38 := Nat.le_trans (Below.size E) hlo37
      have hd39 := Nat.lt_of_lt_of_le hB16.lt hlo37
      have hs40 := Below.size e35
      replace E := E.trans e35
      replace hn8 := hn8.ext e35
      replace ha9 := ha9.ext e35
      replace hB16 := hB16.ext e35
      replace hn29 := hn29.ext e35
      replace ha30 := ha30.ext e35
      refine Sq.storeAgg agg26 .plain rfl rfl (one_cons rfl (one_cons (Rows.one (OwnRows.rows hn29)) (one_cons (Row.one (Own.row ha30)) one_nil))) hB36 rfl rfl (fun w41 g42 hB43 => ?_)
      have hs44 := World.grownBy.size g42
      replace E := E.grown g42 (fun k hk => by injection hk with hk; subst hk; omega)
      replace hn8 := hn8.stored g42 hB36 (by decide) (by decide)
      replace ha9 := ha9.stored g42 hB36 (by decide)
      replace hB16 := hB16.grown g42 (by intro h; injection h with h; omega)
      replace hn29 := hn29.stored g42 hB36 (by decide) (by decide)
      replace ha30 := ha30.stored g42 hB36 (by decide)
      replace hB36 := hB43
      refine Sq.assign .plain rfl rfl ?_
      refine Sq.nil ?_
      refine Eq.next ?_
      refine Cq.seq ?_
      refine Cq.region ?_
      refine Sq.loadAgg agg26 .plain rfl rfl hB16 rfl ?_
      refine Sq.call fn17 .plain rfl rfl (sSafety_c_T _ a5 _ _ hn8 ha9 hC) ?_
      rintro _ w46 ⟨⟨_, rfl, nx48, ac49, rfl, hn50, ha51⟩, e47⟩
      have hs52 := Below.size E
      have hs53 := Below.size e47
      replace E := E.trans e47
      replace hn8 := hn8.ext e47
      replace ha9 := ha9.ext e47
      replace hB16 := hB16.ext e47
      replace hn29 := hn29.ext e47
      replace ha30 := ha30.ext e47
      replace hB36 := hB36.ext e47
      refine Sq.move .plain rfl rfl ?_
      refine Sq.extract .plain rfl rfl rfl ?_
      refine Sq.extract .plain rfl rfl rfl ?_
      refine Sq.alloc zero26 .plain rfl (fun b54 w55 e56 hB57 hlo58 => ?_)
      have hd59 := Nat.le_trans (Below.size E) hlo58
      have hd60 := Nat.lt_of_lt_of_le hB16.lt hlo58
      have hd61 := Nat.lt_of_lt_of_le hB36.lt hlo58
      have hs62 := Below.size e56
      replace E := E.trans e56
      replace hn8 := hn8.ext e56
      replace ha9 := ha9.ext e56
      replace hB16 := hB16.ext e56
      replace hn29 := hn29.ext e56
      replace ha30 := ha30.ext e56
      replace hB36 := hB36.ext e56
      replace hn50 := hn50.ext e56
      replace ha51 := ha51.ext e56
      refine Sq.storeAgg agg26 .plain rfl rfl (one_cons rfl (one_cons (Rows.one (OwnRows.rows hn50)) (one_cons (Row.one (Own.row ha51)) one_nil))) hB57 rfl rfl (fun w63 g64 hB65 => ?_)
      have hs66 := World.grownBy.size g64
      replace E := E.grown g64 (fun k hk => by injection hk with hk; subst hk; omega)
      replace hn8 := hn8.stored g64 hB57 (by decide) (by decide)
      replace ha9 := ha9.stored g64 hB57 (by decide)
      replace hB16 := hB16.grown g64 (by intro h; injection h with h; omega)
      replace hn29 := hn29.stored g64 hB57 (by decide) (by decide)
      replace ha30 := ha30.stored g64 hB57 (by decide)
      replace hB36 := hB36.grown g64 (by intro h; injection h with h; omega)
      replace hn50 := hn50.stored g64 hB57 (by decide) (by decide)
      replace ha51 := ha51.stored g64 hB57 (by decide)
      replace hB57 := hB65
      refine Sq.assign .plain rfl rfl ?_
      refine Sq.nil ?_
      refine Eq.next ?_
      refine Cq.seq ?_
      refine Cq.seq ?_
      refine Cq.region ?_
      refine Sq.loadAgg agg26 .plain rfl rfl hB36 rfl ?_
      refine Sq.loadAgg agg26 .plain rfl rfl hB57 rfl ?_
      have hd70 := hB16.lt
      have hd71 := hB36.lt
      have hd72 := hB57.lt
      refine Sq.call fn18 .plain rfl rfl (agAutomata_c _ (safe a5) (safe a5) _ _ _ _ (OwnRows.rows hn29) (Own.row ha30) (OwnRows.rows hn50) (Own.row ha51) (by first | exact fit_zero | exact fit_of_valid (by first | assumption | exact extend_valid hv hk | exact compl_valid' (extend_valid hv hk) | exact safe_valid hv | exact safe_valid (safe_valid hv)) | assumption)) ?_
      rintro _ w68 ⟨rfl, e69⟩
      have hs73 := Below.size E
      have hs74 := Below.size e69
      replace E := E.trans e69
      replace hn8 := hn8.ext e69
      replace ha9 := ha9.ext e69
      replace hB16 := hB16.ext e69
      replace hn29 := hn29.ext e69
      replace ha30 := ha30.ext e69
      replace hB36 := hB36.ext e69
      replace hn50 := hn50.ext e69
      replace ha51 := ha51.ext e69
      replace hB57 := hB57.ext e69
      refine Sq.beT (by exact eqA_refl _) ?_
      refine Sq.notT .plain rfl rfl ?_
      refine Sq.move .plain rfl rfl ?_
      refine Sq.move (.met rfl rfl rfl) rfl rfl ?_
      refine Sq.move (.met rfl rfl rfl) rfl rfl ?_
      refine Sq.neqB und4 (.met rfl rfl rfl) rfl rfl rfl ?_
      refine Sq.pickF .plain rfl rfl rfl ?_
      refine Sq.move .plain rfl rfl ?_
      refine Sq.move (.met rfl rfl rfl) rfl rfl ?_
      refine Sq.notT (.met rfl rfl rfl) rfl rfl ?_
      refine Sq.pickF .plain rfl rfl rfl ?_
      refine Sq.nil ?_
      refine Eq.next ?_
      refine Cq.els rfl ?_
      refine Cq.skip ?_
      refine Eq.next ?_
      refine Cq.seq ?_
      refine Cq.region ?_
      refine Sq.loadAgg agg26 .plain rfl rfl hB36 rfl ?_
      refine Sq.call fn16 .plain rfl rfl (safety_c_T _ (safe a5) _ _ (OwnRows.rows hn29) (Own.row ha30) (by exact safe_valid hv)) ?_
      rintro _ w76 ⟨⟨_, rfl, nx78, ac79, rfl, hn80, ha81⟩, e77⟩
      have hs82 := Below.size E
      have hs83 := Below.size e77
      replace E := E.trans e77
      replace hn8 := hn8.ext e77
      replace ha9 := ha9.ext e77
      replace hB16 := hB16.ext e77
      replace hn29 := hn29.ext e77
      replace ha30 := ha30.ext e77
      replace hB36 := hB36.ext e77
      replace hn50 := hn50.ext e77
      replace ha51 := ha51.ext e77
      replace hB57 := hB57.ext e77
      refine Sq.move .plain rfl rfl ?_
      refine Sq.extract .plain rfl rfl rfl ?_
      refine Sq.extract .plain rfl rfl rfl ?_
      refine Sq.alloc zero26 .plain rfl (fun b84 w85 e86 hB87 hlo88 => ?_)
      have hd89 := Nat.le_trans (Below.size E) hlo88
      have hd90 := Nat.lt_of_lt_of_le hB16.lt hlo88
      have hd91 := Nat.lt_of_lt_of_le hB36.lt hlo88
      have hd92 := Nat.lt_of_lt_of_le hB57.lt hlo88
      have hs93 := Below.size e86
      replace E := E.trans e86
      replace hn8 := hn8.ext e86
      replace ha9 := ha9.ext e86
      replace hB16 := hB16.ext e86
      replace hn29 := hn29.ext e86
      replace ha30 := ha30.ext e86
      replace hB36 := hB36.ext e86
      replace hn50 := hn50.ext e86
      replace ha51 := ha51.ext e86
      replace hB57 := hB57.ext e86
      replace hn80 := hn80.ext e86
      replace ha81 := ha81.ext e86
      refine Sq.storeAgg agg26 .plain rfl rfl (one_cons rfl (one_cons (Rows.one (OwnRows.rows hn80)) (one_cons (Row.one (Own.row ha81)) one_nil))) hB87 rfl rfl (fun w94 g95 hB96 => ?_)
      have hs97 := World.grownBy.size g95
      replace E := E.grown g95 (fun k hk => by injection hk with hk; subst hk; omega)
      replace hn8 := hn8.stored g95 hB87 (by decide) (by decide)
      replace ha9 := ha9.stored g95 hB87 (by decide)
      replace hB16 := hB16.grown g95 (by intro h; injection h with h; omega)
      replace hn29 := hn29.stored g95 hB87 (by decide) (by decide)
      replace ha30 := ha30.stored g95 hB87 (by decide)
      replace hB36 := hB36.grown g95 (by intro h; injection h with h; omega)
      replace hn50 := hn50.stored g95 hB87 (by decide) (by decide)
      replace ha51 := ha51.stored g95 hB87 (by decide)
      replace hB57 := hB57.grown g95 (by intro h; injection h with h; omega)
      replace hn80 := hn80.stored g95 hB87 (by decide) (by decide)
      replace ha81 := ha81.stored g95 hB87 (by decide)
      replace hB87 := hB96
      refine Sq.assign .plain rfl rfl ?_
      refine Sq.nil ?_
      refine Eq.next ?_
      refine Cq.seq ?_
      refine Cq.drawS 13 (fun w' => Blk w' b84 26 [Value.int .i64 (((safe (safe a5))).al), nx78, ac79] ∧ Blk w' b33 26 [Value.int .i64 ((safe a5).al), nx27, ac28] ∧ Blk w' b13 26 [Value.int .i64 a5.al, nx6, ac7]) mixed (⟨hB87, hB36, hB16⟩) (fun w98 e99 hS => ?_)
      clear hS
      have hs100 := Below.size e99
      replace E := E.trans e99
      replace hn8 := hn8.ext e99
      replace ha9 := ha9.ext e99
      replace hB16 := hB16.ext e99
      replace hn29 := hn29.ext e99
      replace ha30 := ha30.ext e99
      replace hB36 := hB36.ext e99
      replace hn50 := hn50.ext e99
      replace ha51 := ha51.ext e99
      replace hB57 := hB57.ext e99
      replace hn80 := hn80.ext e99
      replace ha81 := ha81.ext e99
      replace hB87 := hB87.ext e99
      have E_w98 := E
      have hn8_w98 := hn8
      have ha9_w98 := ha9
      have hB16_w98 := hB16
      have hn29_w98 := hn29
      have ha30_w98 := ha30
      have hB36_w98 := hB36
      have hn50_w98 := hn50
      have ha51_w98 := ha51
      have hB57_w98 := hB57
      have hn80_w98 := hn80
      have ha81_w98 := ha81
      have hB87_w98 := hB87
      refine Gq.st 0 rfl (by kernel_rfl) rfl .plain rfl (fun _ _ _ h => h) ⟨hB87, hB36, hB16⟩ (fun w' x => Still.move rfl) ?_
      refine Gq.st 1 rfl (by kernel_rfl) rfl .plain rfl (fun _ _ _ h => h) ⟨hB87, hB36, hB16⟩ (fun w' x => Still.move rfl) ?_
      refine Gq.st 2 rfl (by kernel_rfl) rfl (.met rfl rfl rfl) rfl (fun _ _ _ h => h) ⟨hB87, hB36, hB16⟩ (fun w' x => Still.loadAgg agg26 rfl x.1 rfl) ?_
      refine Gq.st 3 rfl (by kernel_rfl) rfl (.met rfl rfl rfl) rfl (fun _ _ _ h => h) ⟨hB87, hB36, hB16⟩ (fun w' x => Still.loadAgg agg26 rfl x.2.1 rfl) ?_
      refine Gq.one 4 rfl (by kernel_rfl) ?_
      have hd104 := hB16.lt
      have hd105 := hB36.lt
      have hd106 := hB57.lt
      have hd107 := hB87.lt
      refine Sq.call fn18 (.met rfl rfl rfl) rfl rfl (agAutomata_c _ ((safe (safe a5))) (safe a5) _ _ _ _ (OwnRows.rows hn80) (Own.row ha81) (OwnRows.rows hn29) (Own.row ha30) (by first | exact fit_zero | exact fit_of_valid (by first | assumption | exact extend_valid hv hk | exact compl_valid' (extend_valid hv hk) | exact safe_valid hv | exact safe_valid (safe_valid hv)) | assumption)) ?_
      rintro _ w102 ⟨rfl, e103⟩
      have hs108 := Below.size E
      have hs109 := Below.size e103
      replace E := E.trans e103
      replace hn8 := hn8.ext e103
      replace ha9 := ha9.ext e103
      replace hB16 := hB16.ext e103
      replace hn29 := hn29.ext e103
      replace ha30 := ha30.ext e103
      replace hB36 := hB36.ext e103
      replace hn50 := hn50.ext e103
      replace ha51 := ha51.ext e103
      replace hB57 := hB57.ext e103
      replace hn80 := hn80.ext e103
      replace ha81 := ha81.ext e103
      replace hB87 := hB87.ext e103
      refine Sq.beT (by rw [safe_twice hv]; exact eqA_refl _) ?_
      refine Sq.nil ?_
      refine Eq.goes (fun _ => ⟨hB87, hB36, hB16⟩) ?_
      refine Gq.st 5 rfl (by kernel_rfl) rfl .plain rfl (fun _ _ _ h => h) ⟨hB87, hB36, hB16⟩ (fun w' x => Still.pickT rfl rfl) ?_
      refine Gq.st 6 rfl (by kernel_rfl) rfl .plain rfl (fun _ _ _ h => h) ⟨hB87, hB36, hB16⟩ (fun w' x => Still.move rfl) ?_
      refine Gq.st 7 rfl (by kernel_rfl) rfl (.met rfl rfl rfl) rfl (fun _ _ _ h => h) ⟨hB87, hB36, hB16⟩ (fun w' x => Still.loadAgg agg26 rfl x.2.1 rfl) ?_
      refine Gq.st 9 rfl (by kernel_rfl) rfl (.met rfl rfl rfl) rfl (fun _ _ _ h => h) ⟨hB87, hB36, hB16⟩ (fun w' x => Still.loadAgg agg26 rfl x.2.2 rfl) ?_
      refine Gq.one 8 rfl (by kernel_rfl) ?_
      have hd113 := hB16.lt
      have hd114 := hB36.lt
      have hd115 := hB57.lt
      have hd116 := hB87.lt
      refine Sq.call fn20 (.met rfl rfl rfl) rfl rfl (count_c _ (safe a5) _ _ (OwnRows.rows hn29) (Own.row ha30) 4 (by omega)) ?_
      rintro _ w111 ⟨rfl, e112⟩
      have hs117 := Below.size E
      have hs118 := Below.size e112
      replace E := E.trans e112
      replace hn8 := hn8.ext e112
      replace ha9 := ha9.ext e112
      replace hB16 := hB16.ext e112
      replace hn29 := hn29.ext e112
      replace ha30 := ha30.ext e112
      replace hB36 := hB36.ext e112
      replace hn50 := hn50.ext e112
      replace ha51 := ha51.ext e112
      replace hB57 := hB57.ext e112
      replace hn80 := hn80.ext e112
      replace ha81 := ha81.ext e112
      replace hB87 := hB87.ext e112
      refine Sq.nil ?_
      refine Eq.goes (fun _ => ⟨hB87, hB36, hB16⟩) ?_
      refine Gq.one 10 rfl (by kernel_rfl) ?_
      have hd122 := hB16.lt
      have hd123 := hB36.lt
      have hd124 := hB57.lt
      have hd125 := hB87.lt
      refine Sq.call fn20 (.met rfl rfl rfl) rfl rfl (count_c _ a5 _ _ hn8 ha9 4 (by omega)) ?_
      rintro _ w120 ⟨rfl, e121⟩
      have hs126 := Below.size E
      have hs127 := Below.size e121
      replace E := E.trans e121
      replace hn8 := hn8.ext e121
      replace ha9 := ha9.ext e121
      replace hB16 := hB16.ext e121
      replace hn29 := hn29.ext e121
      replace ha30 := ha30.ext e121
      replace hB36 := hB36.ext e121
      replace hn50 := hn50.ext e121
      replace ha51 := ha51.ext e121
      replace hB57 := hB57.ext e121
      replace hn80 := hn80.ext e121
      replace ha81 := ha81.ext e121
      replace hB87 := hB87.ext e121
      refine Sq.nil ?_
      refine Eq.goes (fun _ => ⟨hB87, hB36, hB16⟩) ?_
      refine Gq.st 11 rfl (by kernel_rfl) rfl (.met rfl rfl rfl) rfl (fun _ _ _ h => h) ⟨hB87, hB36, hB16⟩ (fun w' x => Still.leq rfl rfl) ?_
      refine Gq.st 12 rfl (by kernel_rfl) rfl .plain rfl (fun _ _ _ h => h) ⟨hB87, hB36, hB16⟩ (fun w' x => Still.pickT rfl rfl) ?_
      refine Gq.one 13 rfl (by kernel_rfl) ?_
      refine Sq.assign .plain rfl rfl ?_
      refine Sq.nil ?_
      refine Eq.goes (fun h => absurd h (by decide)) ?_
      refine Gq.done (by kernel_rfl) ?_
      refine Eq.next ?_
      refine Cq.ret ?_
      refine Eq.ret1 rfl rfl ?_
      exact ⟨by first | rfl | rw [decide_eq_true (count_safe hv (by decide))], E⟩
    · refine Sq.call fn16 .plain rfl rfl (safety_c_F _ a5 _ _ hn8 ha9 hC) ?_
      rintro _ w129 ⟨⟨_, rfl, nx131, ac132, rfl, hn133, ha134⟩, e130⟩
      have hs135 := Below.size E
      have hs136 := Below.size e130
      replace E := E.trans e130
      replace hn8 := hn8.ext e130
      replace ha9 := ha9.ext e130
      replace hB16 := hB16.ext e130
      refine Sq.move .plain rfl rfl ?_
      refine Sq.extract .plain rfl rfl rfl ?_
      refine Sq.extract .plain rfl rfl rfl ?_
      refine Sq.alloc zero26 .plain rfl (fun b137 w138 e139 hB140 hlo141 => ?_)
      have hd142 := Nat.le_trans (Below.size E) hlo141
      have hd143 := Nat.lt_of_lt_of_le hB16.lt hlo141
      have hs144 := Below.size e139
      replace E := E.trans e139
      replace hn8 := hn8.ext e139
      replace ha9 := ha9.ext e139
      replace hB16 := hB16.ext e139
      replace hn133 := hn133.ext e139
      replace ha134 := ha134.ext e139
      refine Sq.storeAgg agg26 .plain rfl rfl (one_cons rfl (one_cons (Rows.one (OwnRows.rows hn133)) (one_cons (Row.one (Own.row ha134)) one_nil))) hB140 rfl rfl (fun w145 g146 hB147 => ?_)
      have hs148 := World.grownBy.size g146
      replace E := E.grown g146 (fun k hk => by injection hk with hk; subst hk; omega)
      replace hn8 := hn8.stored g146 hB140 (by decide) (by decide)
      replace ha9 := ha9.stored g146 hB140 (by decide)
      replace hB16 := hB16.grown g146 (by intro h; injection h with h; omega)
      replace hn133 := hn133.stored g146 hB140 (by decide) (by decide)
      replace ha134 := ha134.stored g146 hB140 (by decide)
      replace hB140 := hB147
      refine Sq.assign .plain rfl rfl ?_
      refine Sq.nil ?_
      refine Eq.next ?_
      refine Cq.seq ?_
      refine Cq.region ?_
      refine Sq.loadAgg agg26 .plain rfl rfl hB16 rfl ?_
      refine Sq.call fn17 .plain rfl rfl (sSafety_c_F _ a5 _ _ hn8 ha9 hC) ?_
      rintro _ w150 ⟨⟨_, rfl, nx152, ac153, rfl, hn154, ha155⟩, e151⟩
      have hs156 := Below.size E
      have hs157 := Below.size e151
      replace E := E.trans e151
      replace hn8 := hn8.ext e151
      replace ha9 := ha9.ext e151
      replace hB16 := hB16.ext e151
      replace hn133 := hn133.ext e151
      replace ha134 := ha134.ext e151
      replace hB140 := hB140.ext e151
      refine Sq.move .plain rfl rfl ?_
      refine Sq.extract .plain rfl rfl rfl ?_
      refine Sq.extract .plain rfl rfl rfl ?_
      refine Sq.alloc zero26 .plain rfl (fun b158 w159 e160 hB161 hlo162 => ?_)
      have hd163 := Nat.le_trans (Below.size E) hlo162
      have hd164 := Nat.lt_of_lt_of_le hB16.lt hlo162
      have hd165 := Nat.lt_of_lt_of_le hB140.lt hlo162
      have hs166 := Below.size e160
      replace E := E.trans e160
      replace hn8 := hn8.ext e160
      replace ha9 := ha9.ext e160
      replace hB16 := hB16.ext e160
      replace hn133 := hn133.ext e160
      replace ha134 := ha134.ext e160
      replace hB140 := hB140.ext e160
      replace hn154 := hn154.ext e160
      replace ha155 := ha155.ext e160
      refine Sq.storeAgg agg26 .plain rfl rfl (one_cons rfl (one_cons (Rows.one (OwnRows.rows hn154)) (one_cons (Row.one (Own.row ha155)) one_nil))) hB161 rfl rfl (fun w167 g168 hB169 => ?_)
      have hs170 := World.grownBy.size g168
      replace E := E.grown g168 (fun k hk => by injection hk with hk; subst hk; omega)
      replace hn8 := hn8.stored g168 hB161 (by decide) (by decide)
      replace ha9 := ha9.stored g168 hB161 (by decide)
      replace hB16 := hB16.grown g168 (by intro h; injection h with h; omega)
      replace hn133 := hn133.stored g168 hB161 (by decide) (by decide)
      replace ha134 := ha134.stored g168 hB161 (by decide)
      replace hB140 := hB140.grown g168 (by intro h; injection h with h; omega)
      replace hn154 := hn154.stored g168 hB161 (by decide) (by decide)
      replace ha155 := ha155.stored g168 hB161 (by decide)
      replace hB161 := hB169
      refine Sq.assign .plain rfl rfl ?_
      refine Sq.nil ?_
      refine Eq.next ?_
      refine Cq.seq ?_
      refine Cq.seq ?_
      refine Cq.region ?_
      refine Sq.loadAgg agg26 .plain rfl rfl hB140 rfl ?_
      refine Sq.loadAgg agg26 .plain rfl rfl hB161 rfl ?_
      have hd174 := hB16.lt
      have hd175 := hB140.lt
      have hd176 := hB161.lt
      refine Sq.call fn18 .plain rfl rfl (agAutomata_c _ zeroA zeroA _ _ _ _ (OwnRows.rows hn133) (Own.row ha134) (OwnRows.rows hn154) (Own.row ha155) (by first | exact fit_zero | exact fit_of_valid (by first | assumption | exact extend_valid hv hk | exact compl_valid' (extend_valid hv hk) | exact safe_valid hv | exact safe_valid (safe_valid hv)) | assumption)) ?_
      rintro _ w172 ⟨rfl, e173⟩
      have hs177 := Below.size E
      have hs178 := Below.size e173
      replace E := E.trans e173
      replace hn8 := hn8.ext e173
      replace ha9 := ha9.ext e173
      replace hB16 := hB16.ext e173
      replace hn133 := hn133.ext e173
      replace ha134 := ha134.ext e173
      replace hB140 := hB140.ext e173
      replace hn154 := hn154.ext e173
      replace ha155 := ha155.ext e173
      replace hB161 := hB161.ext e173
      refine Sq.beT (by exact eqA_refl _) ?_
      refine Sq.notT .plain rfl rfl ?_
      refine Sq.move .plain rfl rfl ?_
      refine Sq.move (.met rfl rfl rfl) rfl rfl ?_
      refine Sq.move (.met rfl rfl rfl) rfl rfl ?_
      refine Sq.neqB und4 (.met rfl rfl rfl) rfl rfl rfl ?_
      refine Sq.pickF .plain rfl rfl rfl ?_
      refine Sq.move .plain rfl rfl ?_
      refine Sq.move (.met rfl rfl rfl) rfl rfl ?_
      refine Sq.notF (.met rfl rfl rfl) rfl rfl ?_
      refine Sq.pickF .plain rfl rfl rfl ?_
      refine Sq.nil ?_
      refine Eq.next ?_
      refine Cq.thn rfl ?_
      refine Cq.seq ?_
      refine Cq.region ?_
      refine Sq.loadAgg agg26 .plain rfl rfl hB140 rfl ?_
      refine Sq.loadAgg agg26 .plain rfl rfl hB161 rfl ?_
      have hd182 := hB16.lt
      have hd183 := hB140.lt
      have hd184 := hB161.lt
      refine Sq.call fn18 .plain rfl rfl (agAutomata_c _ zeroA zeroA _ _ _ _ (OwnRows.rows hn133) (Own.row ha134) (OwnRows.rows hn154) (Own.row ha155) (by first | exact fit_zero | exact fit_of_valid (by first | assumption | exact extend_valid hv hk | exact compl_valid' (extend_valid hv hk) | exact safe_valid hv | exact safe_valid (safe_valid hv)) | assumption)) ?_
      rintro _ w180 ⟨rfl, e181⟩
      have hs185 := Below.size E
      have hs186 := Below.size e181
      replace E := E.trans e181
      replace hn8 := hn8.ext e181
      replace ha9 := ha9.ext e181
      replace hB16 := hB16.ext e181
      replace hn133 := hn133.ext e181
      replace ha134 := ha134.ext e181
      replace hB140 := hB140.ext e181
      replace hn154 := hn154.ext e181
      replace ha155 := ha155.ext e181
      replace hB161 := hB161.ext e181
      refine Sq.beT (by exact eqA_refl _) ?_
      refine Sq.move .plain rfl rfl ?_
      refine Sq.move (.met rfl rfl rfl) rfl rfl ?_
      refine Sq.move (.met rfl rfl rfl) rfl rfl ?_
      refine Sq.eqlB und4 (.met rfl rfl rfl) rfl rfl rfl ?_
      refine Sq.pickT .plain rfl rfl rfl ?_
      refine Sq.move .plain rfl rfl ?_
      refine Sq.move (.met rfl rfl rfl) rfl rfl ?_
      refine Sq.loadAgg agg26 (.met rfl rfl rfl) rfl rfl hB16 rfl ?_
      have hd190 := hB16.lt
      have hd191 := hB140.lt
      have hd192 := hB161.lt
      refine Sq.call fn19 (.met rfl rfl rfl) rfl rfl (valid_c _ a5 _ _ hn8 ha9) ?_
      rintro _ w188 ⟨rfl, e189⟩
      have hs193 := Below.size E
      have hs194 := Below.size e189
      replace E := E.trans e189
      replace hn8 := hn8.ext e189
      replace ha9 := ha9.ext e189
      replace hB16 := hB16.ext e189
      replace hn133 := hn133.ext e189
      replace ha134 := ha134.ext e189
      replace hB140 := hB140.ext e189
      replace hn154 := hn154.ext e189
      replace ha155 := ha155.ext e189
      replace hB161 := hB161.ext e189
      refine Sq.beF (by exact hC) ?_
      refine Sq.eqlB und4 (.met rfl rfl rfl) rfl rfl rfl ?_
      refine Sq.pickT .plain rfl rfl rfl ?_
      refine Sq.assign .plain rfl rfl ?_
      refine Sq.nil ?_
      refine Eq.next ?_
      refine Cq.ret ?_
      refine Eq.pastRet ?_
      refine Eq.ret1 rfl rfl ?_
      exact ⟨by first | rfl | rw [decide_eq_true (count_safe hv (by decide))], E⟩

end Go.Proofs.Ytmlhgkfbiapakaa
