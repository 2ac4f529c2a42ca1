/-
  Walks, printed by a program out of the translation and a contract for each function; each step is one law.
-/
import Derived.Test.YtdkdpmmfebdeaaaQa
set_option linter.unusedSimpArgs false
set_option linter.unusedVariables false
namespace Go.Proofs.Ytdkdpmmfebdeaaa
open Go.RowKit

set_option maxRecDepth 100000 in
theorem l4Ok_c (w0 : World) (aa : List A) (av sv : Value) (ss : List Int) (lt kd gl : Int) (hN : NetA w0 27 52 3 4 av aa) (hS : Ints w0 3 sv ss) (u : Value) (st : List Int) (hu : Ints w0 3 u st) (hok : NetOk aa) (hst : StOk (szs aa) st) (hsl : st.length = aa.length) (i : Int) (hi : 0 ≤ i ∧ i < aa.length) : Ret Try.prog 104 #[Value.agg #[Value.slice none 0 0, av, sv, Value.int .i64 lt, Value.int .i64 kd, Value.int .i64 gl], u, Value.int .i64 i] w0 (fun v w => v = .bool (accA (aa.getD i.toNat zeroA) (st.getD i.toNat 0)) ∧ Ext w0 w) := by
  have E := Ext.refl w0
  obtain ⟨BN, rows, hW, hrl, hat⟩ := id hN
  have hlen := hok.1
  refine Ret.of (args := [Value.agg #[Value.slice none 0 0, av, sv, Value.int .i64 lt, Value.int .i64 kd, Value.int .i64 gl], u, Value.int .i64 i]) Try.func104 rfl rfl rfl ?_
  rintro _ rfl
  show Cq _ _ _ _ [(0, Value.agg #[Value.slice none 0 0, av, sv, Value.int .i64 lt, Value.int .i64 kd, Value.int .i64 gl]), (1, u), (2, Value.int .i64 i)] _
  refine Cq.seq ?_
  refine Cq.region ?_
  refine Sq.box .plain rfl rfl (fun b1 w2 e3 hB4 hlo5 => ?_)
  have hd6 := Nat.le_trans (Below.size E) hlo5
  have hs7 := Below.size e3
  replace E := E.trans e3
  replace hW := hW.ext e3
  refine Sq.assign .plain rfl rfl ?_
  refine Sq.nil ?_
  refine Eq.next ?_
  refine Cq.seq ?_
  obtain ⟨nxq, acq, hrq, hnxq, hacq⟩ := hat i.toNat (aa.getD i.toNat zeroA) (at_getD (by omega))
  obtain ⟨gq, cq, hvq, hlq⟩ := Wid.rowAt hW (i := i) (by omega) hrq
  have hcC : Cell1 w2 ⟨gq, i.toNat * 3 + 2, none⟩ acq := Wid.cellR hvq hW (by omega) hrq (j := 2) (by decide)
  obtain ⟨phpS, hpS⟩ := Ints.at hu (i := i) (by omega) (by omega)
  replace hpS : At w2 3 u (((0 : Nat) : Int) + i) phpS (.int .i64 (st.getD i.toNat 0)) := by rw [show (((0 : Nat) : Int) + i) = i by omega]; exact hpS.ext E
  have hsti := st_at hst (k := i.toNat) (by omega)
  have hnat := net_at hok (k := i.toNat) (by omega)
  obtain ⟨phpC, hpC⟩ := Bools.at hacq (i := st.getD i.toNat 0) (by omega) (by omega)
  replace hpC := hpC.ext E
  refine Cq.drawS 16 (fun w' => Blk w' b1 70 [Value.slice none 0 0, av, sv, Value.int .i64 lt, Value.int .i64 kd, Value.int .i64 gl] ∧ Cell1 w' ⟨gq, i.toNat * 3 + 2, none⟩ acq ∧ At w' 3 u (((0 : Nat) : Int) + i) phpS (.int .i64 (st.getD i.toNat 0)) ∧ At w' 4 acq (st.getD i.toNat 0) phpC (.bool ((aa.getD i.toNat zeroA).acc.getD (st.getD i.toNat 0).toNat false))) mixed (⟨hB4, hcC, hpS, hpC⟩) (fun w8 e9 hS => ?_)
  clear hS
  have hs10 := Below.size e9
  replace E := E.trans e9
  replace hW := hW.ext e9
  replace hB4 := hB4.ext e9
  replace hcC := hcC.ext e9
  replace hpS := hpS.ext e9
  replace hpC := hpC.ext e9
  have E_w8 := E
  have hW_w8 := hW
  have hB4_w8 := hB4
  have hcC_w8 := hcC
  have hpS_w8 := hpS
  have hpC_w8 := hpC
  refine Gq.st 0 rfl (by kernel_rfl) rfl .plain rfl (fun _ _ _ h => h) ⟨hB4, hcC, hpS, hpC⟩ (fun w' x => Still.fieldAddr fld70_1 rfl) ?_
  refine Gq.st 1 rfl (by kernel_rfl) rfl .plain rfl (fun _ _ _ h => h) ⟨hB4, hcC, hpS, hpC⟩ (fun w' x => Still.loadB one67 rfl x.1 rfl) ?_
  refine Gq.st 2 rfl (by kernel_rfl) rfl .plain rfl (fun _ _ _ h => h) ⟨hB4, hcC, hpS, hpC⟩ (fun w' x => Still.move rfl) ?_
  refine Gq.st 3 rfl (by kernel_rfl) rfl .plain rfl (fun _ _ _ h => h) ⟨hB4, hcC, hpS, hpC⟩ (fun w' x => Still.ixV slw67 hvq rfl rfl (by omega)) ?_
  refine Gq.st 4 rfl (by kernel_rfl) rfl .plain rfl (fun _ _ _ h => h) ⟨hB4, hcC, hpS, hpC⟩ (fun w' x => Still.fieldAddr fld27_2 rfl) ?_
  refine Gq.st 5 rfl (by kernel_rfl) rfl .plain rfl (fun _ _ _ h => h) ⟨hB4, hcC, hpS, hpC⟩ (fun w' x => Still.load one23 rfl (x.2.1)) ?_
  refine Gq.st 6 rfl (by kernel_rfl) rfl .plain rfl (fun _ _ _ h => h) ⟨hB4, hcC, hpS, hpC⟩ (fun w' x => Still.move rfl) ?_
  refine Gq.st 7 rfl (by kernel_rfl) rfl .plain rfl (fun _ _ _ h => h) ⟨hB4, hcC, hpS, hpC⟩ (fun w' x => Still.fieldAddr fld70_0 rfl) ?_
  refine Gq.st 8 rfl (by kernel_rfl) rfl .plain rfl (fun _ _ _ h => h) ⟨hB4, hcC, hpS, hpC⟩ (fun w' x => Still.loadB one68 rfl x.1 rfl) ?_
  refine Gq.st 9 rfl (by kernel_rfl) rfl .plain rfl (fun _ _ _ h => h) ⟨hB4, hcC, hpS, hpC⟩ (fun w' x => Still.len und68 rfl) ?_
  refine Gq.st 10 rfl (by kernel_rfl) rfl .plain rfl (fun _ _ _ h => h) ⟨hB4, hcC, hpS, hpC⟩ (fun w' x => Still.move rfl) ?_
  refine Gq.st 11 rfl (by kernel_rfl) rfl .plain rfl (fun _ _ _ h => h) ⟨hB4, hcC, hpS, hpC⟩ (fun w' x => Still.add rfl rfl (by omega)) ?_
  refine Gq.st 12 rfl (by kernel_rfl) rfl .plain rfl (fun _ _ _ h => h) ⟨hB4, hcC, hpS, hpC⟩ (fun w' x => Still.at' sl52 hpS rfl rfl) ?_
  refine Gq.st 13 rfl (by kernel_rfl) rfl .plain rfl (fun _ _ _ h => h) ⟨hB4, hcC, hpS, hpC⟩ (fun w' x => Still.loadA one3 rfl (x.2.2.1).1) ?_
  refine Gq.st 14 rfl (by kernel_rfl) rfl .plain rfl (fun _ _ _ h => h) ⟨hB4, hcC, hpS, hpC⟩ (fun w' x => Still.at' sl23 hpC rfl rfl) ?_
  refine Gq.st 15 rfl (by kernel_rfl) rfl .plain rfl (fun _ _ _ h => h) ⟨hB4, hcC, hpS, hpC⟩ (fun w' x => Still.loadA one4 rfl (x.2.2.2).1) ?_
  refine Gq.one 16 rfl (by kernel_rfl) ?_
  refine Sq.assign .plain rfl rfl ?_
  refine Sq.nil ?_
  refine Eq.goes (fun h => absurd h (by decide)) ?_
  refine Gq.done (by kernel_rfl) ?_
  refine Eq.next ?_
  refine Cq.ret ?_
  refine Eq.ret1 rfl rfl ?_
  exact ⟨rfl, E⟩

set_option maxRecDepth 100000 in
theorem l4Found_c (w0 : World) (aa : List A) (av sv : Value) (ss : List Int) (lt kd gl : Int) (hN : NetA w0 27 52 3 4 av aa) (hS : Ints w0 3 sv ss) (u : Value) (st : List Int) (hu : Ints w0 3 u st) (hok : NetOk aa) (hst : StOk (szs aa) st) (hsl : st.length = aa.length) (mv : Value) (hk : KindOk kd aa) : Ret Try.prog 89 #[Value.agg #[Value.slice none 0 0, av, sv, Value.int .i64 lt, Value.int .i64 kd, Value.int .i64 gl], u, mv] w0 (fun v w => v = .bool (foundN kd gl aa st) ∧ Ext w0 w) := by
  have E := Ext.refl w0
  have hlen := hok.1
  have hk' : kd = 0 ∨ kd = 5 ∨ ((kd = 1 ∨ kd = 2) ∧ aa.length = 2) := hk
  refine Ret.of (args := [Value.agg #[Value.slice none 0 0, av, sv, Value.int .i64 lt, Value.int .i64 kd, Value.int .i64 gl], u, mv]) Try.func89 rfl rfl rfl ?_
  rintro _ rfl
  show Cq _ _ _ _ [(0, Value.agg #[Value.slice none 0 0, av, sv, Value.int .i64 lt, Value.int .i64 kd, Value.int .i64 gl]), (1, u), (2, mv)] _
  refine Cq.seq ?_
  refine Cq.region ?_
  refine Sq.box .plain rfl rfl (fun b1 w2 e3 hB4 hlo5 => ?_)
  have hd6 := Nat.le_trans (Below.size E) hlo5
  have hs7 := Below.size e3
  replace E := E.trans e3
  refine Sq.assign .plain rfl rfl ?_
  refine Sq.nil ?_
  refine Eq.next ?_
  refine Cq.seq ?_
  refine Cq.seq ?_
  refine Cq.region ?_
  refine Sq.fieldAddr fld70_4 .plain rfl rfl ?_
  refine Sq.loadB one3 .plain rfl rfl hB4 rfl ?_
  refine Sq.nil ?_
  refine Eq.next ?_
  refine Cq.block ?_
  refine Cq.seq ?_
  refine Cq.region ?_
  refine Sq.eql .plain rfl rfl rfl ?_
  refine Sq.part (fun hk0 => ?_) (fun hk0 => ?_)
  · refine Sq.assign .plain rfl rfl ?_
    refine Sq.nil ?_
    refine Eq.next ?_
    refine Cq.thn rfl ?_
    refine Cq.seq ?_
    refine Cq.region ?_
    refine Sq.loadAgg agg70 .plain rfl rfl hB4 rfl ?_
    refine Sq.move .plain rfl rfl ?_
    have hd11 := hB4.lt
    refine Sq.call fn104 .plain rfl rfl (l4Ok_c _ aa av sv ss lt kd gl (hN.ext E) (hS.ext E) u st (hu.ext E) hok hst hsl 0 (by omega)) ?_
    rintro _ w9 ⟨rfl, e10⟩
    have hs12 := Below.size E
    have hs13 := Below.size e10
    replace E := E.trans e10
    replace hB4 := hB4.ext e10
    refine Sq.assign .plain rfl rfl ?_
    refine Sq.nil ?_
    refine Eq.next ?_
    refine Cq.ret ?_
    refine Eq.outRet ?_
    refine Eq.pastRet ?_
    refine Eq.ret1 rfl rfl ?_
    exact ⟨by unfold foundN; rw [if_pos hk0]; first | done | rfl | (have hx' : accA (aa.getD 0 zeroA) (st.getD 0 0) = _ := hx; rw [hx']; first | done | rfl | (rw [Bool.true_and]; done) | (rw [Bool.true_and]; rfl) | (rw [Bool.false_and]; done) | (rw [Bool.false_and]; rfl)), E⟩
  · refine Sq.assign .plain rfl rfl ?_
    refine Sq.nil ?_
    refine Eq.next ?_
    refine Cq.els rfl ?_
    refine Cq.seq ?_
    refine Cq.region ?_
    refine Sq.eql .plain rfl rfl rfl ?_
    refine Sq.part (fun hk1 => ?_) (fun hk1 => ?_)
    · refine Sq.assign .plain rfl rfl ?_
      refine Sq.nil ?_
      refine Eq.next ?_
      refine Cq.thn rfl ?_
      refine Cq.seq ?_
      refine Cq.drawS 7 (fun w' => Blk w' b1 70 [Value.slice none 0 0, av, sv, Value.int .i64 lt, Value.int .i64 kd, Value.int .i64 gl]) mixed (hB4) (fun w14 e15 hS => ?_)
      clear hS
      have hs16 := Below.size e15
      replace E := E.trans e15
      replace hB4 := hB4.ext e15
      have E_w14 := E
      have hB4_w14 := hB4
      refine Gq.st 0 rfl (by kernel_rfl) rfl .plain rfl (fun _ _ _ h => h) hB4 (fun w' x => Still.loadAgg agg70 rfl x rfl) ?_
      refine Gq.st 1 rfl (by kernel_rfl) rfl .plain rfl (fun _ _ _ h => h) hB4 (fun w' x => Still.move rfl) ?_
      refine Gq.st 3 rfl (by kernel_rfl) rfl .plain rfl (fun _ _ _ h => h) hB4 (fun w' x => Still.loadAgg agg70 rfl x rfl) ?_
      refine Gq.st 4 rfl (by kernel_rfl) rfl .plain rfl (fun _ _ _ h => h) hB4 (fun w' x => Still.move rfl) ?_
      refine Gq.one 2 rfl (by kernel_rfl) ?_
      have hd20 := hB4.lt
      refine Sq.call fn104 .plain rfl rfl (l4Ok_c _ aa av sv ss lt kd gl (hN.ext E) (hS.ext E) u st (hu.ext E) hok hst hsl 0 (by omega)) ?_
      rintro _ w18 ⟨rfl, e19⟩
      have hs21 := Below.size E
      have hs22 := Below.size e19
      replace E := E.trans e19
      replace hB4 := hB4.ext e19
      refine Sq.nil ?_
      refine Eq.goes (fun _ => hB4) ?_
      refine Gq.one 5 rfl (by kernel_rfl) ?_
      have hd26 := hB4.lt
      refine Sq.call fn104 .plain rfl rfl (l4Ok_c _ aa av sv ss lt kd gl (hN.ext E) (hS.ext E) u st (hu.ext E) hok hst hsl 1 (by omega)) ?_
      rintro _ w24 ⟨rfl, e25⟩
      have hs27 := Below.size E
      have hs28 := Below.size e25
      replace E := E.trans e25
      replace hB4 := hB4.ext e25
      refine Sq.nil ?_
      refine Eq.goes (fun _ => hB4) ?_
      refine Gq.st 6 rfl (by kernel_rfl) rfl .plain rfl (fun _ _ _ h => h) hB4 (fun w' x => Still.neqB und4 rfl rfl) ?_
      refine Gq.one 7 rfl (by kernel_rfl) ?_
      refine Sq.assign .plain rfl rfl ?_
      refine Sq.nil ?_
      refine Eq.goes (fun h => absurd h (by decide)) ?_
      refine Gq.done (by kernel_rfl) ?_
      refine Eq.next ?_
      refine Cq.ret ?_
      refine Eq.outRet ?_
      refine Eq.pastRet ?_
      refine Eq.ret1 rfl rfl ?_
      exact ⟨by unfold foundN; rw [if_neg hk0]; rw [if_pos hk1]; first | done | rfl | (have hx' : accA (aa.getD 0 zeroA) (st.getD 0 0) = _ := hx; rw [hx']; first | done | rfl | (rw [Bool.true_and]; done) | (rw [Bool.true_and]; rfl) | (rw [Bool.false_and]; done) | (rw [Bool.false_and]; rfl)), E⟩
    · refine Sq.assign .plain rfl rfl ?_
      refine Sq.nil ?_
      refine Eq.next ?_
      refine Cq.els rfl ?_
      refine Cq.seq ?_
      refine Cq.region ?_
      refine Sq.eql .plain rfl rfl rfl ?_
      refine Sq.part (fun hk2 => ?_) (fun hk2 => ?_)
      · refine Sq.assign .plain rfl rfl ?_
        refine Sq.nil ?_
        refine Eq.next ?_
        refine Cq.thn rfl ?_
        refine Cq.seq ?_
        refine Cq.region ?_
        refine Sq.loadAgg agg70 .plain rfl rfl hB4 rfl ?_
        refine Sq.move .plain rfl rfl ?_
        have hd32 := hB4.lt
        refine Sq.call fn104 .plain rfl rfl (l4Ok_c _ aa av sv ss lt kd gl (hN.ext E) (hS.ext E) u st (hu.ext E) hok hst hsl 0 (by omega)) ?_
        rintro _ w30 ⟨rfl, e31⟩
        have hs33 := Below.size E
        have hs34 := Below.size e31
        replace E := E.trans e31
        replace hB4 := hB4.ext e31
        refine Sq.partB (fun hx => ?_) (fun hx => ?_)
        · refine Sq.move .plain rfl rfl ?_
          refine Sq.loadAgg agg70 (.met rfl rfl rfl) rfl rfl hB4 rfl ?_
          refine Sq.move (.met rfl rfl rfl) rfl rfl ?_
          have hd38 := hB4.lt
          refine Sq.call fn104 (.met rfl rfl rfl) rfl rfl (l4Ok_c _ aa av sv ss lt kd gl (hN.ext E) (hS.ext E) u st (hu.ext E) hok hst hsl 1 (by omega)) ?_
          rintro _ w36 ⟨rfl, e37⟩
          have hs39 := Below.size E
          have hs40 := Below.size e37
          replace E := E.trans e37
          replace hB4 := hB4.ext e37
          refine Sq.not (.met rfl rfl rfl) rfl rfl ?_
          refine Sq.pickT .plain rfl rfl rfl ?_
          refine Sq.assign .plain rfl rfl ?_
          refine Sq.nil ?_
          refine Eq.next ?_
          refine Cq.ret ?_
          refine Eq.outRet ?_
          refine Eq.pastRet ?_
          refine Eq.ret1 rfl rfl ?_
          exact ⟨by unfold foundN; rw [if_neg hk0]; rw [if_neg hk1]; rw [if_pos hk2]; first | done | rfl | (have hx' : accA (aa.getD 0 zeroA) (st.getD 0 0) = _ := hx; rw [hx']; first | done | rfl | (rw [Bool.true_and]; done) | (rw [Bool.true_and]; rfl) | (rw [Bool.false_and]; done) | (rw [Bool.false_and]; rfl)), E⟩
        · refine Sq.move .plain rfl rfl ?_
          refine Sq.off rfl rfl rfl rfl rfl rfl ?_
          refine Sq.off rfl rfl rfl rfl rfl rfl ?_
          refine Sq.off rfl rfl rfl rfl rfl rfl ?_
          refine Sq.off rfl rfl rfl rfl rfl rfl ?_
          refine Sq.pickF .plain rfl rfl rfl ?_
          refine Sq.assign .plain rfl rfl ?_
          refine Sq.nil ?_
          refine Eq.next ?_
          refine Cq.ret ?_
          refine Eq.outRet ?_
          refine Eq.pastRet ?_
          refine Eq.ret1 rfl rfl ?_
          exact ⟨by unfold foundN; rw [if_neg hk0]; rw [if_neg hk1]; rw [if_pos hk2]; first | done | rfl | (have hx' : accA (aa.getD 0 zeroA) (st.getD 0 0) = _ := hx; rw [hx']; first | done | rfl | (rw [Bool.true_and]; done) | (rw [Bool.true_and]; rfl) | (rw [Bool.false_and]; done) | (rw [Bool.false_and]; rfl)), E⟩
      · refine Sq.assign .plain rfl rfl ?_
        refine Sq.nil ?_
        refine Eq.next ?_
        refine Cq.els rfl ?_
        refine Cq.seq ?_
        refine Cq.region ?_
        refine Sq.eql .plain rfl rfl rfl ?_
        refine Sq.isF (by omega) ?_
        refine Sq.assign .plain rfl rfl ?_
        refine Sq.nil ?_
        refine Eq.next ?_
        refine Cq.els rfl ?_
        refine Cq.seq ?_
        refine Cq.region ?_
        refine Sq.eql .plain rfl rfl rfl ?_
        refine Sq.isT (by omega) ?_
        refine Sq.assign .plain rfl rfl ?_
        refine Sq.nil ?_
        refine Eq.next ?_
        refine Cq.thn rfl ?_
        refine Cq.seq ?_
        obtain ⟨phpS, hpS⟩ := Ints.at hu (i := ((0 : Nat) : Int)) (by omega) (by omega)
        replace hpS := hpS.ext E
        refine Cq.drawS 9 (fun w' => Blk w' b1 70 [Value.slice none 0 0, av, sv, Value.int .i64 lt, Value.int .i64 kd, Value.int .i64 gl] ∧ At w' 3 u ((0 : Nat) : Int) phpS (.int .i64 (st.getD 0 0))) mixed (⟨hB4, hpS⟩) (fun w41 e42 hS => ?_)
        clear hS
        have hs43 := Below.size e42
        replace E := E.trans e42
        replace hB4 := hB4.ext e42
        replace hpS := hpS.ext e42
        have E_w41 := E
        have hB4_w41 := hB4
        have hpS_w41 := hpS
        refine Gq.st 0 rfl (by kernel_rfl) rfl .plain rfl (fun _ _ _ h => h) ⟨hB4, hpS⟩ (fun w' x => Still.move rfl) ?_
        refine Gq.st 1 rfl (by kernel_rfl) rfl .plain rfl (fun _ _ _ h => h) ⟨hB4, hpS⟩ (fun w' x => Still.fieldAddr fld70_0 rfl) ?_
        refine Gq.st 2 rfl (by kernel_rfl) rfl .plain rfl (fun _ _ _ h => h) ⟨hB4, hpS⟩ (fun w' x => Still.loadB one68 rfl x.1 rfl) ?_
        refine Gq.st 3 rfl (by kernel_rfl) rfl .plain rfl (fun _ _ _ h => h) ⟨hB4, hpS⟩ (fun w' x => Still.len und68 rfl) ?_
        refine Gq.st 4 rfl (by kernel_rfl) rfl .plain rfl (fun _ _ _ h => h) ⟨hB4, hpS⟩ (fun w' x => Still.at' sl52 hpS rfl rfl) ?_
        refine Gq.st 5 rfl (by kernel_rfl) rfl .plain rfl (fun _ _ _ h => h) ⟨hB4, hpS⟩ (fun w' x => Still.loadA one3 rfl (x.2).1) ?_
        refine Gq.st 6 rfl (by kernel_rfl) rfl .plain rfl (fun _ _ _ h => h) ⟨hB4, hpS⟩ (fun w' x => Still.fieldAddr fld70_5 rfl) ?_
        refine Gq.st 7 rfl (by kernel_rfl) rfl .plain rfl (fun _ _ _ h => h) ⟨hB4, hpS⟩ (fun w' x => Still.loadB one3 rfl x.1 rfl) ?_
        refine Gq.st 8 rfl (by kernel_rfl) rfl .plain rfl (fun _ _ _ h => h) ⟨hB4, hpS⟩ (fun w' x => Still.eql rfl rfl) ?_
        refine Gq.one 9 rfl (by kernel_rfl) ?_
        refine Sq.assign .plain rfl rfl ?_
        refine Sq.nil ?_
        refine Eq.goes (fun h => absurd h (by decide)) ?_
        refine Gq.done (by kernel_rfl) ?_
        refine Eq.next ?_
        refine Cq.ret ?_
        refine Eq.outRet ?_
        refine Eq.pastRet ?_
        refine Eq.ret1 rfl rfl ?_
        exact ⟨by unfold foundN; rw [if_neg hk0]; rw [if_neg hk1]; rw [if_neg hk2]; first | done | rfl | (have hx' : accA (aa.getD 0 zeroA) (st.getD 0 0) = _ := hx; rw [hx']; first | done | rfl | (rw [Bool.true_and]; done) | (rw [Bool.true_and]; rfl) | (rw [Bool.false_and]; done) | (rw [Bool.false_and]; rfl)), E⟩

set_option maxRecDepth 100000 in
theorem l4Near_c (w0 : World) (rv dv : Value) (xss : List (List Int)) (ds : List Int) (d : Int) (hr : Rows w0 52 3 rv xss) (hd : Ints w0 3 dv ds) (hb : ∀ r ∈ xss, r.length ≤ 1000 ∧ ∀ x ∈ r, 0 ≤ x ∧ x < (ds.length : Int)) (hl : xss.length ≤ 1000) : Ret Try.prog 105 #[rv, dv, Value.int .i64 d] w0 (fun v w => v = .bool (nearX ds xss d) ∧ Ext w0 w) := by
  have E := Ext.refl w0
  refine Ret.of (args := [rv, dv, Value.int .i64 d]) Try.func105 rfl rfl rfl ?_
  rintro _ rfl
  show Cq _ _ _ _ [(0, rv), (1, dv), (2, Value.int .i64 d)] _
  refine Cq.seq ?_
  refine Cq.region ?_
  refine Sq.assign .plain rfl rfl ?_
  refine Sq.nil ?_
  refine Eq.next ?_
  refine Cq.seq ?_
  refine Cq.seq ?_
  refine Cq.region ?_
  refine Sq.assign .plain rfl rfl ?_
  refine Sq.nil ?_
  refine Eq.next ?_
  refine Cq.block ?_
  refine Cq.loop (fun nn w ls => ∃ (k : Int), ls = [(0, rv), (1, dv), (2, Value.int .i64 d), (7, Value.int .i64 k)] ∧ (0 ≤ k ∧ k ≤ xss.length) ∧ nearX ds (xss.take k.toNat) d = false ∧ Ext w0 w ∧ nn = ((xss.length : Int) - k).toNat) _ _ ⟨0, rfl, by omega, rfl, E, rfl⟩ (.cons rfl (.cons rfl (.cons rfl (.cons rfl (.nil))))) ?_
  rintro nn wl1 ls ⟨k, rfl, hk, hp, E, rfl⟩
  have hs1 := Below.size E
  refine Cq.seq ?_
  refine Cq.seq ?_
  refine Cq.region ?_
  refine Sq.move .plain rfl rfl ?_
  refine Sq.move .plain rfl rfl ?_
  refine Sq.lenRows (hr.ext E) .plain rfl und22 rfl ?_
  refine Sq.lss .plain rfl rfl rfl ?_
  refine Sq.part (fun c2 => ?_) (fun c2 => ?_)
  · refine Sq.nil ?_
    refine Eq.next ?_
    refine Cq.thn rfl ?_
    refine Cq.skip ?_
    refine Eq.next ?_
    refine Cq.seq ?_
    refine Cq.block ?_
    refine Cq.seq ?_
    refine Cq.region ?_
    refine Sq.assign .plain rfl rfl ?_
    refine Sq.nil ?_
    refine Eq.next ?_
    refine Cq.block ?_
    have hbr := hb (xss.getD k.toNat []) (getD_mem (by omega))
    have hbr1 := hbr.1
    refine Cq.loop (fun nn w ls => ∃ (i : Int), ls = [(0, rv), (1, dv), (2, Value.int .i64 d), (7, Value.int .i64 k), (8, Value.int .i64 i)] ∧ (0 ≤ i ∧ i ≤ (xss.getD k.toNat []).length) ∧ (((xss.getD k.toNat []).take i.toNat).any fun x => decide (ds.getD x.toNat 0 = d)) = false ∧ Ext w0 w ∧ nn = (((xss.getD k.toNat []).length : Int) - i).toNat) _ _ ⟨0, rfl, by omega, rfl, E, rfl⟩ (.cons rfl (.cons rfl (.cons rfl (.cons rfl (.cons rfl (.nil)))))) ?_
    rintro nn wl2 ls ⟨i, rfl, hi, hq, E, rfl⟩
    have hs3 := Below.size E
    have hbx : i < ((xss.getD k.toNat []).length : Int) → 0 ≤ (xss.getD k.toNat []).getD i.toNat 0 ∧ (xss.getD k.toNat []).getD i.toNat 0 < (ds.length : Int) := fun h => hbr.2 _ (getD_mem (by omega))
    refine Cq.seq ?_
    refine Cq.seq ?_
    refine Cq.region ?_
    refine Sq.move .plain rfl rfl ?_
    refine Sq.move .plain rfl rfl ?_
    refine Sq.move .plain rfl rfl ?_
    refine Sq.idxRows sl22 one52 (hr.ext E) .plain rfl rfl rfl .plain rfl rfl (by omega) (by omega) (fun r4 hr5 => ?_)
    refine Sq.lenInts hr5 .plain rfl und52 rfl ?_
    refine Sq.lss .plain rfl rfl rfl ?_
    refine Sq.part (fun c6 => ?_) (fun c6 => ?_)
    · refine Sq.nil ?_
      refine Eq.next ?_
      refine Cq.thn rfl ?_
      refine Cq.skip ?_
      refine Eq.next ?_
      refine Cq.seq ?_
      refine Cq.block ?_
      refine Cq.seq ?_
      refine Cq.region ?_
      refine Sq.move .plain rfl rfl ?_
      refine Sq.move .plain rfl rfl ?_
      refine Sq.move .plain rfl rfl ?_
      refine Sq.idxRows sl22 one52 (hr.ext E) .plain rfl rfl rfl .plain rfl rfl (by omega) (by omega) (fun r7 hr8 => ?_)
      refine Sq.move .plain rfl rfl ?_
      refine Sq.idxInts sl52 one3 hr8 .plain rfl rfl rfl .plain rfl rfl (by omega) (by omega) ?_
      refine Sq.idxInts sl52 one3 (hd.ext E) .plain rfl rfl rfl .plain rfl rfl (by have := hbx (by omega); omega) (by have := hbx (by omega); omega) ?_
      refine Sq.move .plain rfl rfl ?_
      refine Sq.eql .plain rfl rfl rfl ?_
      refine Sq.part (fun hne => ?_) (fun hne => ?_)
      · refine Sq.nil ?_
        refine Eq.next ?_
        refine Cq.thn rfl ?_
        refine Cq.seq ?_
        refine Cq.region ?_
        refine Sq.assign .plain rfl rfl ?_
        refine Sq.nil ?_
        refine Eq.next ?_
        refine Cq.ret ?_
        refine Eq.outRet ?_
        refine Eq.pastRet ?_
        refine Eq.pastRet ?_
        refine Eq.outRet ?_
        refine Eq.outRet ?_
        refine Eq.pastRet ?_
        refine Eq.pastRet ?_
        refine Eq.outRet ?_
        refine Eq.pastRet ?_
        refine Eq.ret1 rfl rfl ?_
        exact ⟨by rw [near_yes (k := k.toNat) (i := i.toNat) (by omega) (by omega) hne], E⟩
      · refine Sq.nil ?_
        refine Eq.next ?_
        refine Cq.els rfl ?_
        refine Cq.skip ?_
        refine Eq.end ?_
        refine Eq.next ?_
        refine Cq.region ?_
        refine Sq.move .plain rfl rfl ?_
        refine Sq.add .plain rfl rfl rfl (by omega) ?_
        refine Sq.assign .plain rfl rfl ?_
        refine Sq.nil ?_
        have e2 := toNat_succ hi.1
        refine Eq.round _ _ ⟨i + 1, rfl, by omega, by rw [e2, take_snoc 0 (by omega), List.any_append, hq, Bool.false_or, List.any_cons, List.any_nil, Bool.or_false]; exact decide_eq_false hne, E, rfl⟩ (by omega) (.cons rfl (.cons rfl (.cons rfl (.cons rfl (.cons rfl (.nil))))))
    · refine Sq.nil ?_
      refine Eq.next ?_
      refine Cq.els rfl ?_
      refine Cq.exit ?_
      refine Eq.past ?_
      refine Eq.past ?_
      refine Eq.hit ?_
      refine Eq.end ?_
      refine Eq.next ?_
      refine Cq.region ?_
      refine Sq.move .plain rfl rfl ?_
      refine Sq.add .plain rfl rfl rfl (by omega) ?_
      refine Sq.assign .plain rfl rfl ?_
      refine Sq.nil ?_
      have e1 := toNat_succ hk.1
      refine Eq.round _ _ ⟨k + 1, rfl, by omega, by rw [List.take_of_length_le (by omega)] at hq; rw [e1, take_snoc [] (by omega)]; unfold nearX at hp ⊢; rw [List.any_append, hp, Bool.false_or, List.any_cons, List.any_nil, Bool.or_false]; exact hq, E, rfl⟩ (by omega) (.cons rfl (.cons rfl (.cons rfl (.cons rfl (.nil)))))
  · refine Sq.nil ?_
    refine Eq.next ?_
    refine Cq.els rfl ?_
    refine Cq.exit ?_
    refine Eq.past ?_
    refine Eq.past ?_
    refine Eq.hit ?_
    refine Eq.next ?_
    refine Cq.seq ?_
    refine Cq.region ?_
    refine Sq.assign .plain rfl rfl ?_
    refine Sq.nil ?_
    refine Eq.next ?_
    refine Cq.ret ?_
    refine Eq.ret1 rfl rfl ?_
    exact ⟨by rw [List.take_of_length_le (by omega)] at hp; rw [hp], E⟩

end Go.Proofs.Ytdkdpmmfebdeaaa
