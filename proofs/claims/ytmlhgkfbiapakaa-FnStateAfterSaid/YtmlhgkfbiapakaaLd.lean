/-
  Walks, printed by a program out of the translation and a contract for each function; each step is one law.
-/
import Derived.Test.YtmlhgkfbiapakaaWq
import Derived.Test.YtmlhgkfbiapakaaWr
import Derived.Test.YtmlhgkfbiapakaaWp
set_option linter.unusedSimpArgs false
set_option linter.unusedVariables false
namespace Go.Proofs.Ytmlhgkfbiapakaa
open Go.RowKit

set_option maxRecDepth 100000 in
theorem lAcceptsWord (w0 : World) (e : TypeId) (a0 : Option Addr) (c0 : Nat) (cs : List UInt8) (hc : Bytes w0 e (.slice a0 cs.length c0) cs) (hcap : cs.length ≤ c0) : Ret Try.prog 10 #[Value.slice a0 cs.length c0] w0 (fun v w => v = .bool true ∧ Ext w0 w) := by
  have E := Ext.refl w0
  refine Ret.of (args := [Value.slice a0 cs.length c0]) Try.func10 rfl rfl rfl ?_
  rintro _ rfl
  show Cq _ _ _ _ [(0, Value.slice a0 cs.length c0)] _
  refine Cq.seq ?_
  refine Cq.region ?_
  refine Sq.assign .plain rfl rfl ?_
  refine Sq.nil ?_
  refine Eq.next ?_
  refine Cq.seq ?_
  refine Cq.seq ?_
  refine Cq.region ?_
  refine Sq.move .plain rfl rfl ?_
  refine Sq.lenBytes (hc.ext E) .plain rfl und22 rfl ?_
  refine Sq.gtr .plain rfl rfl rfl ?_
  refine Sq.part (fun c1 => ?_) (fun c1 => ?_)
  · refine Sq.nil ?_
    refine Eq.next ?_
    refine Cq.thn rfl ?_
    refine Cq.seq ?_
    refine Cq.region ?_
    refine Sq.assign .plain rfl rfl ?_
    refine Sq.nil ?_
    refine Eq.next ?_
    refine Cq.ret ?_
    refine Eq.pastRet ?_
    refine Eq.ret1 rfl rfl ?_
    exact ⟨rfl, E⟩
  · refine Sq.nil ?_
    refine Eq.next ?_
    refine Cq.els rfl ?_
    refine Cq.skip ?_
    refine Eq.next ?_
    refine Cq.seq ?_
    refine Cq.region ?_
    refine Sq.move .plain rfl rfl ?_
    refine Sq.call fn35 .plain rfl rfl (drawAccepts_c _ _ _ _ _ (hc.ext E) hcap) ?_
    rintro _ w3 ⟨⟨u5, s6, a7, rfl, ⟨nx8, ac9, rfl, hn10, ha11⟩, hsm12, hsz13⟩, e4⟩
    have hs14 := Below.size E
    have hs15 := Below.size e4
    replace E := E.trans e4
    refine Sq.move .plain rfl rfl ?_
    refine Sq.extract .plain rfl rfl rfl ?_
    refine Sq.extract .plain rfl rfl rfl ?_
    refine Sq.alloc zero26 .plain rfl (fun b16 w17 e18 hB19 hlo20 => ?_)
    have hd21 := Nat.le_trans (Below.size E) hlo20
    have hs22 := Below.size e18
    replace E := E.trans e18
    replace hn10 := hn10.ext e18
    replace ha11 := ha11.ext e18
    refine Sq.storeAgg agg26 .plain rfl rfl (one_cons rfl (one_cons (Rows.one hn10) (one_cons (Row.one ha11) one_nil))) hB19 rfl rfl (fun w23 g24 hB25 => ?_)
    have hs26 := World.grownBy.size g24
    replace E := E.grown g24 (fun k hk => by injection hk with hk; subst hk; omega)
    replace hn10 := hn10.stored g24 hB19 (by decide) (by decide)
    replace ha11 := ha11.stored g24 hB19 (by decide)
    replace hB19 := hB25
    refine Sq.assign .plain rfl rfl ?_
    refine Sq.nil ?_
    refine Eq.next ?_
    refine Cq.seq ?_
    refine Cq.region ?_
    refine Sq.loadAgg agg26 .plain rfl rfl hB19 rfl ?_
    refine Sq.move .plain rfl rfl ?_
    have hd30 := hB19.lt
    refine Sq.call fn28 .plain rfl rfl (accepts_c _ a7 _ _ hn10 ha11 s6 (by omega)) ?_
    rintro _ w28 ⟨rfl, e29⟩
    have hs31 := Below.size E
    have hs32 := Below.size e29
    replace E := E.trans e29
    replace hn10 := hn10.ext e29
    replace ha11 := ha11.ext e29
    replace hB19 := hB19.ext e29
    refine Sq.assign .plain rfl rfl ?_
    refine Sq.nil ?_
    refine Eq.next ?_
    refine Cq.seq ?_
    refine Cq.seq ?_
    refine Cq.region ?_
    refine Sq.move .plain rfl rfl ?_
    refine Sq.loadAgg agg26 .plain rfl rfl hB19 rfl ?_
    refine Sq.move .plain rfl rfl ?_
    have hd36 := hB19.lt
    refine Sq.call fn36 .plain rfl rfl (sAccepts_c _ a7 _ _ hn10 ha11 s6 (by omega)) ?_
    rintro _ w34 ⟨rfl, e35⟩
    have hs37 := Below.size E
    have hs38 := Below.size e35
    replace E := E.trans e35
    replace hn10 := hn10.ext e35
    replace ha11 := ha11.ext e35
    replace hB19 := hB19.ext e35
    refine Sq.neqB und4 .plain rfl rfl rfl ?_
    refine Sq.beF (by simp) ?_
    refine Sq.nil ?_
    refine Eq.next ?_
    refine Cq.els rfl ?_
    refine Cq.skip ?_
    refine Eq.next ?_
    refine Cq.seq ?_
    refine Cq.region ?_
    refine Sq.loadAgg agg26 .plain rfl rfl hB19 rfl ?_
    refine Sq.move .plain rfl rfl ?_
    have hd42 := hB19.lt
    refine Sq.call fn31 .plain rfl rfl (after_c _ a7 _ _ hn10 ha11 s6 (by omega)) ?_
    rintro _ w40 ⟨rfl, e41⟩
    have hs43 := Below.size E
    have hs44 := Below.size e41
    replace E := E.trans e41
    replace hn10 := hn10.ext e41
    replace ha11 := ha11.ext e41
    replace hB19 := hB19.ext e41
    refine Sq.assign .plain rfl rfl ?_
    refine Sq.nil ?_
    refine Eq.next ?_
    refine Cq.seq ?_
    refine Cq.seq ?_
    refine Cq.region ?_
    refine Sq.move .plain rfl rfl ?_
    refine Sq.lss .plain rfl rfl rfl ?_
    refine Sq.part (fun hlt => ?_) (fun hlt => ?_)
    · refine Sq.nil ?_
      refine Eq.next ?_
      refine Cq.thn rfl ?_
      refine Cq.seq ?_
      refine Cq.region ?_
      refine Sq.move .plain rfl rfl ?_
      refine Sq.beF (accepts_F (by omega)) ?_
      refine Sq.notF .plain rfl rfl ?_
      refine Sq.move .plain rfl rfl ?_
      refine Sq.loadAgg agg26 (.met rfl rfl rfl) rfl rfl hB19 rfl ?_
      have hd48 := hB19.lt
      refine Sq.call fn19 (.met rfl rfl rfl) rfl rfl (valid_c _ a7 _ _ hn10 ha11) ?_
      rintro _ w46 ⟨rfl, e47⟩
      have hs49 := Below.size E
      have hs50 := Below.size e47
      replace E := E.trans e47
      replace hn10 := hn10.ext e47
      replace ha11 := ha11.ext e47
      replace hB19 := hB19.ext e47
      refine Sq.partB (fun hv => ?_) (fun hv => ?_)
      · refine Sq.move (.met rfl rfl rfl) rfl rfl ?_
        refine Sq.move (.met rfl rfl rfl) rfl rfl ?_
        refine Sq.fieldAddr fld26_0 (.met rfl rfl rfl) rfl rfl ?_
        refine Sq.loadB one3 (.met rfl rfl rfl) rfl rfl hB19 rfl ?_
        refine Sq.call fn37 (.met rfl rfl rfl) rfl rfl (within_c s6 a7.al _) ?_
        rintro _ _ ⟨rfl, rfl⟩
        refine Sq.beF (within_neg hv hlt) ?_
        refine Sq.pickT (.met rfl rfl rfl) rfl rfl rfl ?_
        refine Sq.notF (.met rfl rfl rfl) rfl rfl ?_
        refine Sq.pickT .plain rfl rfl rfl ?_
        refine Sq.assign .plain rfl rfl ?_
        refine Sq.nil ?_
        refine Eq.next ?_
        refine Cq.ret ?_
        refine Eq.pastRet ?_
        refine Eq.ret1 rfl rfl ?_
        exact ⟨rfl, E⟩
      · refine Sq.move (.met rfl rfl rfl) rfl rfl ?_
        refine Sq.off rfl rfl rfl rfl rfl rfl ?_
        refine Sq.off rfl rfl rfl rfl rfl rfl ?_
        refine Sq.off rfl rfl rfl rfl rfl rfl ?_
        refine Sq.off rfl rfl rfl rfl rfl rfl ?_
        refine Sq.pickF (.met rfl rfl rfl) rfl rfl rfl ?_
        refine Sq.notF (.met rfl rfl rfl) rfl rfl ?_
        refine Sq.pickT .plain rfl rfl rfl ?_
        refine Sq.assign .plain rfl rfl ?_
        refine Sq.nil ?_
        refine Eq.next ?_
        refine Cq.ret ?_
        refine Eq.pastRet ?_
        refine Eq.ret1 rfl rfl ?_
        exact ⟨rfl, E⟩
    · refine Sq.nil ?_
      refine Eq.next ?_
      refine Cq.els rfl ?_
      refine Cq.skip ?_
      refine Eq.next ?_
      refine Cq.seq ?_
      refine Cq.region ?_
      have hal0 := after_lt (a := a7) (s := s6) (by omega)
      refine Sq.move .plain rfl rfl ?_
      refine Sq.fieldAddr fld26_2 .plain rfl rfl ?_
      refine Sq.loadB one24 .plain rfl rfl hB19 rfl ?_
      refine Sq.move .plain rfl rfl ?_
      refine Sq.idxBools sl24 one4 ha11 .plain rfl rfl rfl .plain rfl rfl (by omega) (by omega) ?_
      refine Sq.eqlB und4 .plain rfl rfl rfl ?_
      refine Sq.beT (by rw [accepts_T (by omega)]; simp) ?_
      refine Sq.move .plain rfl rfl ?_
      refine Sq.move (.met rfl rfl rfl) rfl rfl ?_
      refine Sq.fieldAddr fld26_0 (.met rfl rfl rfl) rfl rfl ?_
      refine Sq.loadB one3 (.met rfl rfl rfl) rfl rfl hB19 rfl ?_
      refine Sq.call fn37 (.met rfl rfl rfl) rfl rfl (within_c s6 a7.al _) ?_
      rintro _ _ ⟨rfl, rfl⟩
      refine Sq.beT ((after_spec (by omega)).2) ?_
      refine Sq.pickT .plain rfl rfl rfl ?_
      refine Sq.assign .plain rfl rfl ?_
      refine Sq.nil ?_
      refine Eq.next ?_
      refine Cq.ret ?_
      refine Eq.ret1 rfl rfl ?_
      exact ⟨rfl, E⟩

set_option maxRecDepth 100000 in
theorem lStateAfter (w0 : World) (e : TypeId) (a0 : Option Addr) (c0 : Nat) (cs : List UInt8) (hc : Bytes w0 e (.slice a0 cs.length c0) cs) (hcap : cs.length ≤ c0) : Ret Try.prog 9 #[Value.slice a0 cs.length c0] w0 (fun v w => v = .bool true ∧ Ext w0 w) := by
  have E := Ext.refl w0
  refine Ret.of (args := [Value.slice a0 cs.length c0]) Try.func9 rfl rfl rfl ?_
  rintro _ rfl
  show Cq _ _ _ _ [(0, Value.slice a0 cs.length c0)] _
  refine Cq.seq ?_
  refine Cq.region ?_
  refine Sq.assign .plain rfl rfl ?_
  refine Sq.nil ?_
  refine Eq.next ?_
  refine Cq.seq ?_
  refine Cq.seq ?_
  refine Cq.region ?_
  refine Sq.move .plain rfl rfl ?_
  refine Sq.lenBytes (hc.ext E) .plain rfl und22 rfl ?_
  refine Sq.gtr .plain rfl rfl rfl ?_
  refine Sq.part (fun c1 => ?_) (fun c1 => ?_)
  · refine Sq.nil ?_
    refine Eq.next ?_
    refine Cq.thn rfl ?_
    refine Cq.seq ?_
    refine Cq.region ?_
    refine Sq.assign .plain rfl rfl ?_
    refine Sq.nil ?_
    refine Eq.next ?_
    refine Cq.ret ?_
    refine Eq.pastRet ?_
    refine Eq.ret1 rfl rfl ?_
    exact ⟨rfl, E⟩
  · refine Sq.nil ?_
    refine Eq.next ?_
    refine Cq.els rfl ?_
    refine Cq.skip ?_
    refine Eq.next ?_
    refine Cq.seq ?_
    refine Cq.region ?_
    refine Sq.move .plain rfl rfl ?_
    refine Sq.call fn30 .plain rfl rfl (drawAfter_c _ _ _ _ _ (hc.ext E) hcap) ?_
    rintro _ w3 ⟨⟨u5, s6, a7, rfl, ⟨nx8, ac9, rfl, hn10, ha11⟩, hsm12, hsz13⟩, e4⟩
    have hs14 := Below.size E
    have hs15 := Below.size e4
    replace E := E.trans e4
    refine Sq.move .plain rfl rfl ?_
    refine Sq.extract .plain rfl rfl rfl ?_
    refine Sq.extract .plain rfl rfl rfl ?_
    refine Sq.alloc zero26 .plain rfl (fun b16 w17 e18 hB19 hlo20 => ?_)
    have hd21 := Nat.le_trans (Below.size E) hlo20
    have hs22 := Below.size e18
    replace E := E.trans e18
    replace hn10 := hn10.ext e18
    replace ha11 := ha11.ext e18
    refine Sq.storeAgg agg26 .plain rfl rfl (one_cons rfl (one_cons (Rows.one hn10) (one_cons (Row.one ha11) one_nil))) hB19 rfl rfl (fun w23 g24 hB25 => ?_)
    have hs26 := World.grownBy.size g24
    replace E := E.grown g24 (fun k hk => by injection hk with hk; subst hk; omega)
    replace hn10 := hn10.stored g24 hB19 (by decide) (by decide)
    replace ha11 := ha11.stored g24 hB19 (by decide)
    replace hB19 := hB25
    refine Sq.assign .plain rfl rfl ?_
    refine Sq.nil ?_
    refine Eq.next ?_
    refine Cq.seq ?_
    refine Cq.region ?_
    refine Sq.loadAgg agg26 .plain rfl rfl hB19 rfl ?_
    refine Sq.move .plain rfl rfl ?_
    have hd30 := hB19.lt
    refine Sq.call fn31 .plain rfl rfl (after_c _ a7 _ _ hn10 ha11 s6 (by first | omega | (simp only [size_cat, chr_size]; omega) | decide)) ?_
    rintro _ w28 ⟨rfl, e29⟩
    have hs31 := Below.size E
    have hs32 := Below.size e29
    replace E := E.trans e29
    replace hn10 := hn10.ext e29
    replace ha11 := ha11.ext e29
    replace hB19 := hB19.ext e29
    refine Sq.assign .plain rfl rfl ?_
    refine Sq.nil ?_
    refine Eq.next ?_
    refine Cq.seq ?_
    refine Cq.seq ?_
    refine Cq.region ?_
    refine Sq.move .plain rfl rfl ?_
    refine Sq.loadAgg agg26 .plain rfl rfl hB19 rfl ?_
    refine Sq.move .plain rfl rfl ?_
    have hd36 := hB19.lt
    refine Sq.call fn32 .plain rfl rfl (sAfter_c _ a7 _ _ hn10 ha11 s6 (by first | omega | (simp only [size_cat, chr_size]; omega) | decide)) ?_
    rintro _ w34 ⟨rfl, e35⟩
    have hs37 := Below.size E
    have hs38 := Below.size e35
    replace E := E.trans e35
    replace hn10 := hn10.ext e35
    replace ha11 := ha11.ext e35
    replace hB19 := hB19.ext e35
    refine Sq.neq .plain rfl rfl rfl ?_
    refine Sq.isF (by omega) ?_
    refine Sq.move .plain rfl rfl ?_
    refine Sq.move (.met rfl rfl rfl) rfl rfl ?_
    refine Sq.lss (.met rfl rfl rfl) rfl rfl rfl ?_
    refine Sq.part (fun c39 => ?_) (fun c39 => ?_)
    · refine Sq.pickF .plain rfl rfl rfl ?_
      refine Sq.move .plain rfl rfl ?_
      refine Sq.off rfl rfl rfl rfl rfl rfl ?_
      refine Sq.off rfl rfl rfl rfl rfl rfl ?_
      refine Sq.off rfl rfl rfl rfl rfl rfl ?_
      refine Sq.pickT .plain rfl rfl rfl ?_
      refine Sq.nil ?_
      refine Eq.next ?_
      refine Cq.thn rfl ?_
      refine Cq.seq ?_
      refine Cq.region ?_
      refine Sq.move .plain rfl rfl ?_
      refine Sq.loadAgg agg26 .plain rfl rfl hB19 rfl ?_
      refine Sq.move .plain rfl rfl ?_
      have hd43 := hB19.lt
      refine Sq.call fn32 .plain rfl rfl (sAfter_c _ a7 _ _ hn10 ha11 s6 (by first | omega | (simp only [size_cat, chr_size]; omega) | decide)) ?_
      rintro _ w41 ⟨rfl, e42⟩
      have hs44 := Below.size E
      have hs45 := Below.size e42
      replace E := E.trans e42
      replace hn10 := hn10.ext e42
      replace ha11 := ha11.ext e42
      replace hB19 := hB19.ext e42
      refine Sq.eql .plain rfl rfl rfl ?_
      refine Sq.isT (by omega) ?_
      refine Sq.assign .plain rfl rfl ?_
      refine Sq.nil ?_
      refine Eq.next ?_
      refine Cq.ret ?_
      refine Eq.pastRet ?_
      refine Eq.ret1 rfl rfl ?_
      exact ⟨rfl, E⟩
    · refine Sq.pickF .plain rfl rfl rfl ?_
      refine Sq.move .plain rfl rfl ?_
      refine Sq.move (.met rfl rfl rfl) rfl rfl ?_
      refine Sq.lenStr (.met rfl rfl rfl) rfl und9 rfl ?_
      refine Sq.geq (.met rfl rfl rfl) rfl rfl rfl ?_
      refine Sq.part (fun c46 => ?_) (fun c46 => ?_)
      · refine Sq.pickF .plain rfl rfl rfl ?_
        refine Sq.nil ?_
        refine Eq.next ?_
        refine Cq.thn rfl ?_
        refine Cq.seq ?_
        refine Cq.region ?_
        refine Sq.move .plain rfl rfl ?_
        refine Sq.loadAgg agg26 .plain rfl rfl hB19 rfl ?_
        refine Sq.move .plain rfl rfl ?_
        have hd50 := hB19.lt
        refine Sq.call fn32 .plain rfl rfl (sAfter_c _ a7 _ _ hn10 ha11 s6 (by first | omega | (simp only [size_cat, chr_size]; omega) | decide)) ?_
        rintro _ w48 ⟨rfl, e49⟩
        have hs51 := Below.size E
        have hs52 := Below.size e49
        replace E := E.trans e49
        replace hn10 := hn10.ext e49
        replace ha11 := ha11.ext e49
        replace hB19 := hB19.ext e49
        refine Sq.eql .plain rfl rfl rfl ?_
        refine Sq.isT (by omega) ?_
        refine Sq.assign .plain rfl rfl ?_
        refine Sq.nil ?_
        refine Eq.next ?_
        refine Cq.ret ?_
        refine Eq.pastRet ?_
        refine Eq.ret1 rfl rfl ?_
        exact ⟨rfl, E⟩
      · refine Sq.pickF .plain rfl rfl rfl ?_
        refine Sq.nil ?_
        refine Eq.next ?_
        refine Cq.els rfl ?_
        refine Cq.skip ?_
        refine Eq.next ?_
        refine Cq.seq ?_
        refine Cq.region ?_
        refine Sq.assign .plain rfl rfl ?_
        refine Sq.nil ?_
        refine Eq.next ?_
        refine Cq.seq ?_
        refine Cq.seq ?_
        refine Cq.region ?_
        refine Sq.assign .plain rfl rfl ?_
        refine Sq.nil ?_
        refine Eq.next ?_
        refine Cq.block ?_
        have haf := after_spec (a := a7) (s := s6) (by omega)
        have hv := haf.1
        have hin := after_ge hv haf.2
        have hal := (validA_spec.1 hv).1
        have hvr := valid_row hv (k := (after a7 s6).toNat) (by omega)
        refine Cq.loop (fun nn w ls => ∃ (c : Int), ∃ (k : Int), ls = [(3, Value.pointer (some ⟨b16, 0, none⟩)), (4, Value.string s6), (5, Value.int .i64 (after a7 s6)), (6, Value.int .i64 k), (7, Value.int .i64 c)] ∧ (0 ≤ c ∧ c ≤ 6) ∧ k = ((place a7.al c : Nat) : Int) ∧ Ext w0 w ∧ Blk w b16 26 [Value.int .i64 a7.al, nx8, ac9] ∧ Rows w 47 3 nx8 a7.next ∧ Bools w 4 ac9 a7.acc ∧ nn = (6 - c).toNat) _ _ ⟨0, 0, rfl, by omega, rfl, E, hB19, hn10, ha11, rfl⟩ (.cons rfl (.cons rfl (.cons rfl (.cons rfl (.cons rfl (.nil)))))) ?_
        rintro nn wl1 ls ⟨c, k, rfl, hc, hk, E, hB19, hn10, ha11, rfl⟩
        have hs53 := Below.size E
        have hpl : place a7.al c ≤ c.toNat := lettersTo_length _ _
        refine Cq.seq ?_
        refine Cq.seq ?_
        refine Cq.region ?_
        refine Sq.move .plain rfl rfl ?_
        refine Sq.lss .plain rfl rfl rfl ?_
        refine Sq.part (fun c54 => ?_) (fun c54 => ?_)
        · refine Sq.nil ?_
          refine Eq.next ?_
          refine Cq.thn rfl ?_
          refine Cq.skip ?_
          refine Eq.next ?_
          refine Cq.seq ?_
          refine Cq.block ?_
          refine Cq.seq ?_
          refine Cq.drawS 6 (fun w' => Blk w' b16 26 [Value.int .i64 a7.al, nx8, ac9]) mixed (hB19) (fun w55 e56 hS => ?_)
          clear hS
          have hs57 := Below.size e56
          replace E := E.trans e56
          replace hB19 := hB19.ext e56
          replace hn10 := hn10.ext e56
          replace ha11 := ha11.ext e56
          have E_w55 := E
          have hB19_w55 := hB19
          have hn10_w55 := hn10
          have ha11_w55 := ha11
          refine Gq.st 0 rfl (by kernel_rfl) rfl .plain rfl (fun _ _ _ h => h) hB19 (fun w' x => Still.loadAgg agg26 rfl x rfl) ?_
          refine Gq.st 1 rfl (by kernel_rfl) rfl .plain rfl (fun _ _ _ h => h) hB19 (fun w' x => Still.move rfl) ?_
          refine Gq.st 2 rfl (by kernel_rfl) rfl .plain rfl (fun _ _ _ h => h) hB19 (fun w' x => Still.move rfl) ?_
          refine Gq.one 3 rfl (by kernel_rfl) ?_
          have hd61 := hB19.lt
          refine Sq.call fn33 .plain rfl rfl (agLetter_c c (by omega) _) ?_
          rintro _ w59 ⟨rfl, e60⟩
          have hs62 := Below.size E
          have hs63 := Below.size e60
          replace E := E.trans e60
          replace hB19 := hB19.ext e60
          replace hn10 := hn10.ext e60
          replace ha11 := ha11.ext e60
          refine Sq.nil ?_
          refine Eq.goes (fun _ => hB19) ?_
          refine Gq.st 4 rfl (by kernel_rfl) rfl .plain rfl (fun _ _ _ h => h) hB19 (fun w' x => Still.cat rfl rfl (by first | omega | (simp only [size_cat]; omega) | (simp only [chr_size]; omega) | (simp; omega))) ?_
          refine Gq.one 5 rfl (by kernel_rfl) ?_
          have hd67 := hB19.lt
          refine Sq.call fn31 .plain rfl rfl (after_c _ a7 _ _ hn10 ha11 ((s6 ++ (chr c))) (by first | omega | (simp only [size_cat, chr_size]; omega) | decide)) ?_
          rintro _ w65 ⟨rfl, e66⟩
          have hs68 := Below.size E
          have hs69 := Below.size e66
          replace E := E.trans e66
          replace hB19 := hB19.ext e66
          replace hn10 := hn10.ext e66
          replace ha11 := ha11.ext e66
          refine Sq.nil ?_
          refine Eq.goes (fun _ => hB19) ?_
          refine Gq.one 6 rfl (by kernel_rfl) ?_
          refine Sq.assign .plain rfl rfl ?_
          refine Sq.nil ?_
          refine Eq.goes (fun h => absurd h (by decide)) ?_
          refine Gq.done (by kernel_rfl) ?_
          refine Eq.next ?_
          refine Cq.seq ?_
          refine Cq.seq ?_
          refine Cq.region ?_
          refine Sq.fieldAddr fld26_0 .plain rfl rfl ?_
          refine Sq.loadB one3 .plain rfl rfl hB19 rfl ?_
          refine Sq.move .plain rfl rfl ?_
          refine Sq.call fn34 .plain rfl rfl (agHas_c _ _ (by omega) (by omega) _) ?_
          rintro _ _ ⟨rfl, rfl⟩
          refine Sq.partB (fun hh => ?_) (fun hh => ?_)
          · refine Sq.notT .plain rfl rfl ?_
            refine Sq.nil ?_
            refine Eq.next ?_
            refine Cq.els rfl ?_
            refine Cq.skip ?_
            refine Eq.next ?_
            refine Cq.seq ?_
            refine Cq.seq ?_
            refine Cq.region ?_
            refine Sq.move .plain rfl rfl ?_
            refine Sq.fieldAddr fld26_1 .plain rfl rfl ?_
            refine Sq.loadB one23 .plain rfl rfl hB19 rfl ?_
            refine Sq.move .plain rfl rfl ?_
            refine Sq.idxRows sl23 one47 hn10 .plain rfl rfl rfl .plain rfl rfl (by omega) (by omega) (fun r70 hr71 => ?_)
            refine Sq.move .plain rfl rfl ?_
            refine Sq.idxInts sl47 one3 hr71 .plain rfl rfl rfl .plain rfl rfl (by omega) (by have := place_lt hal (by omega) hh; omega) ?_
            refine Sq.neq .plain rfl rfl rfl ?_
            refine Sq.isF (by rw [after_chr (by omega) hh (by omega) (by omega), hk, Int.toNat_natCast]; exact fun h => h rfl) ?_
            refine Sq.nil ?_
            refine Eq.next ?_
            refine Cq.els rfl ?_
            refine Cq.skip ?_
            refine Eq.next ?_
            refine Cq.region ?_
            refine Sq.move .plain rfl rfl ?_
            refine Sq.add .plain rfl rfl rfl (by omega) ?_
            refine Sq.assign .plain rfl rfl ?_
            refine Sq.nil ?_
            refine Eq.end ?_
            refine Eq.next ?_
            refine Cq.region ?_
            refine Sq.move .plain rfl rfl ?_
            refine Sq.add .plain rfl rfl rfl (by omega) ?_
            refine Sq.assign .plain rfl rfl ?_
            refine Sq.nil ?_
            have e1 := toNat_succ hc.1
            have hh' : hs a7.al (c.toNat : Int) = true := by rw [Int.toNat_of_nonneg hc.1]; exact hh
            refine Eq.round _ _ ⟨c + 1, _, rfl, by omega, by rw [hk, place, place, e1, lettersTo_T hh', List.length_append]; rfl, E, hB19, hn10, ha11, rfl⟩ (by omega) (.cons rfl (.cons rfl (.cons rfl (.cons rfl (.cons rfl (.nil))))))
          · refine Sq.notF .plain rfl rfl ?_
            refine Sq.nil ?_
            refine Eq.next ?_
            refine Cq.thn rfl ?_
            refine Cq.seq ?_
            refine Cq.seq ?_
            refine Cq.region ?_
            refine Sq.move .plain rfl rfl ?_
            refine Sq.neq .plain rfl rfl rfl ?_
            refine Sq.isF (by rw [after_chr_no (by omega) hh]; decide) ?_
            refine Sq.nil ?_
            refine Eq.next ?_
            refine Cq.els rfl ?_
            refine Cq.skip ?_
            refine Eq.next ?_
            refine Cq.exit ?_
            refine Eq.past ?_
            refine Eq.hit ?_
            refine Eq.next ?_
            refine Cq.region ?_
            refine Sq.move .plain rfl rfl ?_
            refine Sq.add .plain rfl rfl rfl (by omega) ?_
            refine Sq.assign .plain rfl rfl ?_
            refine Sq.nil ?_
            have e1 := toNat_succ hc.1
            have hh' : hs a7.al (c.toNat : Int) = false := by rw [Int.toNat_of_nonneg hc.1]; exact hh
            refine Eq.round _ _ ⟨c + 1, _, rfl, by omega, by rw [hk, place, place, e1, lettersTo_F hh'], E, hB19, hn10, ha11, rfl⟩ (by omega) (.cons rfl (.cons rfl (.cons rfl (.cons rfl (.cons rfl (.nil))))))
        · refine Sq.nil ?_
          refine Eq.next ?_
          refine Cq.els rfl ?_
          refine Cq.exit ?_
          refine Eq.past ?_
          refine Eq.past ?_
          refine Eq.hit ?_
          refine Eq.next ?_
          refine Cq.seq ?_
          refine Cq.region ?_
          refine Sq.loadAgg agg26 .plain rfl rfl hB19 rfl ?_
          have hd75 := hB19.lt
          refine Sq.call fn31 .plain rfl rfl (after_c _ a7 _ _ hn10 ha11 (⟨#[]⟩ : ByteArray) (by first | omega | (simp only [size_cat, chr_size]; omega) | decide)) ?_
          rintro _ w73 ⟨rfl, e74⟩
          have hs76 := Below.size E
          have hs77 := Below.size e74
          replace E := E.trans e74
          replace hB19 := hB19.ext e74
          replace hn10 := hn10.ext e74
          replace ha11 := ha11.ext e74
          refine Sq.eql .plain rfl rfl rfl ?_
          refine Sq.isT (after_nil hv) ?_
          refine Sq.assign .plain rfl rfl ?_
          refine Sq.nil ?_
          refine Eq.next ?_
          refine Cq.ret ?_
          refine Eq.ret1 rfl rfl ?_
          exact ⟨rfl, E⟩

end Go.Proofs.Ytmlhgkfbiapakaa
