/-
  The texts of this proof, joined (wip/merge.py): the calculus of slots, plain mathematics, walks.
-/
import Derived.Test.YtpnelflmecchlaaGa1
set_option linter.unusedSimpArgs false
set_option linter.unusedVariables false
namespace Go.Proofs.Ytpnelflmecchlaa
open Go.RowKit
set_option maxRecDepth 100000 in
theorem sValid_c (w0 : World) (a : A) (nx ac : Value) (hnx : Rows w0 38 3 nx a.next) (hac : Bools w0 4 ac a.acc) : Ret Try.prog 13 #[Value.agg #[Value.int .i64 a.al, nx, ac]] w0 (fun v w => v = .bool (validA a) ∧ Ext w0 w) := by
  have E := Ext.refl w0
  refine Ret.of (args := [Value.agg #[Value.int .i64 a.al, nx, ac]]) Try.func13 rfl rfl rfl ?_
  rintro _ rfl
  show Cq _ _ _ _ [(0, Value.agg #[Value.int .i64 a.al, nx, ac])] _
  refine Cq.seq ?_
  refine Cq.region ?_
  refine Sq.box .plain rfl rfl (fun b1 w2 e3 hB4 hlo5 => ?_)
  have hd6 := Nat.le_trans (Below.size E) hlo5
  have hs7 := Below.size e3
  replace E := E.trans e3
  refine Sq.assign .plain rfl rfl ?_
  refine Sq.nil ?_
  refine Eq.next ?_
  refine Cq.seq ?_
  refine Cq.region ?_
  refine Sq.fieldAddr fld26_1 .plain rfl rfl ?_
  refine Sq.loadB one23 .plain rfl rfl hB4 rfl ?_
  refine Sq.lenRows (hnx.ext E) .plain rfl und23 rfl ?_
  refine Sq.assign .plain rfl rfl ?_
  refine Sq.nil ?_
  refine Eq.next ?_
  refine Cq.seq ?_
  refine Cq.seq ?_
  refine Cq.region ?_
  refine Sq.fieldAddr fld26_0 .plain rfl rfl ?_
  refine Sq.loadB one3 .plain rfl rfl hB4 rfl ?_
  refine Sq.call fn23 .plain rfl rfl (l1Alphabet_c _ _) ?_
  rintro _ _ ⟨rfl, rfl⟩
  refine Sq.part (fun c8 => ?_) (fun c8 => ?_)
  · refine Sq.notT .plain rfl rfl ?_
    refine Sq.move .plain rfl rfl ?_
    refine Sq.move (.met rfl rfl rfl) rfl rfl ?_
    refine Sq.lss (.met rfl rfl rfl) rfl rfl rfl ?_
    refine Sq.part (fun c9 => ?_) (fun c9 => ?_)
    · refine Sq.pickF .plain rfl rfl rfl ?_
      refine Sq.move .plain rfl rfl ?_
      refine Sq.off rfl rfl rfl rfl rfl rfl ?_
      refine Sq.off rfl rfl rfl rfl rfl rfl ?_
      refine Sq.pickT .plain rfl rfl rfl ?_
      refine Sq.move .plain rfl rfl ?_
      refine Sq.off rfl rfl rfl rfl rfl rfl ?_
      refine Sq.off rfl rfl rfl rfl rfl rfl ?_
      refine Sq.off rfl rfl rfl rfl rfl rfl ?_
      refine Sq.off rfl rfl rfl rfl rfl rfl ?_
      refine Sq.off rfl rfl rfl rfl rfl rfl ?_
      refine Sq.pickT .plain rfl rfl rfl ?_
      refine Sq.nil ?_
      refine Eq.next ?_
      refine Cq.thn rfl ?_
      refine Cq.seq ?_
      refine Cq.region ?_
      refine Sq.assign .plain rfl rfl ?_
      refine Sq.nil ?_
      refine Eq.next ?_
      refine Cq.ret ?_
      refine Eq.pastRet ?_
      refine Eq.ret1 rfl rfl ?_
      exact ⟨by first | rw [validA_al (by omega)] | rw [validA_n (by omega)] | rw [validA_acc (by omega)] | rw [validA_row (k := k.toNat) (by omega) hrow] | rw [validA_good (k := k.toNat) (by omega) (by omega) (by omega) hp (by omega)], E⟩
    refine Sq.pickF .plain rfl rfl rfl ?_
    refine Sq.move .plain rfl rfl ?_
    refine Sq.move (.met rfl rfl rfl) rfl rfl ?_
    refine Sq.gtr (.met rfl rfl rfl) rfl rfl rfl ?_
    refine Sq.part (fun c10 => ?_) (fun c10 => ?_)
    · refine Sq.pickF .plain rfl rfl rfl ?_
      refine Sq.move .plain rfl rfl ?_
      refine Sq.off rfl rfl rfl rfl rfl rfl ?_
      refine Sq.off rfl rfl rfl rfl rfl rfl ?_
      refine Sq.off rfl rfl rfl rfl rfl rfl ?_
      refine Sq.off rfl rfl rfl rfl rfl rfl ?_
      refine Sq.off rfl rfl rfl rfl rfl rfl ?_
      refine Sq.pickT .plain rfl rfl rfl ?_
      refine Sq.nil ?_
      refine Eq.next ?_
      refine Cq.thn rfl ?_
      refine Cq.seq ?_
      refine Cq.region ?_
      refine Sq.assign .plain rfl rfl ?_
      refine Sq.nil ?_
      refine Eq.next ?_
      refine Cq.ret ?_
      refine Eq.pastRet ?_
      refine Eq.ret1 rfl rfl ?_
      exact ⟨by first | rw [validA_al (by omega)] | rw [validA_n (by omega)] | rw [validA_acc (by omega)] | rw [validA_row (k := k.toNat) (by omega) hrow] | rw [validA_good (k := k.toNat) (by omega) (by omega) (by omega) hp (by omega)], E⟩
    refine Sq.pickF .plain rfl rfl rfl ?_
    refine Sq.move .plain rfl rfl ?_
    refine Sq.fieldAddr fld26_2 (.met rfl rfl rfl) rfl rfl ?_
    refine Sq.loadB one24 (.met rfl rfl rfl) rfl rfl hB4 rfl ?_
    refine Sq.lenBools (hac.ext E) (.met rfl rfl rfl) rfl und24 rfl ?_
    refine Sq.move (.met rfl rfl rfl) rfl rfl ?_
    refine Sq.neq (.met rfl rfl rfl) rfl rfl rfl ?_
    refine Sq.part (fun c11 => ?_) (fun c11 => ?_)
    · refine Sq.pickF .plain rfl rfl rfl ?_
      refine Sq.nil ?_
      refine Eq.next ?_
      refine Cq.thn rfl ?_
      refine Cq.seq ?_
      refine Cq.region ?_
      refine Sq.assign .plain rfl rfl ?_
      refine Sq.nil ?_
      refine Eq.next ?_
      refine Cq.ret ?_
      refine Eq.pastRet ?_
      refine Eq.ret1 rfl rfl ?_
      exact ⟨by first | rw [validA_al (by omega)] | rw [validA_n (by omega)] | rw [validA_acc (by omega)] | rw [validA_row (k := k.toNat) (by omega) hrow] | rw [validA_good (k := k.toNat) (by omega) (by omega) (by omega) hp (by omega)], E⟩
    refine Sq.pickF .plain rfl rfl rfl ?_
    refine Sq.nil ?_
    refine Eq.next ?_
    refine Cq.els rfl ?_
    refine Cq.skip ?_
    refine Eq.next ?_
    refine Cq.seq ?_
    refine Cq.seq ?_
    refine Cq.region ?_
    refine Sq.assign .plain rfl rfl ?_
    refine Sq.nil ?_
    refine Eq.next ?_
    refine Cq.block ?_
    refine Cq.loop (fun nn w ls => ∃ (k : Int), ls = [(1, Value.pointer (some ⟨b1, 0, none⟩)), (3, Value.int .i64 (List.length a.next : Int)), (4, Value.int .i64 k)] ∧ (0 ≤ k ∧ k ≤ a.next.length) ∧ (a.next.take k.toNat).all (rowOk (letters a.al).length a.next.length) = true ∧ Ext w0 w ∧ Blk w b1 26 [Value.int .i64 a.al, nx, ac] ∧ nn = ((a.next.length : Int) - k).toNat) _ _ ⟨0, rfl, by omega, rfl, E, hB4, rfl⟩ (.cons rfl (.cons rfl (.cons rfl (.nil)))) ?_
    rintro nn wl1 ls ⟨k, rfl, hk, hp, E, hB4, rfl⟩
    have hs12 := Below.size E
    refine Cq.seq ?_
    refine Cq.seq ?_
    refine Cq.region ?_
    refine Sq.move .plain rfl rfl ?_
    refine Sq.move .plain rfl rfl ?_
    refine Sq.lss .plain rfl rfl rfl ?_
    refine Sq.part (fun c13 => ?_) (fun c13 => ?_)
    · refine Sq.nil ?_
      refine Eq.next ?_
      refine Cq.thn rfl ?_
      refine Cq.skip ?_
      refine Eq.next ?_
      refine Cq.seq ?_
      refine Cq.block ?_
      refine Cq.seq ?_
      refine Cq.draw 12 none mixed (fun w14 e15 => ?_)
      have hs16 := Below.size e15
      replace E := E.trans e15
      replace hB4 := hB4.ext e15
      have E_w14 := E
      have hB4_w14 := hB4
      refine Gq.st 0 rfl (by kernel_rfl) rfl .plain rfl (fun _ _ _ h => h) (World.grownBy.refl w14 _) (fun w' x => Still.fieldAddr fld26_1 rfl) ?_
      refine Gq.st 1 rfl (by kernel_rfl) rfl .plain rfl (fun _ _ _ h => h) (World.grownBy.refl w14 _) (fun w' x => Still.loadB one23 rfl (hB4_w14.ext (Ext.of_grown x)) rfl) ?_
      refine Gq.st 2 rfl (by kernel_rfl) rfl .plain rfl (fun _ _ _ h => h) (World.grownBy.refl w14 _) (fun w' x => Still.move rfl) ?_
      obtain ⟨p17, r19, hp18_w14, hr20⟩ := Rows.at hnx (i := k) (by omega) (by omega)
      refine Gq.st 3 rfl (by kernel_rfl) rfl .plain rfl (fun _ _ _ h => h) (World.grownBy.refl w14 _) (fun w' x => Still.at' sl23 hp18_w14 rfl rfl) ?_
      refine Gq.st 4 rfl (by kernel_rfl) rfl .plain rfl (fun _ _ _ h => h) (World.grownBy.refl w14 _) (fun w' x => Still.loadA one38 rfl (hp18_w14.ext (E_w14.trans (Ext.of_grown x))).1) ?_
      refine Gq.st 5 rfl (by kernel_rfl) rfl .plain rfl (fun _ _ _ h => h) (World.grownBy.refl w14 _) (fun w' x => Still.fieldAddr fld26_0 rfl) ?_
      refine Gq.st 6 rfl (by kernel_rfl) rfl .plain rfl (fun _ _ _ h => h) (World.grownBy.refl w14 _) (fun w' x => Still.loadB one3 rfl (hB4_w14.ext (Ext.of_grown x)) rfl) ?_
      refine Gq.st 9 rfl (by kernel_rfl) rfl .plain rfl (fun _ _ _ h => h) (World.grownBy.refl w14 _) (fun w' x => Still.move rfl) ?_
      refine Gq.one 7 rfl (by kernel_rfl) ?_
      have hd25 := hB4.lt
      refine Sq.call fn25 .plain rfl rfl (l1Letters_c a.al (by omega) _) ?_
      rintro v21 w22 ⟨hl24, e23⟩
      have hs26 := Below.size E
      have hs27 := Below.size e23
      replace E := E.trans e23
      replace hB4 := hB4.ext e23
      refine Sq.nil ?_
      refine Eq.goes (fun _ => (grown_trans (World.grownBy.refl w14 _) (Ext.to_grown e23 _))) ?_
      refine Gq.one 8 rfl (by kernel_rfl) ?_
      refine Sq.lenInts (Own.row hl24) .plain rfl und38 rfl ?_
      refine Sq.nil ?_
      refine Eq.goes (fun _ => (grown_trans (World.grownBy.refl w14 _) (Ext.to_grown e23 _))) ?_
      refine Gq.one 10 rfl (by kernel_rfl) ?_
      refine Sq.call fn24 .plain rfl rfl (l3Row_c _ _ _ (hr20.ext E) _ _ (by have := letters_len6 a.al; omega)) ?_
      rintro _ _ ⟨rfl, rfl⟩
      refine Sq.partB (fun hrow => ?_) (fun hrow => ?_)
      · refine Sq.nil ?_
        refine Eq.goes (fun _ => (grown_trans (World.grownBy.refl w14 _) (Ext.to_grown e23 _))) ?_
        refine Gq.st 11 rfl (by kernel_rfl) rfl .plain rfl (fun _ _ _ h => h) (grown_trans (World.grownBy.refl w14 _) (Ext.to_grown e23 _)) (fun w' x => Still.notT rfl) ?_
        refine Gq.done (by kernel_rfl) ?_
        refine Eq.next ?_
        refine Cq.els rfl ?_
        refine Cq.skip ?_
        refine Eq.end ?_
        refine Eq.next ?_
        refine Cq.region ?_
        refine Sq.move .plain rfl rfl ?_
        refine Sq.add .plain rfl rfl rfl (by omega) ?_
        refine Sq.assign .plain rfl rfl ?_
        refine Sq.nil ?_
        have e1 := toNat_succ hk.1
        refine Eq.round _ _ ⟨k + 1, rfl, by omega, by rw [e1]; exact all_snoc (d := []) hp (by omega) hrow, E, hB4, rfl⟩ (by omega) (.cons rfl (.cons rfl (.cons rfl (.nil))))
      refine Sq.nil ?_
      refine Eq.goes (fun _ => (grown_trans (World.grownBy.refl w14 _) (Ext.to_grown e23 _))) ?_
      refine Gq.st 11 rfl (by kernel_rfl) rfl .plain rfl (fun _ _ _ h => h) (grown_trans (World.grownBy.refl w14 _) (Ext.to_grown e23 _)) (fun w' x => Still.notF rfl) ?_
      refine Gq.done (by kernel_rfl) ?_
      refine Eq.next ?_
      refine Cq.thn rfl ?_
      refine Cq.seq ?_
      refine Cq.region ?_
      refine Sq.assign .plain rfl rfl ?_
      refine Sq.nil ?_
      refine Eq.next ?_
      refine Cq.ret ?_
      refine Eq.outRet ?_
      refine Eq.pastRet ?_
      refine Eq.pastRet ?_
      refine Eq.outRet ?_
      refine Eq.pastRet ?_
      refine Eq.ret1 rfl rfl ?_
      exact ⟨by first | rw [validA_al (by omega)] | rw [validA_n (by omega)] | rw [validA_acc (by omega)] | rw [validA_row (k := k.toNat) (by omega) hrow] | rw [validA_good (k := k.toNat) (by omega) (by omega) (by omega) hp (by omega)], E⟩
    refine Sq.nil ?_
    refine Eq.next ?_
    refine Cq.els rfl ?_
    refine Cq.exit ?_
    refine Eq.past ?_
    refine Eq.past ?_
    refine Eq.hit ?_
    refine Eq.next ?_
    refine Cq.seq ?_
    refine Cq.region ?_
    refine Sq.assign .plain rfl rfl ?_
    refine Sq.nil ?_
    refine Eq.next ?_
    refine Cq.ret ?_
    refine Eq.ret1 rfl rfl ?_
    exact ⟨by first | rw [validA_al (by omega)] | rw [validA_n (by omega)] | rw [validA_acc (by omega)] | rw [validA_row (k := k.toNat) (by omega) hrow] | rw [validA_good (k := k.toNat) (by omega) (by omega) (by omega) hp (by omega)], E⟩
  refine Sq.notF .plain rfl rfl ?_
  refine Sq.move .plain rfl rfl ?_
  refine Sq.off rfl rfl rfl rfl rfl rfl ?_
  refine Sq.off rfl rfl rfl rfl rfl rfl ?_
  refine Sq.pickT .plain rfl rfl rfl ?_
  refine Sq.move .plain rfl rfl ?_
  refine Sq.off rfl rfl rfl rfl rfl rfl ?_
  refine Sq.off rfl rfl rfl rfl rfl rfl ?_
  refine Sq.pickT .plain rfl rfl rfl ?_
  refine Sq.move .plain rfl rfl ?_
  refine Sq.off rfl rfl rfl rfl rfl rfl ?_
  refine Sq.off rfl rfl rfl rfl rfl rfl ?_
  refine Sq.off rfl rfl rfl rfl rfl rfl ?_
  refine Sq.off rfl rfl rfl rfl rfl rfl ?_
  refine Sq.off rfl rfl rfl rfl rfl rfl ?_
  refine Sq.pickT .plain rfl rfl rfl ?_
  refine Sq.nil ?_
  refine Eq.next ?_
  refine Cq.thn rfl ?_
  refine Cq.seq ?_
  refine Cq.region ?_
  refine Sq.assign .plain rfl rfl ?_
  refine Sq.nil ?_
  refine Eq.next ?_
  refine Cq.ret ?_
  refine Eq.pastRet ?_
  refine Eq.ret1 rfl rfl ?_
  exact ⟨by first | rw [validA_al (by omega)] | rw [validA_n (by omega)] | rw [validA_acc (by omega)] | rw [validA_row (k := k.toNat) (by omega) hrow] | rw [validA_good (k := k.toNat) (by omega) (by omega) (by omega) hp (by omega)], E⟩
set_option maxRecDepth 100000 in
theorem valid_c (w0 : World) (a : A) (nx ac : Value) (hnx : Rows w0 38 3 nx a.next) (hac : Bools w0 4 ac a.acc) : Ret Try.prog 12 #[Value.agg #[Value.int .i64 a.al, nx, ac]] w0 (fun v w => v = .bool (validA a) ∧ Ext w0 w) := by
  have E := Ext.refl w0
  refine Ret.of (args := [Value.agg #[Value.int .i64 a.al, nx, ac]]) Try.func12 rfl rfl rfl ?_
  rintro _ rfl
  show Cq _ _ _ _ [(0, Value.agg #[Value.int .i64 a.al, nx, ac])] _
  refine Cq.seq ?_
  refine Cq.region ?_
  refine Sq.box .plain rfl rfl (fun b1 w2 e3 hB4 hlo5 => ?_)
  have hd6 := Nat.le_trans (Below.size E) hlo5
  have hs7 := Below.size e3
  replace E := E.trans e3
  refine Sq.assign .plain rfl rfl ?_
  refine Sq.nil ?_
  refine Eq.next ?_
  refine Cq.seq ?_
  refine Cq.seq ?_
  refine Cq.region ?_
  refine Sq.fieldAddr fld26_0 .plain rfl rfl ?_
  refine Sq.loadB one3 .plain rfl rfl hB4 rfl ?_
  refine Sq.call fn14 .plain rfl rfl (isAlphabet_c _ _) ?_
  rintro _ _ ⟨rfl, rfl⟩
  refine Sq.part (fun c8 => ?_) (fun c8 => ?_)
  · refine Sq.notT .plain rfl rfl ?_
    refine Sq.move .plain rfl rfl ?_
    refine Sq.fieldAddr fld26_1 (.met rfl rfl rfl) rfl rfl ?_
    refine Sq.loadB one23 (.met rfl rfl rfl) rfl rfl hB4 rfl ?_
    refine Sq.lenRows (hnx.ext E) (.met rfl rfl rfl) rfl und23 rfl ?_
    refine Sq.lss (.met rfl rfl rfl) rfl rfl rfl ?_
    refine Sq.part (fun c9 => ?_) (fun c9 => ?_)
    · refine Sq.pickF .plain rfl rfl rfl ?_
      refine Sq.move .plain rfl rfl ?_
      refine Sq.off rfl rfl rfl rfl rfl rfl ?_
      refine Sq.off rfl rfl rfl rfl rfl rfl ?_
      refine Sq.off rfl rfl rfl rfl rfl rfl ?_
      refine Sq.off rfl rfl rfl rfl rfl rfl ?_
      refine Sq.pickT .plain rfl rfl rfl ?_
      refine Sq.move .plain rfl rfl ?_
      refine Sq.off rfl rfl rfl rfl rfl rfl ?_
      refine Sq.off rfl rfl rfl rfl rfl rfl ?_
      refine Sq.off rfl rfl rfl rfl rfl rfl ?_
      refine Sq.off rfl rfl rfl rfl rfl rfl ?_
      refine Sq.off rfl rfl rfl rfl rfl rfl ?_
      refine Sq.off rfl rfl rfl rfl rfl rfl ?_
      refine Sq.off rfl rfl rfl rfl rfl rfl ?_
      refine Sq.pickT .plain rfl rfl rfl ?_
      refine Sq.nil ?_
      refine Eq.next ?_
      refine Cq.thn rfl ?_
      refine Cq.seq ?_
      refine Cq.region ?_
      refine Sq.assign .plain rfl rfl ?_
      refine Sq.nil ?_
      refine Eq.next ?_
      refine Cq.ret ?_
      refine Eq.pastRet ?_
      refine Eq.ret1 rfl rfl ?_
      exact ⟨by first | rw [validA_al (by omega)] | rw [validA_n (by omega)] | rw [validA_acc (by omega)] | rw [validA_row (k := k.toNat) (by omega) (rowOk_len (by omega))] | rw [validA_row (k := k.toNat) (by omega) (rowOk_bad (by omega) (k := j.toNat) (by omega) (inB_F (by omega)))] | rw [validA_good (k := k.toNat) (by omega) (by omega) (by omega) hp (by omega)], E⟩
    refine Sq.pickF .plain rfl rfl rfl ?_
    refine Sq.move .plain rfl rfl ?_
    refine Sq.fieldAddr fld26_1 (.met rfl rfl rfl) rfl rfl ?_
    refine Sq.loadB one23 (.met rfl rfl rfl) rfl rfl hB4 rfl ?_
    refine Sq.lenRows (hnx.ext E) (.met rfl rfl rfl) rfl und23 rfl ?_
    refine Sq.gtr (.met rfl rfl rfl) rfl rfl rfl ?_
    refine Sq.part (fun c10 => ?_) (fun c10 => ?_)
    · refine Sq.pickF .plain rfl rfl rfl ?_
      refine Sq.move .plain rfl rfl ?_
      refine Sq.off rfl rfl rfl rfl rfl rfl ?_
      refine Sq.off rfl rfl rfl rfl rfl rfl ?_
      refine Sq.off rfl rfl rfl rfl rfl rfl ?_
      refine Sq.off rfl rfl rfl rfl rfl rfl ?_
      refine Sq.off rfl rfl rfl rfl rfl rfl ?_
      refine Sq.off rfl rfl rfl rfl rfl rfl ?_
      refine Sq.off rfl rfl rfl rfl rfl rfl ?_
      refine Sq.pickT .plain rfl rfl rfl ?_
      refine Sq.nil ?_
      refine Eq.next ?_
      refine Cq.thn rfl ?_
      refine Cq.seq ?_
      refine Cq.region ?_
      refine Sq.assign .plain rfl rfl ?_
      refine Sq.nil ?_
      refine Eq.next ?_
      refine Cq.ret ?_
      refine Eq.pastRet ?_
      refine Eq.ret1 rfl rfl ?_
      exact ⟨by first | rw [validA_al (by omega)] | rw [validA_n (by omega)] | rw [validA_acc (by omega)] | rw [validA_row (k := k.toNat) (by omega) (rowOk_len (by omega))] | rw [validA_row (k := k.toNat) (by omega) (rowOk_bad (by omega) (k := j.toNat) (by omega) (inB_F (by omega)))] | rw [validA_good (k := k.toNat) (by omega) (by omega) (by omega) hp (by omega)], E⟩
    refine Sq.pickF .plain rfl rfl rfl ?_
    refine Sq.move .plain rfl rfl ?_
    refine Sq.fieldAddr fld26_2 (.met rfl rfl rfl) rfl rfl ?_
    refine Sq.loadB one24 (.met rfl rfl rfl) rfl rfl hB4 rfl ?_
    refine Sq.lenBools (hac.ext E) (.met rfl rfl rfl) rfl und24 rfl ?_
    refine Sq.fieldAddr fld26_1 (.met rfl rfl rfl) rfl rfl ?_
    refine Sq.loadB one23 (.met rfl rfl rfl) rfl rfl hB4 rfl ?_
    refine Sq.lenRows (hnx.ext E) (.met rfl rfl rfl) rfl und23 rfl ?_
    refine Sq.neq (.met rfl rfl rfl) rfl rfl rfl ?_
    refine Sq.part (fun c11 => ?_) (fun c11 => ?_)
    · refine Sq.pickF .plain rfl rfl rfl ?_
      refine Sq.nil ?_
      refine Eq.next ?_
      refine Cq.thn rfl ?_
      refine Cq.seq ?_
      refine Cq.region ?_
      refine Sq.assign .plain rfl rfl ?_
      refine Sq.nil ?_
      refine Eq.next ?_
      refine Cq.ret ?_
      refine Eq.pastRet ?_
      refine Eq.ret1 rfl rfl ?_
      exact ⟨by first | rw [validA_al (by omega)] | rw [validA_n (by omega)] | rw [validA_acc (by omega)] | rw [validA_row (k := k.toNat) (by omega) (rowOk_len (by omega))] | rw [validA_row (k := k.toNat) (by omega) (rowOk_bad (by omega) (k := j.toNat) (by omega) (inB_F (by omega)))] | rw [validA_good (k := k.toNat) (by omega) (by omega) (by omega) hp (by omega)], E⟩
    refine Sq.pickF .plain rfl rfl rfl ?_
    refine Sq.nil ?_
    refine Eq.next ?_
    refine Cq.els rfl ?_
    refine Cq.skip ?_
    refine Eq.next ?_
    refine Cq.seq ?_
    refine Cq.region ?_
    refine Sq.fieldAddr fld26_0 .plain rfl rfl ?_
    refine Sq.loadB one3 .plain rfl rfl hB4 rfl ?_
    have hd16 := hB4.lt
    refine Sq.call fn15 .plain rfl rfl (lettersOf_c a.al (by omega) _) ?_
    rintro v12 w13 ⟨hl15, e14⟩
    have hs17 := Below.size E
    have hs18 := Below.size e14
    replace E := E.trans e14
    replace hB4 := hB4.ext e14
    refine Sq.lenInts (Own.row hl15) .plain rfl und38 rfl ?_
    refine Sq.assign .plain rfl rfl ?_
    refine Sq.nil ?_
    refine Eq.next ?_
    refine Cq.seq ?_
    refine Cq.seq ?_
    refine Cq.region ?_
    refine Sq.fieldAddr fld26_1 .plain rfl rfl ?_
    refine Sq.loadB one23 .plain rfl rfl hB4 rfl ?_
    refine Sq.lenRows (hnx.ext E) .plain rfl und23 rfl ?_
    refine Sq.move .plain rfl rfl ?_
    refine Sq.nil ?_
    refine Eq.next ?_
    refine Cq.block ?_
    refine Cq.loop (fun nn w ls => ∃ (k : Int), ls = [(1, Value.pointer (some ⟨b1, 0, none⟩)), (3, Value.int .i64 ((List.length (letters a.al) : Int))), (38, nx), (39, Value.int .i64 (List.length a.next : Int)), (40, Value.int .i64 k)] ∧ (0 ≤ k ∧ k ≤ a.next.length) ∧ (a.next.take k.toNat).all (rowOk (letters a.al).length a.next.length) = true ∧ Ext w0 w ∧ Blk w b1 26 [Value.int .i64 a.al, nx, ac] ∧ nn = ((a.next.length : Int) - k).toNat) _ _ ⟨0, rfl, by omega, rfl, E, hB4, rfl⟩ (.cons rfl (.cons rfl (.cons rfl (.cons rfl (.cons rfl (.nil)))))) ?_
    rintro nn wl1 ls ⟨k, rfl, hk, hp, E, hB4, rfl⟩
    have hs19 := Below.size E
    refine Cq.seq ?_
    refine Cq.region ?_
    refine Sq.lss .plain rfl rfl rfl ?_
    refine Sq.part (fun c20 => ?_) (fun c20 => ?_)
    · refine Sq.nil ?_
      refine Eq.next ?_
      refine Cq.seq ?_
      refine Cq.thn rfl ?_
      refine Cq.skip ?_
      refine Eq.next ?_
      refine Cq.seq ?_
      refine Cq.block ?_
      refine Cq.seq ?_
      refine Cq.region ?_
      refine Sq.idxRows sl23 one38 (hnx.ext E) .plain rfl rfl rfl .plain rfl rfl (by omega) (by omega) (fun r21 hr22 => ?_)
      refine Sq.assign .plain rfl rfl ?_
      refine Sq.nil ?_
      refine Eq.next ?_
      refine Cq.seq ?_
      refine Cq.seq ?_
      refine Cq.region ?_
      refine Sq.move .plain rfl rfl ?_
      refine Sq.lenInts hr22 .plain rfl und38 rfl ?_
      refine Sq.move .plain rfl rfl ?_
      refine Sq.neq .plain rfl rfl rfl ?_
      refine Sq.part (fun c23 => ?_) (fun c23 => ?_)
      · refine Sq.nil ?_
        refine Eq.next ?_
        refine Cq.thn rfl ?_
        refine Cq.seq ?_
        refine Cq.region ?_
        refine Sq.assign .plain rfl rfl ?_
        refine Sq.nil ?_
        refine Eq.next ?_
        refine Cq.ret ?_
        refine Eq.pastRet ?_
        refine Eq.outRet ?_
        refine Eq.pastRet ?_
        refine Eq.pastRet ?_
        refine Eq.outRet ?_
        refine Eq.pastRet ?_
        refine Eq.ret1 rfl rfl ?_
        exact ⟨by first | rw [validA_al (by omega)] | rw [validA_n (by omega)] | rw [validA_acc (by omega)] | rw [validA_row (k := k.toNat) (by omega) (rowOk_len (by omega))] | rw [validA_row (k := k.toNat) (by omega) (rowOk_bad (by omega) (k := j.toNat) (by omega) (inB_F (by omega)))] | rw [validA_good (k := k.toNat) (by omega) (by omega) (by omega) hp (by omega)], E⟩
      refine Sq.nil ?_
      refine Eq.next ?_
      refine Cq.els rfl ?_
      refine Cq.skip ?_
      refine Eq.next ?_
      refine Cq.seq ?_
      refine Cq.region ?_
      refine Sq.move .plain rfl rfl ?_
      refine Sq.lenInts hr22 .plain rfl und38 rfl ?_
      refine Sq.move .plain rfl rfl ?_
      refine Sq.nil ?_
      refine Eq.next ?_
      refine Cq.block ?_
      refine Cq.loop (fun nn w ls => ∃ (j : Int), ls = [(1, Value.pointer (some ⟨b1, 0, none⟩)), (3, Value.int .i64 ((List.length (letters a.al) : Int))), (38, nx), (39, Value.int .i64 (List.length a.next : Int)), (40, Value.int .i64 k), (48, r21), (49, Value.int .i64 ((List.length (a.next.getD k.toNat []) : Int))), (50, Value.int .i64 j)] ∧ (0 ≤ j ∧ j ≤ (a.next.getD k.toNat []).length) ∧ ((a.next.getD k.toNat []).take j.toNat).all (inB a.next.length) = true ∧ Ext w0 w ∧ Blk w b1 26 [Value.int .i64 a.al, nx, ac] ∧ Ints w 3 r21 (a.next.getD k.toNat []) ∧ nn = (((a.next.getD k.toNat []).length : Int) - j).toNat) _ _ ⟨0, rfl, by omega, rfl, E, hB4, hr22, rfl⟩ (.cons rfl (.cons rfl (.cons rfl (.cons rfl (.cons rfl (.cons rfl (.cons rfl (.cons rfl (.nil))))))))) ?_
      rintro nn wl2 ls ⟨j, rfl, hj, hq, E, hB4, hr22, rfl⟩
      have hs24 := Below.size E
      have hl6 := letters_len6 a.al
      refine Cq.seq ?_
      refine Cq.region ?_
      refine Sq.lss .plain rfl rfl rfl ?_
      refine Sq.part (fun c25 => ?_) (fun c25 => ?_)
      · refine Sq.nil ?_
        refine Eq.next ?_
        refine Cq.seq ?_
        refine Cq.thn rfl ?_
        refine Cq.skip ?_
        refine Eq.next ?_
        refine Cq.seq ?_
        refine Cq.block ?_
        refine Cq.seq ?_
        refine Cq.region ?_
        refine Sq.idxInts sl38 one3 hr22 .plain rfl rfl rfl .plain rfl rfl (by omega) (by omega) ?_
        refine Sq.assign .plain rfl rfl ?_
        refine Sq.nil ?_
        refine Eq.next ?_
        refine Cq.seq ?_
        refine Cq.region ?_
        refine Sq.move .plain rfl rfl ?_
        refine Sq.lss .plain rfl rfl rfl ?_
        refine Sq.part (fun c26 => ?_) (fun c26 => ?_)
        · refine Sq.move .plain rfl rfl ?_
          refine Sq.off rfl rfl rfl rfl rfl rfl ?_
          refine Sq.off rfl rfl rfl rfl rfl rfl ?_
          refine Sq.off rfl rfl rfl rfl rfl rfl ?_
          refine Sq.off rfl rfl rfl rfl rfl rfl ?_
          refine Sq.off rfl rfl rfl rfl rfl rfl ?_
          refine Sq.pickT .plain rfl rfl rfl ?_
          refine Sq.nil ?_
          refine Eq.next ?_
          refine Cq.thn rfl ?_
          refine Cq.seq ?_
          refine Cq.region ?_
          refine Sq.assign .plain rfl rfl ?_
          refine Sq.nil ?_
          refine Eq.next ?_
          refine Cq.ret ?_
          refine Eq.outRet ?_
          refine Eq.pastRet ?_
          refine Eq.pastRet ?_
          refine Eq.outRet ?_
          refine Eq.outRet ?_
          refine Eq.pastRet ?_
          refine Eq.pastRet ?_
          refine Eq.outRet ?_
          refine Eq.pastRet ?_
          refine Eq.ret1 rfl rfl ?_
          exact ⟨by first | rw [validA_al (by omega)] | rw [validA_n (by omega)] | rw [validA_acc (by omega)] | rw [validA_row (k := k.toNat) (by omega) (rowOk_len (by omega))] | rw [validA_row (k := k.toNat) (by omega) (rowOk_bad (by omega) (k := j.toNat) (by omega) (inB_F (by omega)))] | rw [validA_good (k := k.toNat) (by omega) (by omega) (by omega) hp (by omega)], E⟩
        refine Sq.move .plain rfl rfl ?_
        refine Sq.move (.met rfl rfl rfl) rfl rfl ?_
        refine Sq.fieldAddr fld26_1 (.met rfl rfl rfl) rfl rfl ?_
        refine Sq.loadB one23 (.met rfl rfl rfl) rfl rfl hB4 rfl ?_
        refine Sq.lenRows (hnx.ext E) (.met rfl rfl rfl) rfl und23 rfl ?_
        refine Sq.geq (.met rfl rfl rfl) rfl rfl rfl ?_
        refine Sq.part (fun c27 => ?_) (fun c27 => ?_)
        · refine Sq.pickF .plain rfl rfl rfl ?_
          refine Sq.nil ?_
          refine Eq.next ?_
          refine Cq.thn rfl ?_
          refine Cq.seq ?_
          refine Cq.region ?_
          refine Sq.assign .plain rfl rfl ?_
          refine Sq.nil ?_
          refine Eq.next ?_
          refine Cq.ret ?_
          refine Eq.outRet ?_
          refine Eq.pastRet ?_
          refine Eq.pastRet ?_
          refine Eq.outRet ?_
          refine Eq.outRet ?_
          refine Eq.pastRet ?_
          refine Eq.pastRet ?_
          refine Eq.outRet ?_
          refine Eq.pastRet ?_
          refine Eq.ret1 rfl rfl ?_
          exact ⟨by first | rw [validA_al (by omega)] | rw [validA_n (by omega)] | rw [validA_acc (by omega)] | rw [validA_row (k := k.toNat) (by omega) (rowOk_len (by omega))] | rw [validA_row (k := k.toNat) (by omega) (rowOk_bad (by omega) (k := j.toNat) (by omega) (inB_F (by omega)))] | rw [validA_good (k := k.toNat) (by omega) (by omega) (by omega) hp (by omega)], E⟩
        refine Sq.pickF .plain rfl rfl rfl ?_
        refine Sq.nil ?_
        refine Eq.next ?_
        refine Cq.els rfl ?_
        refine Cq.skip ?_
        refine Eq.end ?_
        refine Eq.next ?_
        refine Cq.region ?_
        refine Sq.add .plain rfl rfl rfl (by omega) ?_
        refine Sq.move .plain rfl rfl ?_
        refine Sq.nil ?_
        have e2 := toNat_succ hj.1
        refine Eq.round _ _ ⟨j + 1, rfl, by omega, by rw [e2]; exact all_snoc (d := 0) hq (by omega) (inB_T (by omega)), E, hB4, hr22, rfl⟩ (by omega) (.cons rfl (.cons rfl (.cons rfl (.cons rfl (.cons rfl (.cons rfl (.cons rfl (.cons rfl (.nil)))))))))
      refine Sq.nil ?_
      refine Eq.next ?_
      refine Cq.seq ?_
      refine Cq.els rfl ?_
      refine Cq.exit ?_
      refine Eq.past ?_
      refine Eq.past ?_
      refine Eq.hit ?_
      refine Eq.end ?_
      refine Eq.next ?_
      refine Cq.region ?_
      refine Sq.add .plain rfl rfl rfl (by omega) ?_
      refine Sq.move .plain rfl rfl ?_
      refine Sq.nil ?_
      have e1 := toNat_succ hk.1
      refine Eq.round _ _ ⟨k + 1, rfl, by omega, by rw [e1]; exact all_snoc (d := []) hp (by omega) (rowOk_good (by omega) hq (by omega)), E, hB4, rfl⟩ (by omega) (.cons rfl (.cons rfl (.cons rfl (.cons rfl (.cons rfl (.nil))))))
    refine Sq.nil ?_
    refine Eq.next ?_
    refine Cq.seq ?_
    refine Cq.els rfl ?_
    refine Cq.exit ?_
    refine Eq.past ?_
    refine Eq.past ?_
    refine Eq.hit ?_
    refine Eq.next ?_
    refine Cq.seq ?_
    refine Cq.region ?_
    refine Sq.assign .plain rfl rfl ?_
    refine Sq.nil ?_
    refine Eq.next ?_
    refine Cq.ret ?_
    refine Eq.ret1 rfl rfl ?_
    exact ⟨by first | rw [validA_al (by omega)] | rw [validA_n (by omega)] | rw [validA_acc (by omega)] | rw [validA_row (k := k.toNat) (by omega) (rowOk_len (by omega))] | rw [validA_row (k := k.toNat) (by omega) (rowOk_bad (by omega) (k := j.toNat) (by omega) (inB_F (by omega)))] | rw [validA_good (k := k.toNat) (by omega) (by omega) (by omega) hp (by omega)], E⟩
  refine Sq.notF .plain rfl rfl ?_
  refine Sq.move .plain rfl rfl ?_
  refine Sq.off rfl rfl rfl rfl rfl rfl ?_
  refine Sq.off rfl rfl rfl rfl rfl rfl ?_
  refine Sq.off rfl rfl rfl rfl rfl rfl ?_
  refine Sq.off rfl rfl rfl rfl rfl rfl ?_
  refine Sq.pickT .plain rfl rfl rfl ?_
  refine Sq.move .plain rfl rfl ?_
  refine Sq.off rfl rfl rfl rfl rfl rfl ?_
  refine Sq.off rfl rfl rfl rfl rfl rfl ?_
  refine Sq.off rfl rfl rfl rfl rfl rfl ?_
  refine Sq.off rfl rfl rfl rfl rfl rfl ?_
  refine Sq.pickT .plain rfl rfl rfl ?_
  refine Sq.move .plain rfl rfl ?_
  refine Sq.off rfl rfl rfl rfl rfl rfl ?_
  refine Sq.off rfl rfl rfl rfl rfl rfl ?_
  refine Sq.off rfl rfl rfl rfl rfl rfl ?_
  refine Sq.off rfl rfl rfl rfl rfl rfl ?_
  refine Sq.off rfl rfl rfl rfl rfl rfl ?_
  refine Sq.off rfl rfl rfl rfl rfl rfl ?_
  refine Sq.off rfl rfl rfl rfl rfl rfl ?_
  refine Sq.pickT .plain rfl rfl rfl ?_
  refine Sq.nil ?_
  refine Eq.next ?_
  refine Cq.thn rfl ?_
  refine Cq.seq ?_
  refine Cq.region ?_
  refine Sq.assign .plain rfl rfl ?_
  refine Sq.nil ?_
  refine Eq.next ?_
  refine Cq.ret ?_
  refine Eq.pastRet ?_
  refine Eq.ret1 rfl rfl ?_
  exact ⟨by first | rw [validA_al (by omega)] | rw [validA_n (by omega)] | rw [validA_acc (by omega)] | rw [validA_row (k := k.toNat) (by omega) (rowOk_len (by omega))] | rw [validA_row (k := k.toNat) (by omega) (rowOk_bad (by omega) (k := j.toNat) (by omega) (inB_F (by omega)))] | rw [validA_good (k := k.toNat) (by omega) (by omega) (by omega) hp (by omega)], E⟩
end Go.Proofs.Ytpnelflmecchlaa
set_option linter.unusedSimpArgs false
set_option linter.unusedVariables false
namespace Go.Proofs.Ytpnelflmecchlaa
open Go.RowKit
set_option maxRecDepth 100000 in
theorem tableOf_c (w0 : World) (a : A) (nx ac : Value) (hnx : Rows w0 38 3 nx a.next) (hac : Bools w0 4 ac a.acc) (hv : validA a = true) : Ret Try.prog 28 #[Value.agg #[Value.int .i64 a.al, nx, ac]] w0 (fun v w => (∃ b xs, v = .slice (some ⟨b, 0, none⟩) a.next.length a.next.length ∧ w0.heap.size ≤ b ∧ Blk w b 54 (xs.map (Value.int .i64)) ∧ Tab a xs) ∧ Ext w0 w) := by
  have E := Ext.refl w0
  have hvs := validA_spec.1 hv
  have hvs1 := hvs.1
  have hvs2 := hvs.2.1
  refine Ret.of (args := [Value.agg #[Value.int .i64 a.al, nx, ac]]) Try.func28 rfl rfl rfl ?_
  rintro _ rfl
  show Cq _ _ _ _ [(0, Value.agg #[Value.int .i64 a.al, nx, ac])] _
  refine Cq.seq ?_
  refine Cq.region ?_
  refine Sq.box .plain rfl rfl (fun b1 w2 e3 hB4 hlo5 => ?_)
  have hd6 := Nat.le_trans (Below.size E) hlo5
  have hs7 := Below.size e3
  replace E := E.trans e3
  refine Sq.assign .plain rfl rfl ?_
  refine Sq.nil ?_
  refine Eq.next ?_
  refine Cq.seq ?_
  refine Cq.region ?_
  refine Sq.fieldAddr fld26_1 .plain rfl rfl ?_
  refine Sq.loadB one23 .plain rfl rfl hB4 rfl ?_
  refine Sq.lenRows (hnx.ext E) .plain rfl und23 rfl ?_
  refine Sq.makeK slk52 (mk52).1 (by decide) (mk52).2 .plain rfl rfl rfl rfl (by omega) (fun b8 w9 e10 hlo11 hB12 => ?_)
  have hd13 := Nat.le_trans (Below.size E) hlo11
  have hd14 := Nat.lt_of_lt_of_le hB4.lt hlo11
  have hs15 := Below.size e10
  replace E := E.trans e10
  replace hB4 := hB4.ext e10
  refine Sq.assign .plain rfl rfl ?_
  refine Sq.nil ?_
  refine Eq.next ?_
  refine Cq.seq ?_
  refine Cq.region ?_
  refine Sq.fieldAddr fld26_0 .plain rfl rfl ?_
  refine Sq.loadB one3 .plain rfl rfl hB4 rfl ?_
  have hd20 := hB4.lt
  have hd21 := hB12.lt
  refine Sq.call fn15 .plain rfl rfl (lettersOf_c a.al (by omega) _) ?_
  rintro v16 w17 ⟨hl19, e18⟩
  have hs22 := Below.size E
  have hs23 := Below.size e18
  replace E := E.trans e18
  replace hB4 := hB4.ext e18
  replace hB12 := hB12.ext e18
  refine Sq.assign .plain rfl rfl ?_
  refine Sq.nil ?_
  refine Eq.next ?_
  refine Cq.seq ?_
  refine Cq.seq ?_
  refine Cq.region ?_
  refine Sq.fieldAddr fld26_1 .plain rfl rfl ?_
  refine Sq.loadB one23 .plain rfl rfl hB4 rfl ?_
  refine Sq.lenRows (hnx.ext E) .plain rfl und23 rfl ?_
  refine Sq.move .plain rfl rfl ?_
  refine Sq.nil ?_
  refine Eq.next ?_
  refine Cq.block ?_
  refine Cq.loop (fun nn w ls => ∃ (q : Int), ∃ (xs : List Int), ls = [(3, Value.slice (some ⟨b8, 0, none⟩) a.next.length a.next.length), (4, v16), (18, nx), (19, Value.int .i64 (List.length a.next : Int)), (20, Value.int .i64 q)] ∧ (0 ≤ q ∧ q ≤ a.next.length) ∧ Blk w b8 54 (xs.map (Value.int .i64)) ∧ TabPre a q.toNat 0 xs ∧ Ext w0 w ∧ Own w w9.heap.size 3 v16 ((letters a.al).map (Value.int .i64)) ∧ nn = ((a.next.length : Int) - q).toNat) _ _ ⟨0, _, rfl, by omega, hB12, TabPre.zero a, E, hl19, rfl⟩ (.cons rfl (.cons rfl (.cons rfl (.cons rfl (.cons rfl (.nil)))))) ?_
  rintro nn wl1 ls ⟨q, xs, rfl, hq, hT, ht, E, hl19, rfl⟩
  have hs24 := Below.size E
  have htl := ht.1
  refine Cq.seq ?_
  refine Cq.region ?_
  refine Sq.lss .plain rfl rfl rfl ?_
  refine Sq.part (fun c25 => ?_) (fun c25 => ?_)
  · refine Sq.nil ?_
    refine Eq.next ?_
    refine Cq.seq ?_
    refine Cq.thn rfl ?_
    refine Cq.skip ?_
    refine Eq.next ?_
    refine Cq.seq ?_
    refine Cq.block ?_
    refine Cq.seq ?_
    refine Cq.region ?_
    refine Sq.move .plain rfl rfl ?_
    refine Sq.idxRows sl23 one38 (hnx.ext E) .plain rfl rfl rfl .plain rfl rfl (by omega) (by omega) (fun r26 hr27 => ?_)
    refine Sq.assign .plain rfl rfl ?_
    refine Sq.assign .plain rfl rfl ?_
    refine Sq.nil ?_
    refine Eq.next ?_
    refine Cq.seq ?_
    refine Cq.seq ?_
    refine Cq.region ?_
    refine Sq.move .plain rfl rfl ?_
    refine Sq.nil ?_
    refine Eq.next ?_
    refine Cq.block ?_
    refine Cq.loop (fun nn w ls => ∃ (l : Int), ∃ (xs : List Int), ls = [(3, Value.slice (some ⟨b8, 0, none⟩) a.next.length a.next.length), (4, v16), (5, Value.int .i64 q), (6, r26), (18, nx), (19, Value.int .i64 (List.length a.next : Int)), (20, Value.int .i64 q), (25, Value.int .i64 l)] ∧ (0 ≤ l ∧ l ≤ 6) ∧ Blk w b8 54 (xs.map (Value.int .i64)) ∧ TabPre a q.toNat l.toNat xs ∧ Ext w0 w ∧ Own w w9.heap.size 3 v16 ((letters a.al).map (Value.int .i64)) ∧ Ints w 3 r26 (a.next.getD q.toNat []) ∧ nn = (6 - l).toNat) _ _ ⟨0, _, rfl, by omega, hT, ht, E, hl19, hr27, rfl⟩ (.cons rfl (.cons rfl (.cons rfl (.cons rfl (.cons rfl (.cons rfl (.cons rfl (.cons rfl (.nil))))))))) ?_
    rintro nn wl2 ls ⟨l, xs, rfl, hl, hT, ht, E, hl19, hr27, rfl⟩
    have hs28 := Below.size E
    have htl := ht.1
    refine Cq.seq ?_
    refine Cq.region ?_
    refine Sq.lss .plain rfl rfl rfl ?_
    refine Sq.part (fun c29 => ?_) (fun c29 => ?_)
    · refine Sq.nil ?_
      refine Eq.next ?_
      refine Cq.seq ?_
      refine Cq.thn rfl ?_
      refine Cq.skip ?_
      refine Eq.next ?_
      refine Cq.seq ?_
      refine Cq.block ?_
      refine Cq.seq ?_
      refine Cq.region ?_
      refine Sq.move .plain rfl rfl ?_
      refine Sq.assign .plain rfl rfl ?_
      refine Sq.nil ?_
      refine Eq.next ?_
      refine Cq.region ?_
      refine Sq.move .plain rfl rfl ?_
      refine Sq.move .plain rfl rfl ?_
      refine Sq.move .plain rfl rfl ?_
      refine Sq.move .plain rfl rfl ?_
      refine Sq.val .plain rfl rfl (Still.ixS slk52 rfl rfl (by omega) (by omega)) ?_
      refine Sq.val .plain rfl rfl (Still.ixA ar54 rfl rfl (by omega) (by omega)) ?_
      refine Sq.store one3 .plain rfl rfl rfl hT (by rw [List.length_map]; omega) (fun w30 g31 hB32 => ?_)
      have hs33 := World.grownBy.size g31
      replace E := E.grown g31 (fun k hk => by injection hk with hk; subst hk; omega)
      replace hl19 := hl19.stored g31 hT (by decide)
      replace hr27 := hr27.stored g31 hT (by decide)
      replace hT := hB32
      rw [← List.map_set] at hT
      refine Sq.nil ?_
      refine Eq.end ?_
      refine Eq.next ?_
      refine Cq.region ?_
      refine Sq.add .plain rfl rfl rfl (by omega) ?_
      refine Sq.move .plain rfl rfl ?_
      refine Sq.nil ?_
      have e1 := toNat_succ hl.1
      have e2 := ht.step (by omega) (by omega)
      rw [Int.toNat_of_nonneg hq.1] at e2
      refine Eq.round _ _ ⟨l + 1, _, rfl, by omega, by rw [Nat.zero_add] at hT; exact hT, by rw [e1]; exact e2, E, hl19, hr27, rfl⟩ (by omega) (.cons rfl (.cons rfl (.cons rfl (.cons rfl (.cons rfl (.cons rfl (.cons rfl (.cons rfl (.nil)))))))))
    refine Sq.nil ?_
    refine Eq.next ?_
    refine Cq.seq ?_
    refine Cq.els rfl ?_
    refine Cq.exit ?_
    refine Eq.past ?_
    refine Eq.past ?_
    refine Eq.hit ?_
    refine Eq.next ?_
    refine Cq.seq ?_
    refine Cq.region ?_
    refine Sq.move .plain rfl rfl ?_
    refine Sq.lenInts (Own.row hl19) .plain rfl und38 rfl ?_
    refine Sq.move .plain rfl rfl ?_
    refine Sq.nil ?_
    refine Eq.next ?_
    refine Cq.block ?_
    obtain rfl : l = 6 := by omega
    refine Cq.loop (fun nn w ls => ∃ (k : Int), ∃ (xs : List Int), ls = [(3, Value.slice (some ⟨b8, 0, none⟩) a.next.length a.next.length), (4, v16), (5, Value.int .i64 q), (6, r26), (18, nx), (19, Value.int .i64 (List.length a.next : Int)), (20, Value.int .i64 q), (35, v16), (36, Value.int .i64 ((List.length (letters a.al) : Int))), (37, Value.int .i64 k)] ∧ (0 ≤ k ∧ k ≤ (letters a.al).length) ∧ Blk w b8 54 (xs.map (Value.int .i64)) ∧ TabAt a q.toNat k.toNat xs ∧ Ext w0 w ∧ Own w w9.heap.size 3 v16 ((letters a.al).map (Value.int .i64)) ∧ Ints w 3 r26 (a.next.getD q.toNat []) ∧ nn = ((letters a.al).length - k).toNat) _ _ ⟨0, _, rfl, by omega, hT, ht.at, E, hl19, hr27, rfl⟩ (.cons rfl (.cons rfl (.cons rfl (.cons rfl (.cons rfl (.cons rfl (.cons rfl (.cons rfl (.cons rfl (.cons rfl (.nil))))))))))) ?_
    rintro nn wl3 ls ⟨k, xs, rfl, hk, hT, ht, E, hl19, hr27, rfl⟩
    have hs34 := Below.size E
    have htl := ht.1
    have hlet := letters_len6 a.al
    have hlt := letters_at a.al (k := k.toNat)
    have hvr := valid_row hv (k := q.toNat) (by omega)
    refine Cq.seq ?_
    refine Cq.region ?_
    refine Sq.lss .plain rfl rfl rfl ?_
    refine Sq.part (fun c35 => ?_) (fun c35 => ?_)
    · refine Sq.nil ?_
      refine Eq.next ?_
      refine Cq.seq ?_
      refine Cq.thn rfl ?_
      refine Cq.skip ?_
      refine Eq.next ?_
      refine Cq.seq ?_
      refine Cq.block ?_
      refine Cq.seq ?_
      refine Cq.region ?_
      refine Sq.move .plain rfl rfl ?_
      refine Sq.idxInts sl38 one3 (Own.row hl19) .plain rfl rfl rfl .plain rfl rfl (by omega) (by omega) ?_
      refine Sq.assign .plain rfl rfl ?_
      refine Sq.assign .plain rfl rfl ?_
      refine Sq.nil ?_
      refine Eq.next ?_
      obtain ⟨pA, hpA⟩ := Ints.at hr27 (i := k) (by omega) (by omega)
      refine Cq.drawS 10 (fun w' => At w' 3 r26 k pA (.int .i64 ((a.next.getD q.toNat []).getD k.toNat 0))) mixed (hpA) (fun w36 e37 hS => ?_)
      clear hS
      have hs38 := Below.size e37
      replace E := E.trans e37
      replace hl19 := hl19.ext e37
      replace hr27 := hr27.ext e37
      replace hT := hT.ext e37
      replace hpA := hpA.ext e37
      refine Gq.st 0 rfl (by kernel_rfl) rfl .plain rfl (fun _ _ _ h => h) hpA (fun w' x => Still.move rfl) ?_
      refine Gq.st 1 rfl (by kernel_rfl) rfl .plain rfl (fun _ _ _ h => h) hpA (fun w' x => Still.move rfl) ?_
      refine Gq.st 2 rfl (by kernel_rfl) rfl .plain rfl (fun _ _ _ h => h) hpA (fun w' x => Still.move rfl) ?_
      refine Gq.st 3 rfl (by kernel_rfl) rfl .plain rfl (fun _ _ _ h => h) hpA (fun w' x => Still.move rfl) ?_
      refine Gq.st 4 rfl (by kernel_rfl) rfl .plain rfl (fun _ _ _ h => h) hpA (fun w' x => Still.move rfl) ?_
      refine Gq.st 5 rfl (by kernel_rfl) rfl .plain rfl (fun _ _ _ h => h) hpA (fun w' x => Still.at' sl38 hpA rfl rfl) ?_
      refine Gq.st 6 rfl (by kernel_rfl) rfl .plain rfl (fun _ _ _ h => h) hpA (fun w' x => Still.loadA one3 rfl (x).1) ?_
      refine Gq.st 7 rfl (by kernel_rfl) rfl .plain rfl (fun _ _ _ h => h) hpA (fun w' x => Still.ixS slk52 rfl rfl (by omega) (by omega)) ?_
      refine Gq.st 8 rfl (by kernel_rfl) rfl .plain rfl (fun _ _ _ h => h) hpA (fun w' x => Still.ixA ar54 rfl rfl (by have := hlt (by omega); omega) (by have := hlt (by omega); omega)) ?_
      refine Gq.one 9 rfl (by kernel_rfl) ?_
      refine Sq.store one3 .plain rfl rfl rfl hT (by rw [List.length_map]; omega) (fun w39 g40 hB41 => ?_)
      have hs42 := World.grownBy.size g40
      replace E := E.grown g40 (fun k hk => by injection hk with hk; subst hk; omega)
      replace hl19 := hl19.stored g40 hT (by decide)
      replace hr27 := hr27.stored g40 hT (by decide)
      replace hpA := hpA.stored g40 hT (by decide)
      replace hT := hB41
      rw [← List.map_set] at hT
      refine Sq.nil ?_
      refine Eq.goes (fun _ => hpA) ?_
      refine Gq.done (by kernel_rfl) ?_
      refine Eq.end ?_
      refine Eq.next ?_
      refine Cq.region ?_
      refine Sq.add .plain rfl rfl rfl (by omega) ?_
      refine Sq.move .plain rfl rfl ?_
      refine Sq.nil ?_
      have e1 := toNat_succ hk.1
      refine Eq.round _ _ ⟨k + 1, _, rfl, by omega, by rw [Nat.zero_add] at hT; exact hT, by rw [e1]; exact ht.step hvs1 (by omega) (by omega), E, hl19, hr27, rfl⟩ (by omega) (.cons rfl (.cons rfl (.cons rfl (.cons rfl (.cons rfl (.cons rfl (.cons rfl (.cons rfl (.cons rfl (.cons rfl (.nil)))))))))))
    refine Sq.nil ?_
    refine Eq.next ?_
    refine Cq.seq ?_
    refine Cq.els rfl ?_
    refine Cq.exit ?_
    refine Eq.past ?_
    refine Eq.past ?_
    refine Eq.hit ?_
    refine Eq.end ?_
    refine Eq.next ?_
    refine Cq.region ?_
    refine Sq.add .plain rfl rfl rfl (by omega) ?_
    refine Sq.move .plain rfl rfl ?_
    refine Sq.nil ?_
    have e1 := toNat_succ hq.1
    refine Eq.round _ _ ⟨q + 1, _, rfl, by omega, hT, by rw [e1]; exact ht.next hvs1 (by omega) (by omega), E, hl19, rfl⟩ (by omega) (.cons rfl (.cons rfl (.cons rfl (.cons rfl (.cons rfl (.nil))))))
  refine Sq.nil ?_
  refine Eq.next ?_
  refine Cq.seq ?_
  refine Cq.els rfl ?_
  refine Cq.exit ?_
  refine Eq.past ?_
  refine Eq.past ?_
  refine Eq.hit ?_
  refine Eq.next ?_
  refine Cq.seq ?_
  refine Cq.region ?_
  refine Sq.move .plain rfl rfl ?_
  refine Sq.assign .plain rfl rfl ?_
  refine Sq.nil ?_
  refine Eq.next ?_
  refine Cq.ret ?_
  refine Eq.ret1 rfl rfl ?_
  exact ⟨⟨_, xs, rfl, by omega, hT, ht.done (by omega)⟩, E⟩
end Go.Proofs.Ytpnelflmecchlaa
set_option linter.unusedSimpArgs false
set_option linter.unusedVariables false
namespace Go.Proofs.Ytpnelflmecchlaa
open Go.RowKit
set_option maxRecDepth 100000 in
theorem letterAt_c (s : ByteArray) (i : Int) (hi : 0 ≤ i ∧ i < s.size) (w0 : World) : Ret Try.prog 29 #[Value.string s, Value.int .i64 i] w0 (fun v w => v = .int .i64 (clip ((lts s).getD i.toNat 0)) ∧ w0 = w) := by
  refine Ret.of (args := [Value.string s, Value.int .i64 i]) Try.func29 rfl rfl rfl ?_
  rintro _ rfl
  show Cq _ _ _ _ [(0, Value.string s), (1, Value.int .i64 i)] _
  refine Cq.seq ?_
  refine Cq.region ?_
  refine Sq.assign .plain rfl rfl ?_
  refine Sq.nil ?_
  refine Eq.next ?_
  refine Cq.seq ?_
  refine Cq.region ?_
  refine Sq.move .plain rfl rfl ?_
  refine Sq.move .plain rfl rfl ?_
  refine Sq.idxStr .plain rfl und9 rfl rfl (by omega) (str_at (by omega)) ?_
  refine Sq.conv conv5_3 .plain rfl rfl (u8_ok _) ?_
  refine Sq.sub .plain rfl rfl rfl (by have := u8_le (s.data.toList.getD i.toNat 0); omega) ?_
  refine Sq.assign .plain rfl rfl ?_
  refine Sq.nil ?_
  refine Eq.next ?_
  refine Cq.seq ?_
  refine Cq.seq ?_
  refine Cq.region ?_
  refine Sq.move .plain rfl rfl ?_
  refine Sq.lss .plain rfl rfl rfl ?_
  refine Sq.part (fun c2 => ?_) (fun c2 => ?_)
  · refine Sq.move .plain rfl rfl ?_
    refine Sq.off rfl rfl rfl rfl rfl rfl ?_
    refine Sq.off rfl rfl rfl rfl rfl rfl ?_
    refine Sq.pickT .plain rfl rfl rfl ?_
    refine Sq.nil ?_
    refine Eq.next ?_
    refine Cq.thn rfl ?_
    refine Cq.seq ?_
    refine Cq.region ?_
    refine Sq.assign .plain rfl rfl ?_
    refine Sq.nil ?_
    refine Eq.next ?_
    refine Cq.ret ?_
    refine Eq.pastRet ?_
    refine Eq.ret1 rfl rfl ?_
    exact ⟨by rw [lts_at (by omega)]; first | rw [clip_in (by omega)] | rw [clip_out (by omega)], rfl⟩
  refine Sq.move .plain rfl rfl ?_
  refine Sq.move (.met rfl rfl rfl) rfl rfl ?_
  refine Sq.geq (.met rfl rfl rfl) rfl rfl rfl ?_
  refine Sq.part (fun c3 => ?_) (fun c3 => ?_)
  · refine Sq.pickF .plain rfl rfl rfl ?_
    refine Sq.nil ?_
    refine Eq.next ?_
    refine Cq.thn rfl ?_
    refine Cq.seq ?_
    refine Cq.region ?_
    refine Sq.assign .plain rfl rfl ?_
    refine Sq.nil ?_
    refine Eq.next ?_
    refine Cq.ret ?_
    refine Eq.pastRet ?_
    refine Eq.ret1 rfl rfl ?_
    exact ⟨by rw [lts_at (by omega)]; first | rw [clip_in (by omega)] | rw [clip_out (by omega)], rfl⟩
  refine Sq.pickF .plain rfl rfl rfl ?_
  refine Sq.nil ?_
  refine Eq.next ?_
  refine Cq.els rfl ?_
  refine Cq.skip ?_
  refine Eq.next ?_
  refine Cq.seq ?_
  refine Cq.region ?_
  refine Sq.move .plain rfl rfl ?_
  refine Sq.assign .plain rfl rfl ?_
  refine Sq.nil ?_
  refine Eq.next ?_
  refine Cq.ret ?_
  refine Eq.ret1 rfl rfl ?_
  exact ⟨by rw [lts_at (by omega)]; first | rw [clip_in (by omega)] | rw [clip_out (by omega)], rfl⟩
set_option maxRecDepth 100000 in
theorem within_c (s : ByteArray) (al : Int) (w0 : World) : Ret Try.prog 27 #[Value.string s, Value.int .i64 al] w0 (fun v w => v = .bool (within s al) ∧ w0 = w) := by
  refine Ret.of (args := [Value.string s, Value.int .i64 al]) Try.func27 rfl rfl rfl ?_
  rintro _ rfl
  show Cq _ _ _ _ [(0, Value.string s), (1, Value.int .i64 al)] _
  refine Cq.seq ?_
  refine Cq.region ?_
  refine Sq.assign .plain rfl rfl ?_
  refine Sq.nil ?_
  refine Eq.next ?_
  refine Cq.seq ?_
  refine Cq.seq ?_
  refine Cq.region ?_
  refine Sq.move .plain rfl rfl ?_
  refine Sq.call fn14 .plain rfl rfl (isAlphabet_c _ _) ?_
  rintro _ _ ⟨rfl, rfl⟩
  refine Sq.part (fun hal => ?_) (fun hal => ?_)
  · refine Sq.notT .plain rfl rfl ?_
    refine Sq.move .plain rfl rfl ?_
    refine Sq.move (.met rfl rfl rfl) rfl rfl ?_
    refine Sq.lenStr (.met rfl rfl rfl) rfl und9 rfl ?_
    refine Sq.gtr (.met rfl rfl rfl) rfl rfl rfl ?_
    refine Sq.part (fun c1 => ?_) (fun c1 => ?_)
    · refine Sq.pickF .plain rfl rfl rfl ?_
      refine Sq.nil ?_
      refine Eq.next ?_
      refine Cq.thn rfl ?_
      refine Cq.seq ?_
      refine Cq.region ?_
      refine Sq.assign .plain rfl rfl ?_
      refine Sq.nil ?_
      refine Eq.next ?_
      refine Cq.ret ?_
      refine Eq.pastRet ?_
      refine Eq.ret1 rfl rfl ?_
      exact ⟨by first | rw [within_al (by omega)] | rw [within_size (by omega)] | rw [within_bad (k := k.toNat) (by omega) (by rw [← hs_clip hal]; exact hb)] | rw [within_good (k := k.toNat) hal (by omega) hp (by omega)], rfl⟩
    refine Sq.pickF .plain rfl rfl rfl ?_
    refine Sq.nil ?_
    refine Eq.next ?_
    refine Cq.els rfl ?_
    refine Cq.skip ?_
    refine Eq.next ?_
    refine Cq.seq ?_
    refine Cq.seq ?_
    refine Cq.region ?_
    refine Sq.move .plain rfl rfl ?_
    refine Sq.lenStr .plain rfl und9 rfl ?_
    refine Sq.move .plain rfl rfl ?_
    refine Sq.nil ?_
    refine Eq.next ?_
    refine Cq.block ?_
    refine Cq.loop (fun nn w ls => ∃ (k : Int), ls = [(0, Value.string s), (1, Value.int .i64 al), (15, Value.int .i64 (ByteArray.size s : Int)), (16, Value.int .i64 k)] ∧ w0 = w ∧ (0 ≤ k ∧ k ≤ s.size) ∧ ((lts s).take k.toNat).all (hs al) = true ∧ nn = ((s.size : Int) - k).toNat) _ _ ⟨0, rfl, rfl, by omega, rfl, rfl⟩ (.cons rfl (.cons rfl (.cons rfl (.cons rfl (.nil))))) ?_
    rintro n1 w ls' ⟨k, rfl, rfl, hk, hp, rfl⟩
    have hll := lts_length s
    refine Cq.seq ?_
    refine Cq.region ?_
    refine Sq.lss .plain rfl rfl rfl ?_
    refine Sq.part (fun c2 => ?_) (fun c2 => ?_)
    · refine Sq.nil ?_
      refine Eq.next ?_
      refine Cq.seq ?_
      refine Cq.thn rfl ?_
      refine Cq.skip ?_
      refine Eq.next ?_
      refine Cq.seq ?_
      refine Cq.block ?_
      refine Cq.seq ?_
      refine Cq.region ?_
      refine Sq.move .plain rfl rfl ?_
      refine Sq.assign .plain rfl rfl ?_
      refine Sq.nil ?_
      refine Eq.next ?_
      refine Cq.seq ?_
      refine Cq.region ?_
      refine Sq.move .plain rfl rfl ?_
      refine Sq.move .plain rfl rfl ?_
      refine Sq.move .plain rfl rfl ?_
      refine Sq.call fn29 .plain rfl rfl (letterAt_c s k (by omega) _) ?_
      rintro _ _ ⟨rfl, rfl⟩
      refine Sq.call fn26 .plain rfl rfl (has_c _ _ (by omega) _) ?_
      rintro _ _ ⟨rfl, rfl⟩
      refine Sq.partB (fun hb => ?_) (fun hb => ?_)
      · refine Sq.notT .plain rfl rfl ?_
        refine Sq.nil ?_
        refine Eq.next ?_
        refine Cq.els rfl ?_
        refine Cq.skip ?_
        refine Eq.end ?_
        refine Eq.next ?_
        refine Cq.region ?_
        refine Sq.add .plain rfl rfl rfl (by omega) ?_
        refine Sq.move .plain rfl rfl ?_
        refine Sq.nil ?_
        have e1 := toNat_succ hk.1
        refine Eq.round _ _ ⟨k + 1, rfl, rfl, by omega, by rw [e1]; exact all_snoc (d := 0) hp (by omega) (by rw [← hs_clip hal]; exact hb), rfl⟩ (by omega) (.cons rfl (.cons rfl (.cons rfl (.cons rfl (.nil)))))
      refine Sq.notF .plain rfl rfl ?_
      refine Sq.nil ?_
      refine Eq.next ?_
      refine Cq.thn rfl ?_
      refine Cq.seq ?_
      refine Cq.region ?_
      refine Sq.assign .plain rfl rfl ?_
      refine Sq.nil ?_
      refine Eq.next ?_
      refine Cq.ret ?_
      refine Eq.outRet ?_
      refine Eq.pastRet ?_
      refine Eq.pastRet ?_
      refine Eq.outRet ?_
      refine Eq.pastRet ?_
      refine Eq.ret1 rfl rfl ?_
      exact ⟨by first | rw [within_al (by omega)] | rw [within_size (by omega)] | rw [within_bad (k := k.toNat) (by omega) (by rw [← hs_clip hal]; exact hb)] | rw [within_good (k := k.toNat) hal (by omega) hp (by omega)], rfl⟩
    refine Sq.nil ?_
    refine Eq.next ?_
    refine Cq.seq ?_
    refine Cq.els rfl ?_
    refine Cq.exit ?_
    refine Eq.past ?_
    refine Eq.past ?_
    refine Eq.hit ?_
    refine Eq.next ?_
    refine Cq.seq ?_
    refine Cq.region ?_
    refine Sq.assign .plain rfl rfl ?_
    refine Sq.nil ?_
    refine Eq.next ?_
    refine Cq.ret ?_
    refine Eq.ret1 rfl rfl ?_
    exact ⟨by first | rw [within_al (by omega)] | rw [within_size (by omega)] | rw [within_bad (k := k.toNat) (by omega) (by rw [← hs_clip hal]; exact hb)] | rw [within_good (k := k.toNat) hal (by omega) hp (by omega)], rfl⟩
  refine Sq.notF .plain rfl rfl ?_
  refine Sq.move .plain rfl rfl ?_
  refine Sq.off rfl rfl rfl rfl rfl rfl ?_
  refine Sq.off rfl rfl rfl rfl rfl rfl ?_
  refine Sq.off rfl rfl rfl rfl rfl rfl ?_
  refine Sq.pickT .plain rfl rfl rfl ?_
  refine Sq.nil ?_
  refine Eq.next ?_
  refine Cq.thn rfl ?_
  refine Cq.seq ?_
  refine Cq.region ?_
  refine Sq.assign .plain rfl rfl ?_
  refine Sq.nil ?_
  refine Eq.next ?_
  refine Cq.ret ?_
  refine Eq.pastRet ?_
  refine Eq.ret1 rfl rfl ?_
  exact ⟨by first | rw [within_al (by omega)] | rw [within_size (by omega)] | rw [within_bad (k := k.toNat) (by omega) (by rw [← hs_clip hal]; exact hb)] | rw [within_good (k := k.toNat) hal (by omega) hp (by omega)], rfl⟩
set_option maxRecDepth 100000 in
theorem after_c (w0 : World) (a : A) (nx ac : Value) (hnx : Rows w0 38 3 nx a.next) (hac : Bools w0 4 ac a.acc) (s : ByteArray) (hsz : s.size ≤ 1000000) : Ret Try.prog 18 #[Value.agg #[Value.int .i64 a.al, nx, ac], Value.string s] w0 (fun v w => v = .int .i64 (after a s) ∧ Ext w0 w) := by
  have E := Ext.refl w0
  refine Ret.of (args := [Value.agg #[Value.int .i64 a.al, nx, ac], Value.string s]) Try.func18 rfl rfl rfl ?_
  rintro _ rfl
  show Cq _ _ _ _ [(0, Value.agg #[Value.int .i64 a.al, nx, ac]), (1, Value.string s)] _
  refine Cq.seq ?_
  refine Cq.region ?_
  refine Sq.box .plain rfl rfl (fun b1 w2 e3 hB4 hlo5 => ?_)
  have hd6 := Nat.le_trans (Below.size E) hlo5
  have hs7 := Below.size e3
  replace E := E.trans e3
  refine Sq.assign .plain rfl rfl ?_
  refine Sq.nil ?_
  refine Eq.next ?_
  refine Cq.seq ?_
  refine Cq.seq ?_
  refine Cq.region ?_
  refine Sq.loadAgg agg26 .plain rfl rfl hB4 rfl ?_
  have hd11 := hB4.lt
  refine Sq.call fn12 .plain rfl rfl (valid_c _ a _ _ (hnx.ext E) (hac.ext E)) ?_
  rintro _ w9 ⟨rfl, e10⟩
  have hs12 := Below.size E
  have hs13 := Below.size e10
  replace E := E.trans e10
  replace hB4 := hB4.ext e10
  refine Sq.partB (fun hv => ?_) (fun hv => ?_)
  · refine Sq.notT .plain rfl rfl ?_
    refine Sq.move .plain rfl rfl ?_
    refine Sq.move (.met rfl rfl rfl) rfl rfl ?_
    refine Sq.fieldAddr fld26_0 (.met rfl rfl rfl) rfl rfl ?_
    refine Sq.loadB one3 (.met rfl rfl rfl) rfl rfl hB4 rfl ?_
    refine Sq.call fn27 (.met rfl rfl rfl) rfl rfl (within_c s a.al _) ?_
    rintro _ _ ⟨rfl, rfl⟩
    refine Sq.partB (fun hw => ?_) (fun hw => ?_)
    · refine Sq.notT (.met rfl rfl rfl) rfl rfl ?_
      refine Sq.pickF .plain rfl rfl rfl ?_
      refine Sq.nil ?_
      refine Eq.next ?_
      refine Cq.els rfl ?_
      refine Cq.skip ?_
      refine Eq.next ?_
      refine Cq.seq ?_
      refine Cq.region ?_
      refine Sq.loadAgg agg26 .plain rfl rfl hB4 rfl ?_
      have hd22 := hB4.lt
      refine Sq.call fn28 .plain rfl rfl (tableOf_c _ a _ _ (hnx.ext E) (hac.ext E) hv) ?_
      rintro _ w15 ⟨⟨b17, xs18, rfl, hlo19, hT20, hTab21⟩, e16⟩
      have hs23 := Below.size E
      have hs24 := Below.size e16
      replace E := E.trans e16
      refine Sq.assign .plain rfl rfl ?_
      refine Sq.nil ?_
      refine Eq.next ?_
      refine Cq.seq ?_
      refine Cq.region ?_
      refine Sq.assign .plain rfl rfl ?_
      refine Sq.nil ?_
      refine Eq.next ?_
      refine Cq.seq ?_
      refine Cq.seq ?_
      refine Cq.region ?_
      refine Sq.move .plain rfl rfl ?_
      refine Sq.lenStr .plain rfl und9 rfl ?_
      refine Sq.move .plain rfl rfl ?_
      refine Sq.nil ?_
      refine Eq.next ?_
      refine Cq.block ?_
      have hn1 := (validA_spec.1 hv).2.1
      refine Cq.loop (fun nn w ls => ∃ (k : Int), ∃ (q : Int), ls = [(1, Value.string s), (5, Value.slice (some ⟨b17, 0, none⟩) a.next.length a.next.length), (6, Value.int .i64 q), (21, Value.int .i64 (ByteArray.size s : Int)), (22, Value.int .i64 k)] ∧ (0 ≤ k ∧ k ≤ s.size) ∧ q = runTo a 0 s k.toNat ∧ Ext w0 w ∧ Blk w b17 54 (xs18.map (Value.int .i64)) ∧ nn = ((s.size : Int) - k).toNat) _ _ ⟨0, 0, rfl, by omega, rfl, E, hT20, rfl⟩ (.cons rfl (.cons rfl (.cons rfl (.cons rfl (.cons rfl (.nil)))))) ?_
      rintro nn wl1 ls ⟨k, q, rfl, hk, hq, E, hT20, rfl⟩
      have hs25 := Below.size E
      have hqi := runTo_in hv hw (q := 0) (by omega) k.toNat
      rw [← hq] at hqi
      have hwa := within_at hw (k := k.toNat)
      refine Cq.seq ?_
      refine Cq.region ?_
      refine Sq.lss .plain rfl rfl rfl ?_
      refine Sq.part (fun c26 => ?_) (fun c26 => ?_)
      · refine Sq.nil ?_
        refine Eq.next ?_
        refine Cq.seq ?_
        refine Cq.thn rfl ?_
        refine Cq.skip ?_
        refine Eq.next ?_
        refine Cq.seq ?_
        refine Cq.block ?_
        refine Cq.seq ?_
        refine Cq.region ?_
        refine Sq.move .plain rfl rfl ?_
        refine Sq.assign .plain rfl rfl ?_
        refine Sq.nil ?_
        refine Eq.next ?_
        refine Cq.drawS 8 (fun w' => Blk w' b17 54 (xs18.map (Value.int .i64))) mixed (hT20) (fun w27 e28 hS => ?_)
        clear hS
        have hs29 := Below.size e28
        replace E := E.trans e28
        replace hT20 := hT20.ext e28
        refine Gq.st 0 rfl (by kernel_rfl) rfl .plain rfl (fun _ _ _ h => h) hT20 (fun w' x => Still.move rfl) ?_
        refine Gq.st 1 rfl (by kernel_rfl) rfl .plain rfl (fun _ _ _ h => h) hT20 (fun w' x => Still.move rfl) ?_
        refine Gq.st 2 rfl (by kernel_rfl) rfl .plain rfl (fun _ _ _ h => h) hT20 (fun w' x => Still.move rfl) ?_
        refine Gq.st 3 rfl (by kernel_rfl) rfl .plain rfl (fun _ _ _ h => h) hT20 (fun w' x => Still.move rfl) ?_
        refine Gq.st 5 rfl (by kernel_rfl) rfl .plain rfl (fun _ _ _ h => h) hT20 (fun w' x => Still.ixS slk52 rfl rfl (by omega) (by omega)) ?_
        refine Gq.one 4 rfl (by kernel_rfl) ?_
        refine Sq.call fn29 .plain rfl rfl (letterAt_c s k (by omega) _) ?_
        rintro _ _ ⟨rfl, rfl⟩
        refine Sq.nil ?_
        refine Eq.goes (fun _ => hT20) ?_
        refine Gq.st 6 rfl (by kernel_rfl) rfl .plain rfl (fun _ _ _ h => h) hT20 (fun w' x => Still.ixA ar54 rfl rfl (by have := hwa (by omega); omega) (by have := hwa (by omega); omega)) ?_
        refine Gq.st 7 rfl (by kernel_rfl) rfl .plain rfl (fun _ _ _ h => h) hT20 (fun w' x => Still.loadB one3 rfl x (by rw [Nat.zero_add, List.getElem?_map, hTab21.2 q ((clip ((lts s).getD k.toNat 0))) (by omega) (by have := hwa (by omega); omega)]; rfl)) ?_
        refine Gq.one 8 rfl (by kernel_rfl) ?_
        refine Sq.assign .plain rfl rfl ?_
        refine Sq.nil ?_
        refine Eq.goes (fun h => absurd h (by decide)) ?_
        refine Gq.done (by kernel_rfl) ?_
        refine Eq.end ?_
        refine Eq.next ?_
        refine Cq.region ?_
        refine Sq.add .plain rfl rfl rfl (by omega) ?_
        refine Sq.move .plain rfl rfl ?_
        refine Sq.nil ?_
        have e1 := toNat_succ hk.1
        refine Eq.round _ _ ⟨k + 1, _, rfl, by omega, by rw [e1, runTo_succ (by omega), ← hq, (hwa (by omega)).1], E, hT20, rfl⟩ (by omega) (.cons rfl (.cons rfl (.cons rfl (.cons rfl (.cons rfl (.nil))))))
      refine Sq.nil ?_
      refine Eq.next ?_
      refine Cq.seq ?_
      refine Cq.els rfl ?_
      refine Cq.exit ?_
      refine Eq.past ?_
      refine Eq.past ?_
      refine Eq.hit ?_
      refine Eq.next ?_
      refine Cq.seq ?_
      refine Cq.region ?_
      refine Sq.move .plain rfl rfl ?_
      refine Sq.assign .plain rfl rfl ?_
      refine Sq.nil ?_
      refine Eq.next ?_
      refine Cq.ret ?_
      refine Eq.ret1 rfl rfl ?_
      exact ⟨by rw [after_good hv hw (k := k.toNat) (by omega), ← hq], E⟩
    refine Sq.notF (.met rfl rfl rfl) rfl rfl ?_
    refine Sq.pickF .plain rfl rfl rfl ?_
    refine Sq.nil ?_
    refine Eq.next ?_
    refine Cq.thn rfl ?_
    refine Cq.seq ?_
    refine Cq.region ?_
    refine Sq.assign .plain rfl rfl ?_
    refine Sq.nil ?_
    refine Eq.next ?_
    refine Cq.ret ?_
    refine Eq.pastRet ?_
    refine Eq.ret1 rfl rfl ?_
    exact ⟨by rw [after_bad (by rintro ⟨h1, h2⟩; first | (rw [hv] at h1; exact absurd h1 (by decide)) | (rw [hw] at h2; exact absurd h2 (by decide)))], E⟩
  refine Sq.notF .plain rfl rfl ?_
  refine Sq.move .plain rfl rfl ?_
  refine Sq.off rfl rfl rfl rfl rfl rfl ?_
  refine Sq.off rfl rfl rfl rfl rfl rfl ?_
  refine Sq.off rfl rfl rfl rfl rfl rfl ?_
  refine Sq.off rfl rfl rfl rfl rfl rfl ?_
  refine Sq.off rfl rfl rfl rfl rfl rfl ?_
  refine Sq.pickT .plain rfl rfl rfl ?_
  refine Sq.nil ?_
  refine Eq.next ?_
  refine Cq.thn rfl ?_
  refine Cq.seq ?_
  refine Cq.region ?_
  refine Sq.assign .plain rfl rfl ?_
  refine Sq.nil ?_
  refine Eq.next ?_
  refine Cq.ret ?_
  refine Eq.pastRet ?_
  refine Eq.ret1 rfl rfl ?_
  exact ⟨by rw [after_bad (by rintro ⟨h1, h2⟩; first | (rw [hv] at h1; exact absurd h1 (by decide)) | (rw [hw] at h2; exact absurd h2 (by decide)))], E⟩
set_option maxRecDepth 100000 in
theorem accepts_c (w0 : World) (a : A) (nx ac : Value) (hnx : Rows w0 38 3 nx a.next) (hac : Bools w0 4 ac a.acc) (s : ByteArray) (hsz : s.size ≤ 1000000) : Ret Try.prog 8 #[Value.agg #[Value.int .i64 a.al, nx, ac], Value.string s] w0 (fun v w => v = .bool (accepts a s) ∧ Ext w0 w) := by
  have E := Ext.refl w0
  refine Ret.of (args := [Value.agg #[Value.int .i64 a.al, nx, ac], Value.string s]) Try.func8 rfl rfl rfl ?_
  rintro _ rfl
  show Cq _ _ _ _ [(0, Value.agg #[Value.int .i64 a.al, nx, ac]), (1, Value.string s)] _
  refine Cq.seq ?_
  refine Cq.region ?_
  refine Sq.box .plain rfl rfl (fun b1 w2 e3 hB4 hlo5 => ?_)
  have hd6 := Nat.le_trans (Below.size E) hlo5
  have hs7 := Below.size e3
  replace E := E.trans e3
  refine Sq.assign .plain rfl rfl ?_
  refine Sq.nil ?_
  refine Eq.next ?_
  refine Cq.seq ?_
  refine Cq.region ?_
  refine Sq.loadAgg agg26 .plain rfl rfl hB4 rfl ?_
  refine Sq.move .plain rfl rfl ?_
  have hd11 := hB4.lt
  refine Sq.call fn18 .plain rfl rfl (after_c _ a _ _ (hnx.ext E) (hac.ext E) s (by omega)) ?_
  rintro _ w9 ⟨rfl, e10⟩
  have hs12 := Below.size E
  have hs13 := Below.size e10
  replace E := E.trans e10
  replace hB4 := hB4.ext e10
  refine Sq.assign .plain rfl rfl ?_
  refine Sq.nil ?_
  refine Eq.next ?_
  refine Cq.seq ?_
  refine Cq.region ?_
  refine Sq.move .plain rfl rfl ?_
  refine Sq.geq .plain rfl rfl rfl ?_
  refine Sq.part (fun hge => ?_) (fun hge => ?_)
  · refine Sq.move .plain rfl rfl ?_
    refine Sq.fieldAddr fld26_2 (.met rfl rfl rfl) rfl rfl ?_
    refine Sq.loadB one24 (.met rfl rfl rfl) rfl rfl hB4 rfl ?_
    refine Sq.move (.met rfl rfl rfl) rfl rfl ?_
    refine Sq.idxBools sl24 one4 (hac.ext E) (.met rfl rfl rfl) rfl rfl rfl (.met rfl rfl rfl) rfl rfl (by first | omega | exact after_lt hge) (by first | omega | exact after_lt hge) ?_
    refine Sq.pickT .plain rfl rfl rfl ?_
    refine Sq.assign .plain rfl rfl ?_
    refine Sq.nil ?_
    refine Eq.next ?_
    refine Cq.ret ?_
    refine Eq.ret1 rfl rfl ?_
    exact ⟨by rw [accepts_T hge], E⟩
  refine Sq.move .plain rfl rfl ?_
  refine Sq.off rfl rfl rfl rfl rfl rfl ?_
  refine Sq.off rfl rfl rfl rfl rfl rfl ?_
  refine Sq.off rfl rfl rfl rfl rfl rfl ?_
  refine Sq.off rfl rfl rfl rfl rfl rfl ?_
  refine Sq.off rfl rfl rfl rfl rfl rfl ?_
  refine Sq.pickF .plain rfl rfl rfl ?_
  refine Sq.assign .plain rfl rfl ?_
  refine Sq.nil ?_
  refine Eq.next ?_
  refine Cq.ret ?_
  refine Eq.ret1 rfl rfl ?_
  exact ⟨by rw [accepts_F (by omega)], E⟩
end Go.Proofs.Ytpnelflmecchlaa
set_option linter.unusedSimpArgs false
set_option linter.unusedVariables false
namespace Go.Proofs.Ytpnelflmecchlaa
open Go.RowKit
set_option maxRecDepth 100000 in
theorem letterByte_c (x : Int) (hx : 0 ≤ x ∧ x ≤ 100) (w0 : World) : Ret Try.prog 16 #[Value.int .i64 x] w0 (fun v w => v = .int .u8 (97 + x) ∧ w0 = w) := by
  refine Ret.of (args := [Value.int .i64 x]) Try.func16 rfl rfl rfl ?_
  rintro _ rfl
  show Cq _ _ _ _ [(0, Value.int .i64 x)] _
  refine Cq.seq ?_
  refine Cq.region ?_
  refine Sq.assign .plain rfl rfl ?_
  refine Sq.nil ?_
  refine Eq.next ?_
  refine Cq.seq ?_
  refine Cq.region ?_
  refine Sq.move .plain rfl rfl ?_
  refine Sq.add .plain rfl rfl rfl (by omega) ?_
  refine Sq.conv8 conv3_5 .plain rfl rfl (by omega) ?_
  refine Sq.assign .plain rfl rfl ?_
  refine Sq.nil ?_
  refine Eq.next ?_
  refine Cq.ret ?_
  refine Eq.ret1 rfl rfl ?_
  exact ⟨rfl, rfl⟩
set_option maxRecDepth 100000 in
theorem reverse_c (w0 : World) (B : Nat) (r : Value) (xs : List UInt8) (ho : Own w0 B 5 r (xs.map fun b => Value.int .u8 (b.toNat : Int))) (hl : xs.length ≤ 1000) : Ret Try.prog 17 #[r] w0 (fun v w => v = .tuple #[] ∧ Own w B 5 r (xs.reverse.map fun b => Value.int .u8 (b.toNat : Int)) ∧ w0.grownBy w r.ownBlock) := by
  have hgo := World.grownBy.refl w0 r.ownBlock
  refine Ret.of (args := [r]) Try.func17 rfl rfl rfl ?_
  rintro _ rfl
  show Cq _ _ _ _ [(0, r)] _
  refine Cq.seq ?_
  refine Cq.region ?_
  refine Sq.move .plain rfl rfl ?_
  refine Sq.lenBytes (Own.row ho) .plain rfl und22 rfl ?_
  refine Sq.sub .plain rfl rfl rfl (by omega) ?_
  refine Sq.assign .plain rfl rfl ?_
  refine Sq.assign .plain rfl rfl ?_
  refine Sq.nil ?_
  refine Eq.next ?_
  refine Cq.block ?_
  rw [show ((xs.length : Int) - 1) = (xs.length : Int) - 1 - 0 by omega]
  refine Cq.loop (fun nn w ls => ∃ (i : Int), ∃ (ys : List UInt8), ls = [(0, r), (2, Value.int .i64 i), (3, Value.int .i64 ((xs.length : Int) - 1 - i))] ∧ (0 ≤ i ∧ i ≤ xs.length) ∧ Own w B 5 r (ys.map fun b => Value.int .u8 (b.toNat : Int)) ∧ RevAt xs i.toNat ys ∧ World.grownBy w0 w r.ownBlock ∧ nn = ((xs.length : Int) - i).toNat) _ _ ⟨0, _, rfl, by omega, ho, RevAt.zero xs, hgo, rfl⟩ (.cons rfl (.cons rfl (.cons rfl (.nil)))) ?_
  rintro nn wl1 ls ⟨i, ys, rfl, hi, ho, hr, hgo, rfl⟩
  have hyl := hr.1
  refine Cq.seq ?_
  refine Cq.seq ?_
  refine Cq.region ?_
  refine Sq.move .plain rfl rfl ?_
  refine Sq.move .plain rfl rfl ?_
  refine Sq.lss .plain rfl rfl rfl ?_
  refine Sq.part (fun c1 => ?_) (fun c1 => ?_)
  · refine Sq.nil ?_
    refine Eq.next ?_
    refine Cq.thn rfl ?_
    refine Cq.skip ?_
    refine Eq.next ?_
    refine Cq.seq ?_
    refine Cq.block ?_
    refine Cq.drawS 14 (fun w' => World.grownBy w0 w' r.ownBlock) mixed (hgo) (fun w2 e3 hS => ?_)
    clear hS
    have hs4 := Below.size e3
    replace hgo := grown_trans hgo (Ext.to_grown e3 _)
    replace ho := ho.ext e3
    have ho_w2 := ho
    refine Gq.st 0 rfl (by kernel_rfl) rfl .plain rfl (fun _ _ _ h => h) hgo (fun w' x => Still.move rfl) ?_
    refine Gq.st 1 rfl (by kernel_rfl) rfl .plain rfl (fun _ _ _ h => h) hgo (fun w' x => Still.move rfl) ?_
    refine Gq.st 2 rfl (by kernel_rfl) rfl .plain rfl (fun _ _ _ h => h) hgo (fun w' x => Still.move rfl) ?_
    refine Gq.st 3 rfl (by kernel_rfl) rfl .plain rfl (fun _ _ _ h => h) hgo (fun w' x => Still.move rfl) ?_
    refine Gq.st 4 rfl (by kernel_rfl) rfl .plain rfl (fun _ _ _ h => h) hgo (fun w' x => Still.move rfl) ?_
    refine Gq.st 5 rfl (by kernel_rfl) rfl .plain rfl (fun _ _ _ h => h) hgo (fun w' x => Still.move rfl) ?_
    refine Gq.st 8 rfl (by kernel_rfl) rfl .plain rfl (fun _ _ _ h => h) hgo (fun w' x => Still.move rfl) ?_
    refine Gq.st 9 rfl (by kernel_rfl) rfl .plain rfl (fun _ _ _ h => h) hgo (fun w' x => Still.move rfl) ?_
    refine Gq.two 6 10 rfl rfl (by kernel_rfl) ?_ ?_
    · obtain ⟨p5, hp6⟩ := Bytes.at (Own.row ho) (i := ((xs.length : Int) - 1 - i)) (by omega) (by omega)
      refine Sq.val .plain rfl rfl (Still.at' sl22 hp6 rfl rfl) ?_
      refine Sq.nil ?_
      refine Eq.goes (fun _ => hgo) ?_
      refine Gq.two 7 10 rfl rfl (by kernel_rfl) ?_ ?_
      · refine Sq.val .plain rfl rfl (Still.loadA one5 rfl hp6.1) ?_
        refine Sq.nil ?_
        refine Eq.goes (fun _ => hgo) ?_
        refine Gq.one 10 rfl (by kernel_rfl) ?_
        obtain ⟨p7, hp8⟩ := Bytes.at (Own.row ho) (i := i) (by omega) (by omega)
        refine Sq.val .plain rfl rfl (Still.at' sl22 hp8 rfl rfl) ?_
        refine Sq.nil ?_
        refine Eq.goes (fun _ => hgo) ?_
        refine Gq.one 11 rfl (by kernel_rfl) ?_
        refine Sq.val .plain rfl rfl (Still.loadA one5 rfl hp8.1) ?_
        refine Sq.nil ?_
        refine Eq.goes (fun _ => hgo) ?_
        obtain ⟨p9, hp10_w2⟩ := Bytes.at (Own.row ho_w2) (i := i) (by omega) (by omega)
        have hp10o := AtO.of ho_w2 hp10_w2
        refine Gq.st 12 rfl (by kernel_rfl) rfl .plain rfl (fun _ _ _ h => h) hgo (fun w' x => Still.at' sl22 hp10_w2 rfl rfl) ?_
        refine Gq.one 13 rfl (by kernel_rfl) ?_
        refine Sq.storeO one5 ho hp10o .plain rfl rfl rfl (fun w11 g12 ho13 => ?_)
        have hs14 := World.grownBy.size g12
        replace hgo := grown_trans hgo g12
        replace ho := ho13
        refine Sq.nil ?_
        refine Eq.goes (fun _ => hgo) ?_
        refine Gq.one 14 rfl (by kernel_rfl) ?_
        obtain ⟨p15, hp16o⟩ := Own.at ho (i := ((xs.length : Int) - 1 - i)) (by omega) (by first | (simp only [List.length_map]; omega) | (simp; omega))
        refine Sq.atO sl22 hp16o .plain rfl rfl rfl ?_
        refine Sq.nil ?_
        refine Eq.goes (fun h => absurd h (by decide)) ?_
        refine Gq.one 15 rfl (by kernel_rfl) ?_
        refine Sq.storeO one5 ho hp16o .plain rfl rfl rfl (fun w17 g18 ho19 => ?_)
        have hs20 := World.grownBy.size g18
        replace hgo := grown_trans hgo g18
        replace ho := ho19
        refine Sq.nil ?_
        refine Eq.goes (fun h => absurd h (by decide)) ?_
        refine Gq.done (by kernel_rfl) ?_
        refine Eq.end ?_
        refine Eq.next ?_
        refine Cq.region ?_
        refine Sq.move .plain rfl rfl ?_
        refine Sq.add .plain rfl rfl rfl (by omega) ?_
        refine Sq.move .plain rfl rfl ?_
        refine Sq.sub .plain rfl rfl rfl (by omega) ?_
        refine Sq.assign .plain rfl rfl ?_
        refine Sq.assign .plain rfl rfl ?_
        refine Sq.nil ?_
        have e1 := toNat_succ hi.1
        have e2 : (((xs.length : Int) - 1 - i) - 1) = (xs.length : Int) - 1 - (i + 1) := by omega
        have e3 := hr.step (by omega)
        have e4 : ((xs.length : Int) - 1 - i).toNat = xs.length - 1 - i.toNat := by omega
        rw [e2]
        refine Eq.round _ _ ⟨i + 1, _, rfl, by omega, Own.setU2 ho, by rw [e1, e4]; exact e3, hgo, rfl⟩ (by omega) (.cons rfl (.cons rfl (.cons rfl (.nil))))
      obtain ⟨p21, hp22⟩ := Bytes.at (Own.row ho) (i := i) (by omega) (by omega)
      refine Sq.val .plain rfl rfl (Still.at' sl22 hp22 rfl rfl) ?_
      refine Sq.nil ?_
      refine Eq.goes (fun _ => hgo) ?_
      refine Gq.two 7 11 rfl rfl (by kernel_rfl) ?_ ?_
      · refine Sq.val .plain rfl rfl (Still.loadA one5 rfl hp6.1) ?_
        refine Sq.nil ?_
        refine Eq.goes (fun _ => hgo) ?_
        refine Gq.one 11 rfl (by kernel_rfl) ?_
        refine Sq.val .plain rfl rfl (Still.loadA one5 rfl hp22.1) ?_
        refine Sq.nil ?_
        refine Eq.goes (fun _ => hgo) ?_
        obtain ⟨p23, hp24_w2⟩ := Bytes.at (Own.row ho_w2) (i := i) (by omega) (by omega)
        have hp24o := AtO.of ho_w2 hp24_w2
        refine Gq.st 12 rfl (by kernel_rfl) rfl .plain rfl (fun _ _ _ h => h) hgo (fun w' x => Still.at' sl22 hp24_w2 rfl rfl) ?_
        refine Gq.one 13 rfl (by kernel_rfl) ?_
        refine Sq.storeO one5 ho hp24o .plain rfl rfl rfl (fun w25 g26 ho27 => ?_)
        have hs28 := World.grownBy.size g26
        replace hgo := grown_trans hgo g26
        replace ho := ho27
        refine Sq.nil ?_
        refine Eq.goes (fun _ => hgo) ?_
        refine Gq.one 14 rfl (by kernel_rfl) ?_
        obtain ⟨p29, hp30o⟩ := Own.at ho (i := ((xs.length : Int) - 1 - i)) (by omega) (by first | (simp only [List.length_map]; omega) | (simp; omega))
        refine Sq.atO sl22 hp30o .plain rfl rfl rfl ?_
        refine Sq.nil ?_
        refine Eq.goes (fun h => absurd h (by decide)) ?_
        refine Gq.one 15 rfl (by kernel_rfl) ?_
        refine Sq.storeO one5 ho hp30o .plain rfl rfl rfl (fun w31 g32 ho33 => ?_)
        have hs34 := World.grownBy.size g32
        replace hgo := grown_trans hgo g32
        replace ho := ho33
        refine Sq.nil ?_
        refine Eq.goes (fun h => absurd h (by decide)) ?_
        refine Gq.done (by kernel_rfl) ?_
        refine Eq.end ?_
        refine Eq.next ?_
        refine Cq.region ?_
        refine Sq.move .plain rfl rfl ?_
        refine Sq.add .plain rfl rfl rfl (by omega) ?_
        refine Sq.move .plain rfl rfl ?_
        refine Sq.sub .plain rfl rfl rfl (by omega) ?_
        refine Sq.assign .plain rfl rfl ?_
        refine Sq.assign .plain rfl rfl ?_
        refine Sq.nil ?_
        have e1 := toNat_succ hi.1
        have e2 : (((xs.length : Int) - 1 - i) - 1) = (xs.length : Int) - 1 - (i + 1) := by omega
        have e3 := hr.step (by omega)
        have e4 : ((xs.length : Int) - 1 - i).toNat = xs.length - 1 - i.toNat := by omega
        rw [e2]
        refine Eq.round _ _ ⟨i + 1, _, rfl, by omega, Own.setU2 ho, by rw [e1, e4]; exact e3, hgo, rfl⟩ (by omega) (.cons rfl (.cons rfl (.cons rfl (.nil))))
      refine Sq.val .plain rfl rfl (Still.loadA one5 rfl hp22.1) ?_
      refine Sq.nil ?_
      refine Eq.goes (fun _ => hgo) ?_
      refine Gq.one 7 rfl (by kernel_rfl) ?_
      refine Sq.val .plain rfl rfl (Still.loadA one5 rfl hp6.1) ?_
      refine Sq.nil ?_
      refine Eq.goes (fun _ => hgo) ?_
      obtain ⟨p35, hp36_w2⟩ := Bytes.at (Own.row ho_w2) (i := i) (by omega) (by omega)
      have hp36o := AtO.of ho_w2 hp36_w2
      refine Gq.st 12 rfl (by kernel_rfl) rfl .plain rfl (fun _ _ _ h => h) hgo (fun w' x => Still.at' sl22 hp36_w2 rfl rfl) ?_
      refine Gq.one 13 rfl (by kernel_rfl) ?_
      refine Sq.storeO one5 ho hp36o .plain rfl rfl rfl (fun w37 g38 ho39 => ?_)
      have hs40 := World.grownBy.size g38
      replace hgo := grown_trans hgo g38
      replace ho := ho39
      refine Sq.nil ?_
      refine Eq.goes (fun _ => hgo) ?_
      refine Gq.one 14 rfl (by kernel_rfl) ?_
      obtain ⟨p41, hp42o⟩ := Own.at ho (i := ((xs.length : Int) - 1 - i)) (by omega) (by first | (simp only [List.length_map]; omega) | (simp; omega))
      refine Sq.atO sl22 hp42o .plain rfl rfl rfl ?_
      refine Sq.nil ?_
      refine Eq.goes (fun h => absurd h (by decide)) ?_
      refine Gq.one 15 rfl (by kernel_rfl) ?_
      refine Sq.storeO one5 ho hp42o .plain rfl rfl rfl (fun w43 g44 ho45 => ?_)
      have hs46 := World.grownBy.size g44
      replace hgo := grown_trans hgo g44
      replace ho := ho45
      refine Sq.nil ?_
      refine Eq.goes (fun h => absurd h (by decide)) ?_
      refine Gq.done (by kernel_rfl) ?_
      refine Eq.end ?_
      refine Eq.next ?_
      refine Cq.region ?_
      refine Sq.move .plain rfl rfl ?_
      refine Sq.add .plain rfl rfl rfl (by omega) ?_
      refine Sq.move .plain rfl rfl ?_
      refine Sq.sub .plain rfl rfl rfl (by omega) ?_
      refine Sq.assign .plain rfl rfl ?_
      refine Sq.assign .plain rfl rfl ?_
      refine Sq.nil ?_
      have e1 := toNat_succ hi.1
      have e2 : (((xs.length : Int) - 1 - i) - 1) = (xs.length : Int) - 1 - (i + 1) := by omega
      have e3 := hr.step (by omega)
      have e4 : ((xs.length : Int) - 1 - i).toNat = xs.length - 1 - i.toNat := by omega
      rw [e2]
      refine Eq.round _ _ ⟨i + 1, _, rfl, by omega, Own.setU2 ho, by rw [e1, e4]; exact e3, hgo, rfl⟩ (by omega) (.cons rfl (.cons rfl (.cons rfl (.nil))))
    obtain ⟨p47, hp48⟩ := Bytes.at (Own.row ho) (i := i) (by omega) (by omega)
    refine Sq.val .plain rfl rfl (Still.at' sl22 hp48 rfl rfl) ?_
    refine Sq.nil ?_
    refine Eq.goes (fun _ => hgo) ?_
    refine Gq.two 6 11 rfl rfl (by kernel_rfl) ?_ ?_
    · obtain ⟨p49, hp50⟩ := Bytes.at (Own.row ho) (i := ((xs.length : Int) - 1 - i)) (by omega) (by omega)
      refine Sq.val .plain rfl rfl (Still.at' sl22 hp50 rfl rfl) ?_
      refine Sq.nil ?_
      refine Eq.goes (fun _ => hgo) ?_
      refine Gq.two 7 11 rfl rfl (by kernel_rfl) ?_ ?_
      · refine Sq.val .plain rfl rfl (Still.loadA one5 rfl hp50.1) ?_
        refine Sq.nil ?_
        refine Eq.goes (fun _ => hgo) ?_
        refine Gq.one 11 rfl (by kernel_rfl) ?_
        refine Sq.val .plain rfl rfl (Still.loadA one5 rfl hp48.1) ?_
        refine Sq.nil ?_
        refine Eq.goes (fun _ => hgo) ?_
        obtain ⟨p51, hp52_w2⟩ := Bytes.at (Own.row ho_w2) (i := i) (by omega) (by omega)
        have hp52o := AtO.of ho_w2 hp52_w2
        refine Gq.st 12 rfl (by kernel_rfl) rfl .plain rfl (fun _ _ _ h => h) hgo (fun w' x => Still.at' sl22 hp52_w2 rfl rfl) ?_
        refine Gq.one 13 rfl (by kernel_rfl) ?_
        refine Sq.storeO one5 ho hp52o .plain rfl rfl rfl (fun w53 g54 ho55 => ?_)
        have hs56 := World.grownBy.size g54
        replace hgo := grown_trans hgo g54
        replace ho := ho55
        refine Sq.nil ?_
        refine Eq.goes (fun _ => hgo) ?_
        refine Gq.one 14 rfl (by kernel_rfl) ?_
        obtain ⟨p57, hp58o⟩ := Own.at ho (i := ((xs.length : Int) - 1 - i)) (by omega) (by first | (simp only [List.length_map]; omega) | (simp; omega))
        refine Sq.atO sl22 hp58o .plain rfl rfl rfl ?_
        refine Sq.nil ?_
        refine Eq.goes (fun h => absurd h (by decide)) ?_
        refine Gq.one 15 rfl (by kernel_rfl) ?_
        refine Sq.storeO one5 ho hp58o .plain rfl rfl rfl (fun w59 g60 ho61 => ?_)
        have hs62 := World.grownBy.size g60
        replace hgo := grown_trans hgo g60
        replace ho := ho61
        refine Sq.nil ?_
        refine Eq.goes (fun h => absurd h (by decide)) ?_
        refine Gq.done (by kernel_rfl) ?_
        refine Eq.end ?_
        refine Eq.next ?_
        refine Cq.region ?_
        refine Sq.move .plain rfl rfl ?_
        refine Sq.add .plain rfl rfl rfl (by omega) ?_
        refine Sq.move .plain rfl rfl ?_
        refine Sq.sub .plain rfl rfl rfl (by omega) ?_
        refine Sq.assign .plain rfl rfl ?_
        refine Sq.assign .plain rfl rfl ?_
        refine Sq.nil ?_
        have e1 := toNat_succ hi.1
        have e2 : (((xs.length : Int) - 1 - i) - 1) = (xs.length : Int) - 1 - (i + 1) := by omega
        have e3 := hr.step (by omega)
        have e4 : ((xs.length : Int) - 1 - i).toNat = xs.length - 1 - i.toNat := by omega
        rw [e2]
        refine Eq.round _ _ ⟨i + 1, _, rfl, by omega, Own.setU2 ho, by rw [e1, e4]; exact e3, hgo, rfl⟩ (by omega) (.cons rfl (.cons rfl (.cons rfl (.nil))))
      refine Sq.val .plain rfl rfl (Still.loadA one5 rfl hp48.1) ?_
      refine Sq.nil ?_
      refine Eq.goes (fun _ => hgo) ?_
      refine Gq.one 7 rfl (by kernel_rfl) ?_
      refine Sq.val .plain rfl rfl (Still.loadA one5 rfl hp50.1) ?_
      refine Sq.nil ?_
      refine Eq.goes (fun _ => hgo) ?_
      obtain ⟨p63, hp64_w2⟩ := Bytes.at (Own.row ho_w2) (i := i) (by omega) (by omega)
      have hp64o := AtO.of ho_w2 hp64_w2
      refine Gq.st 12 rfl (by kernel_rfl) rfl .plain rfl (fun _ _ _ h => h) hgo (fun w' x => Still.at' sl22 hp64_w2 rfl rfl) ?_
      refine Gq.one 13 rfl (by kernel_rfl) ?_
      refine Sq.storeO one5 ho hp64o .plain rfl rfl rfl (fun w65 g66 ho67 => ?_)
      have hs68 := World.grownBy.size g66
      replace hgo := grown_trans hgo g66
      replace ho := ho67
      refine Sq.nil ?_
      refine Eq.goes (fun _ => hgo) ?_
      refine Gq.one 14 rfl (by kernel_rfl) ?_
      obtain ⟨p69, hp70o⟩ := Own.at ho (i := ((xs.length : Int) - 1 - i)) (by omega) (by first | (simp only [List.length_map]; omega) | (simp; omega))
      refine Sq.atO sl22 hp70o .plain rfl rfl rfl ?_
      refine Sq.nil ?_
      refine Eq.goes (fun h => absurd h (by decide)) ?_
      refine Gq.one 15 rfl (by kernel_rfl) ?_
      refine Sq.storeO one5 ho hp70o .plain rfl rfl rfl (fun w71 g72 ho73 => ?_)
      have hs74 := World.grownBy.size g72
      replace hgo := grown_trans hgo g72
      replace ho := ho73
      refine Sq.nil ?_
      refine Eq.goes (fun h => absurd h (by decide)) ?_
      refine Gq.done (by kernel_rfl) ?_
      refine Eq.end ?_
      refine Eq.next ?_
      refine Cq.region ?_
      refine Sq.move .plain rfl rfl ?_
      refine Sq.add .plain rfl rfl rfl (by omega) ?_
      refine Sq.move .plain rfl rfl ?_
      refine Sq.sub .plain rfl rfl rfl (by omega) ?_
      refine Sq.assign .plain rfl rfl ?_
      refine Sq.assign .plain rfl rfl ?_
      refine Sq.nil ?_
      have e1 := toNat_succ hi.1
      have e2 : (((xs.length : Int) - 1 - i) - 1) = (xs.length : Int) - 1 - (i + 1) := by omega
      have e3 := hr.step (by omega)
      have e4 : ((xs.length : Int) - 1 - i).toNat = xs.length - 1 - i.toNat := by omega
      rw [e2]
      refine Eq.round _ _ ⟨i + 1, _, rfl, by omega, Own.setU2 ho, by rw [e1, e4]; exact e3, hgo, rfl⟩ (by omega) (.cons rfl (.cons rfl (.cons rfl (.nil))))
    refine Sq.val .plain rfl rfl (Still.loadA one5 rfl hp48.1) ?_
    refine Sq.nil ?_
    refine Eq.goes (fun _ => hgo) ?_
    refine Gq.one 6 rfl (by kernel_rfl) ?_
    obtain ⟨p75, hp76⟩ := Bytes.at (Own.row ho) (i := ((xs.length : Int) - 1 - i)) (by omega) (by omega)
    refine Sq.val .plain rfl rfl (Still.at' sl22 hp76 rfl rfl) ?_
    refine Sq.nil ?_
    refine Eq.goes (fun _ => hgo) ?_
    refine Gq.one 7 rfl (by kernel_rfl) ?_
    refine Sq.val .plain rfl rfl (Still.loadA one5 rfl hp76.1) ?_
    refine Sq.nil ?_
    refine Eq.goes (fun _ => hgo) ?_
    obtain ⟨p77, hp78_w2⟩ := Bytes.at (Own.row ho_w2) (i := i) (by omega) (by omega)
    have hp78o := AtO.of ho_w2 hp78_w2
    refine Gq.st 12 rfl (by kernel_rfl) rfl .plain rfl (fun _ _ _ h => h) hgo (fun w' x => Still.at' sl22 hp78_w2 rfl rfl) ?_
    refine Gq.one 13 rfl (by kernel_rfl) ?_
    refine Sq.storeO one5 ho hp78o .plain rfl rfl rfl (fun w79 g80 ho81 => ?_)
    have hs82 := World.grownBy.size g80
    replace hgo := grown_trans hgo g80
    replace ho := ho81
    refine Sq.nil ?_
    refine Eq.goes (fun _ => hgo) ?_
    refine Gq.one 14 rfl (by kernel_rfl) ?_
    obtain ⟨p83, hp84o⟩ := Own.at ho (i := ((xs.length : Int) - 1 - i)) (by omega) (by first | (simp only [List.length_map]; omega) | (simp; omega))
    refine Sq.atO sl22 hp84o .plain rfl rfl rfl ?_
    refine Sq.nil ?_
    refine Eq.goes (fun h => absurd h (by decide)) ?_
    refine Gq.one 15 rfl (by kernel_rfl) ?_
    refine Sq.storeO one5 ho hp84o .plain rfl rfl rfl (fun w85 g86 ho87 => ?_)
    have hs88 := World.grownBy.size g86
    replace hgo := grown_trans hgo g86
    replace ho := ho87
    refine Sq.nil ?_
    refine Eq.goes (fun h => absurd h (by decide)) ?_
    refine Gq.done (by kernel_rfl) ?_
    refine Eq.end ?_
    refine Eq.next ?_
    refine Cq.region ?_
    refine Sq.move .plain rfl rfl ?_
    refine Sq.add .plain rfl rfl rfl (by omega) ?_
    refine Sq.move .plain rfl rfl ?_
    refine Sq.sub .plain rfl rfl rfl (by omega) ?_
    refine Sq.assign .plain rfl rfl ?_
    refine Sq.assign .plain rfl rfl ?_
    refine Sq.nil ?_
    have e1 := toNat_succ hi.1
    have e2 : (((xs.length : Int) - 1 - i) - 1) = (xs.length : Int) - 1 - (i + 1) := by omega
    have e3 := hr.step (by omega)
    have e4 : ((xs.length : Int) - 1 - i).toNat = xs.length - 1 - i.toNat := by omega
    rw [e2]
    refine Eq.round _ _ ⟨i + 1, _, rfl, by omega, Own.setU2 ho, by rw [e1, e4]; exact e3, hgo, rfl⟩ (by omega) (.cons rfl (.cons rfl (.cons rfl (.nil))))
  refine Sq.nil ?_
  refine Eq.next ?_
  refine Cq.els rfl ?_
  refine Cq.exit ?_
  refine Eq.past ?_
  refine Eq.past ?_
  refine Eq.hit ?_
  refine Eq.fall0 rfl ?_
  exact ⟨rfl, by rw [← hr.done (by omega)]; exact ho, hgo⟩
end Go.Proofs.Ytpnelflmecchlaa
set_option linter.unusedSimpArgs false
set_option linter.unusedVariables false
namespace Go.Proofs.Ytpnelflmecchlaa
open Go.RowKit
set_option maxRecDepth 100000 in
theorem wordAt_c (n al : Int) (hn : 0 ≤ n ∧ n ≤ 1000000) (hal : 0 ≤ al ∧ al ≤ 63) (w0 : World) : Ret Try.prog 7 #[Value.int .i64 n, Value.int .i64 al] w0 (fun v w => (∃ t ok, v = .tuple #[.string t, .bool ok] ∧ WordP (letters al) n.toNat ok t) ∧ Ext w0 w) := by
  have E := Ext.refl w0
  refine Ret.of (args := [Value.int .i64 n, Value.int .i64 al]) Try.func7 rfl rfl rfl ?_
  rintro _ rfl
  show Cq _ _ _ _ [(0, Value.int .i64 n), (1, Value.int .i64 al)] _
  refine Cq.seq ?_
  refine Cq.region ?_
  refine Sq.assign .plain rfl rfl ?_
  refine Sq.assign .plain rfl rfl ?_
  refine Sq.nil ?_
  refine Eq.next ?_
  refine Cq.seq ?_
  refine Cq.seq ?_
  refine Cq.region ?_
  refine Sq.move .plain rfl rfl ?_
  refine Sq.call fn14 .plain rfl rfl (isAlphabet_c _ _) ?_
  rintro _ _ ⟨rfl, rfl⟩
  refine Sq.isT (hal) ?_
  refine Sq.notT .plain rfl rfl ?_
  refine Sq.move .plain rfl rfl ?_
  refine Sq.move (.met rfl rfl rfl) rfl rfl ?_
  refine Sq.lss (.met rfl rfl rfl) rfl rfl rfl ?_
  refine Sq.isF (by omega) ?_
  refine Sq.pickF .plain rfl rfl rfl ?_
  refine Sq.nil ?_
  refine Eq.next ?_
  refine Cq.els rfl ?_
  refine Cq.skip ?_
  refine Eq.next ?_
  refine Cq.seq ?_
  refine Cq.region ?_
  refine Sq.move .plain rfl rfl ?_
  refine Sq.call fn15 .plain rfl rfl (lettersOf_c al (by omega) _) ?_
  rintro v1 w2 ⟨hl4, e3⟩
  have hs5 := Below.size E
  have hs6 := Below.size e3
  replace E := E.trans e3
  refine Sq.assign .plain rfl rfl ?_
  refine Sq.nil ?_
  refine Eq.next ?_
  refine Cq.seq ?_
  refine Cq.region ?_
  refine Sq.assign .plain rfl rfl ?_
  refine Sq.nil ?_
  refine Eq.next ?_
  refine Cq.seq ?_
  refine Cq.block ?_
  refine Cq.loop (fun nn w ls => ∃ (m : Int), ∃ (t : List Int), ∃ (bv : Value), ls = [(0, Value.int .i64 m), (6, v1), (7, bv)] ∧ (0 ≤ m ∧ m ≤ n) ∧ enumW (letters al) n.toNat = enumW (letters al) m.toNat ++ t ∧ (t.length ≤ 7 ∧ (m < n → 0 < (letters al).length)) ∧ Own w w0.heap.size 5 bv ((txb t.reverse).map fun b => Value.int .u8 (b.toNat : Int)) ∧ Ext w0 w ∧ Own w w0.heap.size 3 v1 ((letters al).map (Value.int .i64)) ∧ nn = m.toNat) _ _ ⟨n, [], _, rfl, by omega, by rw [List.append_nil], ⟨by simp, by omega⟩, Own.nil _ _ _, E, hl4, rfl⟩ (.cons rfl (.cons rfl (.cons rfl (.nil)))) ?_
  rintro nn wl1 ls ⟨m, t, bv, rfl, hm, ht, hpos, ho, E, hl4, rfl⟩
  have hs7 := Below.size E
  have htx : (txb t.reverse).length = t.length := by simp [txb]
  have hlet := letters_len6 al
  refine Cq.seq ?_
  refine Cq.seq ?_
  refine Cq.region ?_
  refine Sq.move .plain rfl rfl ?_
  refine Sq.gtr .plain rfl rfl rfl ?_
  refine Sq.part (fun c8 => ?_) (fun c8 => ?_)
  · refine Sq.nil ?_
    refine Eq.next ?_
    refine Cq.thn rfl ?_
    refine Cq.skip ?_
    refine Eq.next ?_
    refine Cq.block ?_
    refine Cq.seq ?_
    refine Cq.seq ?_
    refine Cq.region ?_
    refine Sq.move .plain rfl rfl ?_
    refine Sq.lenInts (Own.row hl4) .plain rfl und38 rfl ?_
    refine Sq.eql .plain rfl rfl rfl ?_
    refine Sq.part (fun hz => ?_) (fun hz => ?_)
    · refine Sq.move .plain rfl rfl ?_
      refine Sq.off rfl rfl rfl rfl rfl rfl ?_
      refine Sq.off rfl rfl rfl rfl rfl rfl ?_
      refine Sq.off rfl rfl rfl rfl rfl rfl ?_
      refine Sq.pickT .plain rfl rfl rfl ?_
      refine Sq.nil ?_
      refine Eq.next ?_
      refine Cq.thn rfl ?_
      refine Cq.seq ?_
      refine Cq.region ?_
      refine Sq.assign .plain rfl rfl ?_
      refine Sq.assign .plain rfl rfl ?_
      refine Sq.nil ?_
      refine Eq.next ?_
      refine Cq.ret ?_
      refine Eq.pastRet ?_
      refine Eq.outRet ?_
      refine Eq.pastRet ?_
      refine Eq.outRet ?_
      refine Eq.pastRet ?_
      refine Eq.ret2 rfl rfl rfl ?_
      exact ⟨⟨_, _, rfl, fun h => by (cases h), fun _ => ⟨by omega, by first | exact .inl (by omega) | exact .inr (by rw [ht, List.length_append]; have := enumW_pos (letters al) (m := m.toNat) (by omega); omega)⟩⟩, E⟩
    refine Sq.move .plain rfl rfl ?_
    refine Sq.move (.met rfl rfl rfl) rfl rfl ?_
    refine Sq.lenBytes (Own.row ho) (.met rfl rfl rfl) rfl und22 rfl ?_
    refine Sq.eql (.met rfl rfl rfl) rfl rfl rfl ?_
    refine Sq.part (fun h7 => ?_) (fun h7 => ?_)
    · refine Sq.pickF .plain rfl rfl rfl ?_
      refine Sq.nil ?_
      refine Eq.next ?_
      refine Cq.thn rfl ?_
      refine Cq.seq ?_
      refine Cq.region ?_
      refine Sq.assign .plain rfl rfl ?_
      refine Sq.assign .plain rfl rfl ?_
      refine Sq.nil ?_
      refine Eq.next ?_
      refine Cq.ret ?_
      refine Eq.pastRet ?_
      refine Eq.outRet ?_
      refine Eq.pastRet ?_
      refine Eq.outRet ?_
      refine Eq.pastRet ?_
      refine Eq.ret2 rfl rfl rfl ?_
      exact ⟨⟨_, _, rfl, fun h => by (cases h), fun _ => ⟨by omega, by first | exact .inl (by omega) | exact .inr (by rw [ht, List.length_append]; have := enumW_pos (letters al) (m := m.toNat) (by omega); omega)⟩⟩, E⟩
    refine Sq.pickF .plain rfl rfl rfl ?_
    refine Sq.nil ?_
    refine Eq.next ?_
    refine Cq.els rfl ?_
    refine Cq.skip ?_
    refine Eq.next ?_
    refine Cq.seq ?_
    refine Cq.region ?_
    refine Sq.move .plain rfl rfl ?_
    refine Sq.sub .plain rfl rfl rfl (by omega) ?_
    refine Sq.assign .plain rfl rfl ?_
    refine Sq.nil ?_
    refine Eq.next ?_
    refine Cq.seq ?_
    refine Cq.region ?_
    have hrm := int_rem_in (m := m - 1) (k := List.length (letters al)) (by omega)
    have hdv := int_div_in (m := m - 1) (k := List.length (letters al)) (by omega)
    refine Sq.move .plain rfl rfl ?_
    refine Sq.move .plain rfl rfl ?_
    refine Sq.move .plain rfl rfl ?_
    refine Sq.move .plain rfl rfl ?_
    refine Sq.lenInts (Own.row hl4) .plain rfl und38 rfl ?_
    refine Sq.rem .plain rfl rfl rfl (by omega) ?_
    refine Sq.idxInts sl38 one3 (Own.row hl4) .plain rfl rfl rfl .plain rfl rfl (by omega) (by omega) ?_
    refine Sq.call fn16 .plain rfl rfl (letterByte_c ((letters al).getD ((m - 1) % ((List.length (letters al) : Int))).toNat 0) (by (have := letters_at al (k := ((m - 1) % (List.length (letters al) : Int)).toNat) (by omega); omega)) _) ?_
    rintro _ _ ⟨rfl, rfl⟩
    refine Sq.app1 sl22 ho (by omega) (by first | omega | (rw [List.length_map]; omega)) .plain rfl rfl rfl rfl rfl rfl rfl (fun v9 w10 ho12 g11 _ => ?_)
    have hs13 := g11.size
    replace E := E.owned ho g11 (by omega)
    replace hl4 := hl4.owned ho g11 (by decide)
    refine Sq.assign .plain rfl rfl ?_
    refine Sq.nil ?_
    refine Eq.next ?_
    refine Cq.region ?_
    refine Sq.move .plain rfl rfl ?_
    refine Sq.move .plain rfl rfl ?_
    refine Sq.lenInts (Own.row hl4) .plain rfl und38 rfl ?_
    refine Sq.quo .plain rfl rfl rfl (by omega) ?_
    refine Sq.assign .plain rfl rfl ?_
    refine Sq.nil ?_
    refine Eq.end ?_
    refine Eq.round _ _ ⟨_, (letters al).getD ((m - 1) % (List.length (letters al) : Int)).toNat 0 :: t, _, rfl, by omega, by rw [ht, enumW_step (letters al) (by omega), List.append_assoc]; rfl, ⟨by rw [List.length_cons]; omega, fun _ => by omega⟩, Own.snocT ho12 (by have := letters_at al (k := ((m - 1) % (List.length (letters al) : Int)).toNat) (by omega); omega), E, hl4, rfl⟩ (by omega) (.cons rfl (.cons rfl (.cons rfl (.nil))))
  refine Sq.nil ?_
  refine Eq.next ?_
  refine Cq.els rfl ?_
  refine Cq.exit ?_
  refine Eq.past ?_
  refine Eq.past ?_
  refine Eq.hit ?_
  refine Eq.next ?_
  refine Cq.seq ?_
  refine Cq.region ?_
  refine Sq.move .plain rfl rfl ?_
  refine Sq.call fn17 .plain rfl rfl (reverse_c _ _ _ _ ho (by omega)) ?_
  rintro _ w14 ⟨rfl, ho16, g15⟩
  have hs17 := World.grownBy.size g15
  replace E := E.owned ho g15 (by omega)
  replace ho := ho16
  refine Sq.nil ?_
  refine Eq.next ?_
  refine Cq.seq ?_
  refine Cq.region ?_
  refine Sq.move .plain rfl rfl ?_
  refine Sq.val .plain rfl rfl (Still.text und22 und8_22 und9 (Own.row ho) rfl) ?_
  refine Sq.assign .plain rfl rfl ?_
  refine Sq.assign .plain rfl rfl ?_
  refine Sq.nil ?_
  refine Eq.next ?_
  refine Cq.ret ?_
  refine Eq.ret2 rfl rfl rfl ?_
  have hm0 : m.toNat = 0 := by omega
  rw [hm0, enumW_zero, List.nil_append] at ht
  exact ⟨⟨_, _, rfl, fun _ => ⟨by rw [ht, txb_rev]; rfl, by rw [ht]; omega, by omega⟩, fun h => by (cases h)⟩, E⟩
end Go.Proofs.Ytpnelflmecchlaa
set_option linter.unusedSimpArgs false
set_option linter.unusedVariables false
namespace Go.Proofs.Ytpnelflmecchlaa
open Go.RowKit
set_option maxRecDepth 100000 in
theorem l3Copy_c (w0 : World) (a : A) (nx ac : Value) (hnx : Rows w0 38 3 nx a.next) (hac : Bools w0 4 ac a.acc) (hf : Fit a) : Ret Try.prog 30 #[Value.agg #[Value.int .i64 a.al, nx, ac]] w0 (fun v w => OwnA w w0.heap.size v a ∧ Ext w0 w) := by
  have E := Ext.refl w0
  refine Ret.of (args := [Value.agg #[Value.int .i64 a.al, nx, ac]]) Try.func30 rfl rfl rfl ?_
  rintro _ rfl
  show Cq _ _ _ _ [(0, Value.agg #[Value.int .i64 a.al, nx, ac])] _
  refine Cq.seq ?_
  refine Cq.region ?_
  refine Sq.box .plain rfl rfl (fun b1 w2 e3 hB4 hlo5 => ?_)
  have hd6 := Nat.le_trans (Below.size E) hlo5
  have hs7 := Below.size e3
  replace E := E.trans e3
  refine Sq.alloc zero26 .plain rfl (fun b8 w9 e10 hB11 hlo12 => ?_)
  have hd13 := Nat.le_trans (Below.size E) hlo12
  have hd14 := Nat.lt_of_lt_of_le hB4.lt hlo12
  have hs15 := Below.size e10
  replace E := E.trans e10
  replace hB4 := hB4.ext e10
  refine Sq.nil ?_
  refine Eq.next ?_
  refine Cq.seq ?_
  refine Cq.cut (fun ls w => ∃ (b3 : Nat), ∃ (ac3 : Value), ls = [(1, Value.pointer (some ⟨b1, 0, none⟩)), (2, Value.pointer (some ⟨b8, 0, none⟩)), (3, Value.pointer (some ⟨b3, 0, none⟩))] ∧ Blk w b3 26 [Value.int .i64 a.al, Value.slice none 0 0, ac3] ∧ (w0.heap.size ≤ b3 ∧ b1 < b3 ∧ b8 < b3) ∧ Own w w0.heap.size 4 ac3 (a.acc.map Value.bool) ∧ Ext w0 w ∧ Blk w b1 26 [Value.int .i64 a.al, nx, ac] ∧ Blk w b8 26 [Value.int .i64 0, Value.slice none 0 0, Value.slice none 0 0]) ?_ ?_
  · refine Cq.draw 8 none mixed (fun w16 e17 => ?_)
    have hs18 := Below.size e17
    replace E := E.trans e17
    replace hB4 := hB4.ext e17
    replace hB11 := hB11.ext e17
    have hB4_w16 := hB4
    refine Gq.st 0 rfl (by kernel_rfl) rfl .plain rfl (fun _ _ _ h => h) (World.grownBy.refl w16 _) (fun w' x => Still.fieldAddr fld26_0 rfl) ?_
    refine Gq.st 1 rfl (by kernel_rfl) rfl .plain rfl (fun _ _ _ h => h) (World.grownBy.refl w16 _) (fun w' x => Still.loadB one3 rfl (hB4_w16.ext (Ext.of_grown x)) rfl) ?_
    refine Gq.st 3 rfl (by kernel_rfl) rfl .plain rfl (fun _ _ _ h => h) (World.grownBy.refl w16 _) (fun w' x => Still.fieldAddr fld26_2 rfl) ?_
    refine Gq.st 4 rfl (by kernel_rfl) rfl .plain rfl (fun _ _ _ h => h) (World.grownBy.refl w16 _) (fun w' x => Still.loadB one24 rfl (hB4_w16.ext (Ext.of_grown x)) rfl) ?_
    refine Gq.two 2 7 rfl rfl (by kernel_rfl) ?_ ?_
    · refine Sq.lit sl24 rfl rfl .plain rfl rfl one_nil (fun b19 w20 e21 hlo22 ho23 _ => ?_)
      replace ho23 := ho23 w16.heap.size (Nat.le_refl _)
      have hs25 := Below.size e21
      replace E := E.trans e21
      replace hB4 := hB4.ext e21
      replace hB11 := hB11.ext e21
      refine Sq.nil ?_
      refine Eq.goes (fun _ => (grown_trans (World.grownBy.refl w16 _) (Ext.to_grown e21 _))) ?_
      refine Gq.two 5 7 rfl rfl (by kernel_rfl) ?_ ?_
      · refine Sq.app sl24 ho23 (by omega) (hac.ext E) (one_bools _) (by rw [List.length_map]; simp only [List.length_nil, Nat.zero_add]; first | (have := hf.acc; omega) | omega) .plain rfl rfl rfl rfl (fun v26 w27 ho29 g28 => ?_)
        have hs30 := g28.size
        replace E := E.owned ho23 g28 (by omega)
        replace hB4 := hB4.owned ho23 g28 (by decide)
        replace hB11 := hB11.owned ho23 g28 (by decide)
        simp only [List.nil_append] at ho29
        refine Sq.nil ?_
        refine Eq.goes (fun _ => (grown_new (grown_trans (World.grownBy.refl w16 _) (Ext.to_grown e21 _)) ho23 g28 (by omega))) ?_
        refine Gq.st 6 rfl (by kernel_rfl) rfl .plain rfl (fun _ _ _ h => h) (grown_new (grown_trans (World.grownBy.refl w16 _) (Ext.to_grown e21 _)) ho23 g28 (by omega)) (fun w' x => Still.build st26 rfl rfl rfl (one_cons rfl (one_cons (Row.one (Own.row ho29)) one_nil)) rfl) ?_
        refine Gq.one 7 rfl (by kernel_rfl) ?_
        refine Sq.alloc zero26 .plain rfl (fun b31 w32 e33 hB34 hlo35 => ?_)
        have hd36 := Nat.le_trans (Below.size E) hlo35
        have hd37 := Nat.lt_of_lt_of_le hB4.lt hlo35
        have hd38 := Nat.lt_of_lt_of_le hB11.lt hlo35
        have hs39 := Below.size e33
        replace E := E.trans e33
        replace hB4 := hB4.ext e33
        replace hB11 := hB11.ext e33
        replace ho29 := ho29.ext e33
        refine Sq.nil ?_
        refine Eq.goes (fun _ => (grown_trans (grown_new (grown_trans (World.grownBy.refl w16 _) (Ext.to_grown e21 _)) ho23 g28 (by omega)) (Ext.to_grown e33 _))) ?_
        refine Gq.one 8 rfl (by kernel_rfl) ?_
        refine Sq.storeAgg agg26 .plain rfl rfl (one_cons rfl (one_cons rfl (one_cons (Row.one (Own.row ho29)) one_nil))) hB34 rfl rfl (fun w40 g41 hB42 => ?_)
        have hs43 := World.grownBy.size g41
        replace E := E.grown g41 (fun k hk => by injection hk with hk; subst hk; omega)
        replace hB4 := hB4.grown g41 (by intro h; injection h with h; omega)
        replace hB11 := hB11.grown g41 (by intro h; injection h with h; omega)
        replace ho29 := ho29.stored g41 hB34 (by decide)
        replace hB34 := hB42
        refine Sq.nil ?_
        refine Eq.goes (fun h => absurd h (by decide)) ?_
        refine Gq.done (by kernel_rfl) ?_
        refine Eq.left _ ⟨b31, v26, rfl, hB34, by omega, Own.mono ho29 (by omega), E, hB4, hB11⟩ (.cons rfl (.cons rfl (.cons rfl (.nil))))
      refine Sq.alloc zero26 .plain rfl (fun b44 w45 e46 hB47 hlo48 => ?_)
      have hd49 := Nat.le_trans (Below.size E) hlo48
      have hd50 := Nat.lt_of_lt_of_le hB4.lt hlo48
      have hd51 := Nat.lt_of_lt_of_le hB11.lt hlo48
      have hs52 := Below.size e46
      replace E := E.trans e46
      replace hB4 := hB4.ext e46
      replace hB11 := hB11.ext e46
      replace ho23 := ho23.ext e46
      refine Sq.nil ?_
      refine Eq.goes (fun _ => (grown_trans (grown_trans (World.grownBy.refl w16 _) (Ext.to_grown e21 _)) (Ext.to_grown e46 _))) ?_
      refine Gq.one 5 rfl (by kernel_rfl) ?_
      refine Sq.app sl24 ho23 (by omega) (hac.ext E) (one_bools _) (by rw [List.length_map]; simp only [List.length_nil, Nat.zero_add]; first | (have := hf.acc; omega) | omega) .plain rfl rfl rfl rfl (fun v53 w54 ho56 g55 => ?_)
      have hs57 := g55.size
      replace E := E.owned ho23 g55 (by omega)
      replace hB4 := hB4.owned ho23 g55 (by decide)
      replace hB11 := hB11.owned ho23 g55 (by decide)
      replace hB47 := hB47.owned ho23 g55 (by decide)
      simp only [List.nil_append] at ho56
      refine Sq.nil ?_
      refine Eq.goes (fun _ => (grown_new (grown_trans (grown_trans (World.grownBy.refl w16 _) (Ext.to_grown e21 _)) (Ext.to_grown e46 _)) ho23 g55 (by omega))) ?_
      refine Gq.st 6 rfl (by kernel_rfl) rfl .plain rfl (fun _ _ _ h => h) (grown_new (grown_trans (grown_trans (World.grownBy.refl w16 _) (Ext.to_grown e21 _)) (Ext.to_grown e46 _)) ho23 g55 (by omega)) (fun w' x => Still.build st26 rfl rfl rfl (one_cons rfl (one_cons (Row.one (Own.row ho56)) one_nil)) rfl) ?_
      refine Gq.one 8 rfl (by kernel_rfl) ?_
      refine Sq.storeAgg agg26 .plain rfl rfl (one_cons rfl (one_cons rfl (one_cons (Row.one (Own.row ho56)) one_nil))) hB47 rfl rfl (fun w58 g59 hB60 => ?_)
      have hs61 := World.grownBy.size g59
      replace E := E.grown g59 (fun k hk => by injection hk with hk; subst hk; omega)
      replace hB4 := hB4.grown g59 (by intro h; injection h with h; omega)
      replace hB11 := hB11.grown g59 (by intro h; injection h with h; omega)
      replace ho56 := ho56.stored g59 hB47 (by decide)
      replace hB47 := hB60
      refine Sq.nil ?_
      refine Eq.goes (fun h => absurd h (by decide)) ?_
      refine Gq.done (by kernel_rfl) ?_
      refine Eq.left _ ⟨b44, v53, rfl, hB47, by omega, Own.mono ho56 (by omega), E, hB4, hB11⟩ (.cons rfl (.cons rfl (.cons rfl (.nil))))
    refine Sq.alloc zero26 .plain rfl (fun b62 w63 e64 hB65 hlo66 => ?_)
    have hd67 := Nat.le_trans (Below.size E) hlo66
    have hd68 := Nat.lt_of_lt_of_le hB4.lt hlo66
    have hd69 := Nat.lt_of_lt_of_le hB11.lt hlo66
    have hs70 := Below.size e64
    replace E := E.trans e64
    replace hB4 := hB4.ext e64
    replace hB11 := hB11.ext e64
    refine Sq.nil ?_
    refine Eq.goes (fun _ => (grown_trans (World.grownBy.refl w16 _) (Ext.to_grown e64 _))) ?_
    refine Gq.one 2 rfl (by kernel_rfl) ?_
    refine Sq.lit sl24 rfl rfl .plain rfl rfl one_nil (fun b71 w72 e73 hlo74 ho75 _ => ?_)
    replace ho75 := ho75 w63.heap.size (Nat.le_refl _)
    have hs77 := Below.size e73
    replace E := E.trans e73
    replace hB4 := hB4.ext e73
    replace hB11 := hB11.ext e73
    replace hB65 := hB65.ext e73
    refine Sq.nil ?_
    refine Eq.goes (fun _ => (grown_trans (grown_trans (World.grownBy.refl w16 _) (Ext.to_grown e64 _)) (Ext.to_grown e73 _))) ?_
    refine Gq.one 5 rfl (by kernel_rfl) ?_
    refine Sq.app sl24 ho75 (by omega) (hac.ext E) (one_bools _) (by rw [List.length_map]; simp only [List.length_nil, Nat.zero_add]; first | (have := hf.acc; omega) | omega) .plain rfl rfl rfl rfl (fun v78 w79 ho81 g80 => ?_)
    have hs82 := g80.size
    replace E := E.owned ho75 g80 (by omega)
    replace hB4 := hB4.owned ho75 g80 (by decide)
    replace hB11 := hB11.owned ho75 g80 (by decide)
    replace hB65 := hB65.owned ho75 g80 (by decide)
    simp only [List.nil_append] at ho81
    refine Sq.nil ?_
    refine Eq.goes (fun _ => (grown_new (grown_trans (grown_trans (World.grownBy.refl w16 _) (Ext.to_grown e64 _)) (Ext.to_grown e73 _)) ho75 g80 (by omega))) ?_
    refine Gq.st 6 rfl (by kernel_rfl) rfl .plain rfl (fun _ _ _ h => h) (grown_new (grown_trans (grown_trans (World.grownBy.refl w16 _) (Ext.to_grown e64 _)) (Ext.to_grown e73 _)) ho75 g80 (by omega)) (fun w' x => Still.build st26 rfl rfl rfl (one_cons rfl (one_cons (Row.one (Own.row ho81)) one_nil)) rfl) ?_
    refine Gq.one 8 rfl (by kernel_rfl) ?_
    refine Sq.storeAgg agg26 .plain rfl rfl (one_cons rfl (one_cons rfl (one_cons (Row.one (Own.row ho81)) one_nil))) hB65 rfl rfl (fun w83 g84 hB85 => ?_)
    have hs86 := World.grownBy.size g84
    replace E := E.grown g84 (fun k hk => by injection hk with hk; subst hk; omega)
    replace hB4 := hB4.grown g84 (by intro h; injection h with h; omega)
    replace hB11 := hB11.grown g84 (by intro h; injection h with h; omega)
    replace ho81 := ho81.stored g84 hB65 (by decide)
    replace hB65 := hB85
    refine Sq.nil ?_
    refine Eq.goes (fun h => absurd h (by decide)) ?_
    refine Gq.done (by kernel_rfl) ?_
    refine Eq.left _ ⟨b62, v78, rfl, hB65, by omega, Own.mono ho81 (by omega), E, hB4, hB11⟩ (.cons rfl (.cons rfl (.cons rfl (.nil))))
  rintro ls wc1 ⟨b3, ac3, rfl, hB3, hb3, hoc, E, hB4, hB11⟩
  have hs87 := Below.size E
  refine Eq.next ?_
  refine Cq.seq ?_
  refine Cq.seq ?_
  refine Cq.region ?_
  refine Sq.assign .plain rfl rfl ?_
  refine Sq.nil ?_
  refine Eq.next ?_
  refine Cq.block ?_
  refine Cq.loop (fun nn w ls => ∃ (k : Int), ∃ (v : Value), ls = [(1, Value.pointer (some ⟨b1, 0, none⟩)), (2, Value.pointer (some ⟨b8, 0, none⟩)), (3, Value.pointer (some ⟨b3, 0, none⟩)), (4, Value.int .i64 k)] ∧ (0 ≤ k ∧ k ≤ a.next.length) ∧ Blk w b3 26 [Value.int .i64 a.al, v, ac3] ∧ OwnRows w w0.heap.size w.heap.size 38 3 v (a.next.take k.toNat) ∧ Ext w0 w ∧ Blk w b1 26 [Value.int .i64 a.al, nx, ac] ∧ Blk w b8 26 [Value.int .i64 0, Value.slice none 0 0, Value.slice none 0 0] ∧ Own w w0.heap.size 4 ac3 (a.acc.map Value.bool) ∧ nn = ((a.next.length : Int) - k).toNat) _ _ ⟨0, _, rfl, by omega, hB3, OwnRows.nil _ _ _ _ _, E, hB4, hB11, hoc, rfl⟩ (.cons rfl (.cons rfl (.cons rfl (.cons rfl (.nil))))) ?_
  rintro nn wl1 ls ⟨k, v, rfl, hk, hB3, hor, E, hB4, hB11, hoc, rfl⟩
  have hs88 := Below.size E
  have hn := hf.2.1
  have hro := Fit.row hf (k := k.toNat)
  refine Cq.seq ?_
  refine Cq.seq ?_
  refine Cq.region ?_
  refine Sq.move .plain rfl rfl ?_
  refine Sq.fieldAddr fld26_1 .plain rfl rfl ?_
  refine Sq.loadB one23 .plain rfl rfl hB4 rfl ?_
  refine Sq.lenRows (hnx.ext E) .plain rfl und23 rfl ?_
  refine Sq.lss .plain rfl rfl rfl ?_
  refine Sq.part (fun c89 => ?_) (fun c89 => ?_)
  · refine Sq.nil ?_
    refine Eq.next ?_
    refine Cq.thn rfl ?_
    refine Cq.skip ?_
    refine Eq.next ?_
    refine Cq.seq ?_
    refine Cq.block ?_
    refine Cq.draw 11 (Value.ownBlock v) mixed (fun w90 e91 => ?_)
    have hs92 := Below.size e91
    replace E := E.trans e91
    replace hB4 := hB4.ext e91
    replace hB11 := hB11.ext e91
    replace hoc := hoc.ext e91
    replace hB3 := hB3.ext e91
    replace hor := hor.ext e91
    have E_w90 := E
    have hB4_w90 := hB4
    have hB3_w90 := hB3
    have hor_w90 := hor
    obtain ⟨_, hor_w90q, _, _⟩ := OwnRows.open hor_w90 (by decide)
    refine Gq.st 0 rfl (by kernel_rfl) rfl .plain rfl (fun _ _ _ h => h) (World.grownBy.refl w90 _) (fun w' x => Still.fieldAddr fld26_1 rfl) ?_
    refine Gq.st 1 rfl (by kernel_rfl) rfl .plain rfl (fun _ _ _ h => h) (World.grownBy.refl w90 _) (fun w' x => Still.loadB one23 rfl (hB3_w90.owned hor_w90q x (by decide)) rfl) ?_
    refine Gq.st 3 rfl (by kernel_rfl) rfl .plain rfl (fun _ _ _ h => h) (World.grownBy.refl w90 _) (fun w' x => Still.fieldAddr fld26_1 rfl) ?_
    refine Gq.st 4 rfl (by kernel_rfl) rfl .plain rfl (fun _ _ _ h => h) (World.grownBy.refl w90 _) (fun w' x => Still.loadB one23 rfl (hB4_w90.owned hor_w90q x (by decide)) rfl) ?_
    refine Gq.st 5 rfl (by kernel_rfl) rfl .plain rfl (fun _ _ _ h => h) (World.grownBy.refl w90 _) (fun w' x => Still.move rfl) ?_
    obtain ⟨p93, r95, hp94_w90, hr96⟩ := Rows.at hnx (i := k) (by omega) (by omega)
    refine Gq.st 6 rfl (by kernel_rfl) rfl .plain rfl (fun _ _ _ h => h) (World.grownBy.refl w90 _) (fun w' x => Still.at' sl23 hp94_w90 rfl rfl) ?_
    refine Gq.st 7 rfl (by kernel_rfl) rfl .plain rfl (fun _ _ _ h => h) (World.grownBy.refl w90 _) (fun w' x => Still.loadA one38 rfl (hp94_w90.ext (E_w90.owned hor_w90q x (by omega))).1) ?_
    refine Gq.one 2 rfl (by kernel_rfl) ?_
    refine Sq.lit sl38 rfl rfl .plain rfl rfl one_nil (fun b97 w98 e99 hlo100 ho101 _ => ?_)
    replace ho101 := ho101 w90.heap.size (Nat.le_refl _)
    have hs103 := Below.size e99
    replace E := E.trans e99
    replace hB4 := hB4.ext e99
    replace hB11 := hB11.ext e99
    replace hoc := hoc.ext e99
    replace hB3 := hB3.ext e99
    replace hor := hor.ext e99
    refine Sq.nil ?_
    refine Eq.goes (fun _ => (grown_trans (World.grownBy.refl w90 _) (Ext.to_grown e99 _))) ?_
    refine Gq.one 8 rfl (by kernel_rfl) ?_
    refine Sq.app sl38 ho101 (by omega) (hr96.ext E) (one_ints _) (by rw [List.length_map]; simp only [List.length_nil, Nat.zero_add]; first | (have := hf.acc; omega) | omega) .plain rfl rfl rfl rfl (fun v104 w105 ho107 g106 => ?_)
    have hs108 := g106.size
    replace E := E.owned ho101 g106 (by omega)
    replace hB4 := hB4.owned ho101 g106 (by decide)
    replace hB11 := hB11.owned ho101 g106 (by decide)
    replace hoc := hoc.owned ho101 g106 (by decide)
    replace hB3 := hB3.owned ho101 g106 (by decide)
    replace hor := hor.apart ho101 g106 (by omega) (by decide)
    simp only [List.nil_append] at ho107
    refine Sq.nil ?_
    refine Eq.goes (fun _ => (grown_new (grown_trans (World.grownBy.refl w90 _) (Ext.to_grown e99 _)) ho101 g106 (by omega))) ?_
    refine Gq.one 9 rfl (by kernel_rfl) ?_
    refine Sq.lit sl23 rfl rfl .plain rfl rfl (one_cons (Row.one (Own.row ho107)) one_nil) (fun b109 w110 e111 hlo112 ho113 _ => ?_)
    replace ho113 := ho113 w105.heap.size (Nat.le_refl _)
    have hs115 := Below.size e111
    replace E := E.trans e111
    replace hB4 := hB4.ext e111
    replace hB11 := hB11.ext e111
    replace hoc := hoc.ext e111
    replace hB3 := hB3.ext e111
    replace hor := hor.ext e111
    replace ho107 := ho107.ext e111
    refine Sq.nil ?_
    refine Eq.goes (fun _ => (grown_trans (grown_new (grown_trans (World.grownBy.refl w90 _) (Ext.to_grown e99 _)) ho101 g106 (by omega)) (Ext.to_grown e111 _))) ?_
    refine Gq.one 10 rfl (by kernel_rfl) ?_
    obtain ⟨rs120, q121, q122, q123⟩ := OwnRows.open hor (by decide)
    have q123x := Ext.refl w110
    refine Sq.app sl23 q121 (by omega) (Own.row ho113) (one_cons (Row.one (Own.row ho107)) one_nil) (by rw [q122]; simp; omega) .plain rfl rfl rfl rfl (fun v116 w117 ho119 g118 => ?_)
    have hs124 := g118.size
    have ho119r := q123 _ (a.next.getD k.toNat []) _ _ _ (Ext.refl _) (Own.mono ho107 (by omega)) (by omega) ho119 g118
    replace E := E.owned q121 g118 (by omega)
    replace hB4 := hB4.owned q121 g118 (by decide)
    replace hB11 := hB11.owned q121 g118 (by decide)
    replace hoc := hoc.owned q121 g118 (by decide)
    replace hB3 := hB3.owned q121 g118 (by decide)
    refine Sq.nil ?_
    refine Eq.goes (fun _ => (grown_trans (grown_trans (grown_new (grown_trans (World.grownBy.refl w90 _) (Ext.to_grown e99 _)) ho101 g106 (by omega)) (Ext.to_grown e111 _)) g118)) ?_
    refine Gq.one 11 rfl (by kernel_rfl) ?_
    refine Sq.fieldAddr fld26_1 .plain rfl rfl ?_
    refine Sq.nil ?_
    refine Eq.goes (fun h => absurd h (by decide)) ?_
    refine Gq.one 12 rfl (by kernel_rfl) ?_
    refine Sq.store one23 .plain rfl rfl (Rows.one (OwnRows.rows ho119r)) hB3 (by simp) (fun w125 g126 hB127 => ?_)
    have hs128 := World.grownBy.size g126
    replace E := E.grown g126 (fun k hk => by injection hk with hk; subst hk; omega)
    replace hB4 := hB4.grown g126 (by intro h; injection h with h; omega)
    replace hB11 := hB11.grown g126 (by intro h; injection h with h; omega)
    replace hoc := hoc.stored g126 hB3 (by decide)
    replace ho119r := ho119r.stored g126 hB3 (by decide) (by decide)
    replace hB3 := hB127
    refine Sq.nil ?_
    refine Eq.goes (fun h => absurd h (by decide)) ?_
    refine Gq.done (by kernel_rfl) ?_
    refine Eq.end ?_
    refine Eq.next ?_
    refine Cq.region ?_
    refine Sq.move .plain rfl rfl ?_
    refine Sq.add .plain rfl rfl rfl (by omega) ?_
    refine Sq.assign .plain rfl rfl ?_
    refine Sq.nil ?_
    have e1 := toNat_succ hk.1
    refine Eq.round _ _ ⟨k + 1, _, rfl, by omega, hB3, by rw [e1, take_snoc [] (by omega)]; exact OwnRows.now ho119r, E, hB4, hB11, hoc, rfl⟩ (by omega) (.cons rfl (.cons rfl (.cons rfl (.cons rfl (.nil)))))
  refine Sq.nil ?_
  refine Eq.next ?_
  refine Cq.els rfl ?_
  refine Cq.exit ?_
  refine Eq.past ?_
  refine Eq.past ?_
  refine Eq.hit ?_
  refine Eq.next ?_
  refine Cq.seq ?_
  refine Cq.region ?_
  refine Sq.loadAgg agg26 .plain rfl rfl hB3 rfl ?_
  refine Sq.storeAgg agg26 .plain rfl rfl (one_cons rfl (one_cons (Rows.one (OwnRows.rows hor)) (one_cons (Row.one (Own.row hoc)) one_nil))) hB11 rfl rfl (fun w129 g130 hB131 => ?_)
  have hs132 := World.grownBy.size g130
  replace E := E.grown g130 (fun k hk => by injection hk with hk; subst hk; omega)
  replace hoc := hoc.stored g130 hB11 (by decide)
  replace hor := hor.stored g130 hB11 (by decide) (by decide)
  replace hB11 := hB131
  refine Sq.nil ?_
  refine Eq.next ?_
  refine Cq.ret ?_
  refine Eq.retCell rfl rfl agg26 hB11 rfl ?_
  have e : a.next.take k.toNat = a.next := List.take_of_length_le (by omega)
  rw [e] at hor
  exact ⟨⟨v, ac3, rfl, OwnRows.now hor, hoc⟩, E⟩
end Go.Proofs.Ytpnelflmecchlaa
set_option linter.unusedSimpArgs false
set_option linter.unusedVariables false
namespace Go.Proofs.Ytpnelflmecchlaa
open Go.RowKit
set_option maxRecDepth 100000 in
theorem pick_c (w0 : World) (rb : Nat) (bv : Value) (p : Int) (bs : List UInt8) (e0 : TypeId) (hR : Blk w0 rb 46 [bv, .int .i64 p]) (hb : Src w0 e0 bv bs rb) (hbl : bs.length ≤ 2000) (hp : 0 ≤ p ∧ p ≤ 1000000000) (n : Int) (hn : n ≤ 1000000000) : Ret Try.prog 19 #[Value.pointer (some ⟨rb, 0, none⟩), Value.int .i64 n] w0 (fun v w => (∃ p', (p ≤ p' ∧ p' ≤ p + 1) ∧ Blk w rb 46 [bv, .int .i64 p'] ∧ w0.grownBy w (some rb)) ∧ ∃ k, v = .int .i64 k ∧ 0 ≤ k ∧ (1 ≤ n → k < n) ∧ (n < 1 → k = 0)) := by
  have G := World.grownBy.refl w0 (some rb)
  have hlt := hR.lt
  refine Ret.of (args := [Value.pointer (some ⟨rb, 0, none⟩), Value.int .i64 n]) Try.func19 rfl rfl rfl ?_
  rintro _ rfl
  show Cq _ _ _ _ [(0, Value.pointer (some ⟨rb, 0, none⟩)), (1, Value.int .i64 n)] _
  refine Cq.seq ?_
  refine Cq.region ?_
  refine Sq.assign .plain rfl rfl ?_
  refine Sq.nil ?_
  refine Eq.next ?_
  refine Cq.seq ?_
  refine Cq.region ?_
  refine Sq.move .plain rfl rfl ?_
  refine Sq.move .plain rfl rfl ?_
  refine Sq.nilCheck .plain rfl rfl ?_
  refine Sq.fieldAddr fld46_1 .plain rfl rfl ?_
  refine Sq.loadB one3 .plain rfl rfl hR rfl ?_
  refine Sq.add .plain rfl rfl rfl (by omega) ?_
  refine Sq.nilCheck .plain rfl rfl ?_
  refine Sq.fieldAddr fld46_1 .plain rfl rfl ?_
  refine Sq.store one3 .plain rfl rfl rfl hR (by simp) (fun w1 g2 hB3 => ?_)
  have hs4 := World.grownBy.size g2
  replace G := grown_trans G g2
  replace hR := hB3
  refine Sq.nil ?_
  refine Eq.next ?_
  refine Cq.seq ?_
  refine Cq.seq ?_
  refine Cq.region ?_
  refine Sq.move .plain rfl rfl ?_
  refine Sq.lss .plain rfl rfl rfl ?_
  refine Sq.part (fun c5 => ?_) (fun c5 => ?_)
  · refine Sq.move .plain rfl rfl ?_
    refine Sq.off rfl rfl rfl rfl rfl rfl ?_
    refine Sq.off rfl rfl rfl rfl rfl rfl ?_
    refine Sq.off rfl rfl rfl rfl rfl rfl ?_
    refine Sq.off rfl rfl rfl rfl rfl rfl ?_
    refine Sq.off rfl rfl rfl rfl rfl rfl ?_
    refine Sq.off rfl rfl rfl rfl rfl rfl ?_
    refine Sq.pickT .plain rfl rfl rfl ?_
    refine Sq.nil ?_
    refine Eq.next ?_
    refine Cq.thn rfl ?_
    refine Cq.seq ?_
    refine Cq.region ?_
    refine Sq.assign .plain rfl rfl ?_
    refine Sq.nil ?_
    refine Eq.next ?_
    refine Cq.ret ?_
    refine Eq.pastRet ?_
    refine Eq.ret1 rfl rfl ?_
    exact ⟨⟨_, by omega, hR, G⟩, _, rfl, by first | omega | exact rem_ok _ (by omega)⟩
  refine Sq.move .plain rfl rfl ?_
  refine Sq.move (.met rfl rfl rfl) rfl rfl ?_
  refine Sq.nilCheck (.met rfl rfl rfl) rfl rfl ?_
  refine Sq.fieldAddr fld46_0 (.met rfl rfl rfl) rfl rfl ?_
  refine Sq.loadB one22 (.met rfl rfl rfl) rfl rfl hR rfl ?_
  refine Sq.lenBytes (hb.ext G) (.met rfl rfl rfl) rfl und22 rfl ?_
  refine Sq.eql (.met rfl rfl rfl) rfl rfl rfl ?_
  refine Sq.part (fun c6 => ?_) (fun c6 => ?_)
  · refine Sq.pickF .plain rfl rfl rfl ?_
    refine Sq.nil ?_
    refine Eq.next ?_
    refine Cq.thn rfl ?_
    refine Cq.seq ?_
    refine Cq.region ?_
    refine Sq.assign .plain rfl rfl ?_
    refine Sq.nil ?_
    refine Eq.next ?_
    refine Cq.ret ?_
    refine Eq.pastRet ?_
    refine Eq.ret1 rfl rfl ?_
    exact ⟨⟨_, by omega, hR, G⟩, _, rfl, by first | omega | exact rem_ok _ (by omega)⟩
  refine Sq.pickF .plain rfl rfl rfl ?_
  refine Sq.nil ?_
  refine Eq.next ?_
  refine Cq.els rfl ?_
  refine Cq.skip ?_
  refine Eq.next ?_
  refine Cq.seq ?_
  refine Cq.region ?_
  refine Sq.move .plain rfl rfl ?_
  refine Sq.nilCheck .plain rfl rfl ?_
  refine Sq.fieldAddr fld46_1 .plain rfl rfl ?_
  refine Sq.loadB one3 .plain rfl rfl hR rfl ?_
  refine Sq.sub .plain rfl rfl rfl (by omega) ?_
  refine Sq.assign .plain rfl rfl ?_
  refine Sq.nil ?_
  refine Eq.next ?_
  refine Cq.seq ?_
  refine Cq.seq ?_
  refine Cq.region ?_
  refine Sq.move .plain rfl rfl ?_
  refine Sq.move .plain rfl rfl ?_
  refine Sq.nilCheck .plain rfl rfl ?_
  refine Sq.fieldAddr fld46_0 .plain rfl rfl ?_
  refine Sq.loadB one22 .plain rfl rfl hR rfl ?_
  refine Sq.lenBytes (hb.ext G) .plain rfl und22 rfl ?_
  refine Sq.lss .plain rfl rfl rfl ?_
  refine Sq.part (fun c7 => ?_) (fun c7 => ?_)
  · refine Sq.nil ?_
    refine Eq.next ?_
    refine Cq.thn rfl ?_
    refine Cq.seq ?_
    refine Cq.region ?_
    refine Sq.move .plain rfl rfl ?_
    refine Sq.nilCheck .plain rfl rfl ?_
    refine Sq.fieldAddr fld46_0 .plain rfl rfl ?_
    refine Sq.loadB one22 .plain rfl rfl hR rfl ?_
    refine Sq.move .plain rfl rfl ?_
    refine Sq.idxBytes sl22 one5 (hb.ext G) .plain rfl rfl rfl .plain rfl rfl (by omega) (by omega) ?_
    refine Sq.conv conv5_3 .plain rfl rfl (u8_ok _) ?_
    refine Sq.move .plain rfl rfl ?_
    refine Sq.rem .plain rfl rfl rfl (by omega) ?_
    refine Sq.assign .plain rfl rfl ?_
    refine Sq.nil ?_
    refine Eq.next ?_
    refine Cq.ret ?_
    refine Eq.pastRet ?_
    refine Eq.ret1 rfl rfl ?_
    exact ⟨⟨_, by omega, hR, G⟩, _, rfl, by first | omega | exact rem_ok _ (by omega)⟩
  refine Sq.nil ?_
  refine Eq.next ?_
  refine Cq.els rfl ?_
  refine Cq.skip ?_
  refine Eq.next ?_
  refine Cq.seq ?_
  refine Cq.draw 45 none mixed (fun w8 e9 => ?_)
  have hs10 := Below.size e9
  replace hR := hR.ext e9
  replace G := grown_trans G (Ext.to_grown e9 _)
  have hR_w8 := hR
  have G_w8 := G
  refine Gq.st 0 rfl (by kernel_rfl) rfl .plain rfl (fun _ _ _ h => h) (World.grownBy.refl w8 _) (fun w' x => Still.move rfl) ?_
  refine Gq.st 1 rfl (by kernel_rfl) rfl .plain rfl (fun _ _ _ h => h) (World.grownBy.refl w8 _) (fun w' x => Still.nilCheck rfl) ?_
  refine Gq.st 2 rfl (by kernel_rfl) rfl .plain rfl (fun _ _ _ h => h) (World.grownBy.refl w8 _) (fun w' x => Still.fieldAddr fld46_0 rfl) ?_
  refine Gq.st 3 rfl (by kernel_rfl) rfl .plain rfl (fun _ _ _ h => h) (World.grownBy.refl w8 _) (fun w' x => Still.loadB one22 rfl (hR_w8.ext (Ext.of_grown x)) rfl) ?_
  refine Gq.st 4 rfl (by kernel_rfl) rfl .plain rfl (fun _ _ _ h => h) (World.grownBy.refl w8 _) (fun w' x => Still.move rfl) ?_
  refine Gq.st 5 rfl (by kernel_rfl) rfl .plain rfl (fun _ _ _ h => h) (World.grownBy.refl w8 _) (fun w' x => Still.move rfl) ?_
  refine Gq.st 6 rfl (by kernel_rfl) rfl .plain rfl (fun _ _ _ h => h) (World.grownBy.refl w8 _) (fun w' x => Still.nilCheck rfl) ?_
  refine Gq.st 7 rfl (by kernel_rfl) rfl .plain rfl (fun _ _ _ h => h) (World.grownBy.refl w8 _) (fun w' x => Still.fieldAddr fld46_0 rfl) ?_
  refine Gq.st 8 rfl (by kernel_rfl) rfl .plain rfl (fun _ _ _ h => h) (World.grownBy.refl w8 _) (fun w' x => Still.loadB one22 rfl (hR_w8.ext (Ext.of_grown x)) rfl) ?_
  refine Gq.st 9 rfl (by kernel_rfl) rfl .plain rfl (fun _ _ _ h => h) (World.grownBy.refl w8 _) (fun w' x => Still.lenBytes (hb.ext (grown_trans G_w8 (Ext.to_grown (Ext.of_grown x) _))) und22 rfl) ?_
  refine Gq.st 10 rfl (by kernel_rfl) rfl .plain rfl (fun _ _ _ h => h) (World.grownBy.refl w8 _) (fun w' x => Still.rem rfl rfl (by omega)) ?_
  obtain ⟨p11, hp12_w8⟩ := Bytes.at (hb.ext G_w8) (i := ((p + 1) - 1) % (List.length bs : Int)) ((rem_in (by omega) (by omega)).1) (rem_lt (by omega) (by omega))
  refine Gq.st 11 rfl (by kernel_rfl) rfl .plain rfl (fun _ _ _ h => h) (World.grownBy.refl w8 _) (fun w' x => Still.at' sl22 hp12_w8 rfl rfl) ?_
  refine Gq.st 12 rfl (by kernel_rfl) rfl .plain rfl (fun _ _ _ h => h) (World.grownBy.refl w8 _) (fun w' x => Still.loadA one5 rfl (hp12_w8.ext (Ext.of_grown x)).1) ?_
  refine Gq.st 13 rfl (by kernel_rfl) rfl .plain rfl (fun _ _ _ h => h) (World.grownBy.refl w8 _) (fun w' x => Still.conv conv5_3 rfl (u8_ok _)) ?_
  refine Gq.st 14 rfl (by kernel_rfl) rfl .plain rfl (fun _ _ _ h => h) (World.grownBy.refl w8 _) (fun w' x => Still.mul rfl rfl (u8_mul _ (by decide))) ?_
  refine Gq.st 15 rfl (by kernel_rfl) rfl .plain rfl (fun _ _ _ h => h) (World.grownBy.refl w8 _) (fun w' x => Still.move rfl) ?_
  refine Gq.st 16 rfl (by kernel_rfl) rfl .plain rfl (fun _ _ _ h => h) (World.grownBy.refl w8 _) (fun w' x => Still.nilCheck rfl) ?_
  refine Gq.st 17 rfl (by kernel_rfl) rfl .plain rfl (fun _ _ _ h => h) (World.grownBy.refl w8 _) (fun w' x => Still.fieldAddr fld46_0 rfl) ?_
  refine Gq.st 18 rfl (by kernel_rfl) rfl .plain rfl (fun _ _ _ h => h) (World.grownBy.refl w8 _) (fun w' x => Still.loadB one22 rfl (hR_w8.ext (Ext.of_grown x)) rfl) ?_
  refine Gq.st 19 rfl (by kernel_rfl) rfl .plain rfl (fun _ _ _ h => h) (World.grownBy.refl w8 _) (fun w' x => Still.move rfl) ?_
  refine Gq.st 20 rfl (by kernel_rfl) rfl .plain rfl (fun _ _ _ h => h) (World.grownBy.refl w8 _) (fun w' x => Still.mul rfl rfl (by omega)) ?_
  refine Gq.st 21 rfl (by kernel_rfl) rfl .plain rfl (fun _ _ _ h => h) (World.grownBy.refl w8 _) (fun w' x => Still.add rfl rfl (by omega)) ?_
  refine Gq.st 22 rfl (by kernel_rfl) rfl .plain rfl (fun _ _ _ h => h) (World.grownBy.refl w8 _) (fun w' x => Still.move rfl) ?_
  refine Gq.st 23 rfl (by kernel_rfl) rfl .plain rfl (fun _ _ _ h => h) (World.grownBy.refl w8 _) (fun w' x => Still.nilCheck rfl) ?_
  refine Gq.st 24 rfl (by kernel_rfl) rfl .plain rfl (fun _ _ _ h => h) (World.grownBy.refl w8 _) (fun w' x => Still.fieldAddr fld46_0 rfl) ?_
  refine Gq.st 25 rfl (by kernel_rfl) rfl .plain rfl (fun _ _ _ h => h) (World.grownBy.refl w8 _) (fun w' x => Still.loadB one22 rfl (hR_w8.ext (Ext.of_grown x)) rfl) ?_
  refine Gq.st 26 rfl (by kernel_rfl) rfl .plain rfl (fun _ _ _ h => h) (World.grownBy.refl w8 _) (fun w' x => Still.lenBytes (hb.ext (grown_trans G_w8 (Ext.to_grown (Ext.of_grown x) _))) und22 rfl) ?_
  refine Gq.st 27 rfl (by kernel_rfl) rfl .plain rfl (fun _ _ _ h => h) (World.grownBy.refl w8 _) (fun w' x => Still.rem rfl rfl (by omega)) ?_
  obtain ⟨p13, hp14_w8⟩ := Bytes.at (hb.ext G_w8) (i := ((((p + 1) - 1) * 7) + 3) % (List.length bs : Int)) ((rem_in (by omega) (by omega)).1) (rem_lt (by omega) (by omega))
  refine Gq.st 28 rfl (by kernel_rfl) rfl .plain rfl (fun _ _ _ h => h) (World.grownBy.refl w8 _) (fun w' x => Still.at' sl22 hp14_w8 rfl rfl) ?_
  refine Gq.st 29 rfl (by kernel_rfl) rfl .plain rfl (fun _ _ _ h => h) (World.grownBy.refl w8 _) (fun w' x => Still.loadA one5 rfl (hp14_w8.ext (Ext.of_grown x)).1) ?_
  refine Gq.st 30 rfl (by kernel_rfl) rfl .plain rfl (fun _ _ _ h => h) (World.grownBy.refl w8 _) (fun w' x => Still.conv conv5_3 rfl (u8_ok _)) ?_
  refine Gq.st 31 rfl (by kernel_rfl) rfl .plain rfl (fun _ _ _ h => h) (World.grownBy.refl w8 _) (fun w' x => Still.mul rfl rfl (u8_mul _ (by decide))) ?_
  refine Gq.st 32 rfl (by kernel_rfl) rfl .plain rfl (fun _ _ _ h => h) (World.grownBy.refl w8 _) (fun w' x => Still.add rfl rfl (u8_sum _ _)) ?_
  refine Gq.st 33 rfl (by kernel_rfl) rfl .plain rfl (fun _ _ _ h => h) (World.grownBy.refl w8 _) (fun w' x => Still.move rfl) ?_
  refine Gq.st 34 rfl (by kernel_rfl) rfl .plain rfl (fun _ _ _ h => h) (World.grownBy.refl w8 _) (fun w' x => Still.mul rfl rfl (by omega)) ?_
  refine Gq.st 35 rfl (by kernel_rfl) rfl .plain rfl (fun _ _ _ h => h) (World.grownBy.refl w8 _) (fun w' x => Still.add rfl rfl (u8_sum3 _ _ (by omega))) ?_
  refine Gq.st 36 rfl (by kernel_rfl) rfl .plain rfl (fun _ _ _ h => h) (World.grownBy.refl w8 _) (fun w' x => Still.move rfl) ?_
  refine Gq.st 37 rfl (by kernel_rfl) rfl .plain rfl (fun _ _ _ h => h) (World.grownBy.refl w8 _) (fun w' x => Still.move rfl) ?_
  refine Gq.st 38 rfl (by kernel_rfl) rfl .plain rfl (fun _ _ _ h => h) (World.grownBy.refl w8 _) (fun w' x => Still.nilCheck rfl) ?_
  refine Gq.st 39 rfl (by kernel_rfl) rfl .plain rfl (fun _ _ _ h => h) (World.grownBy.refl w8 _) (fun w' x => Still.fieldAddr fld46_0 rfl) ?_
  refine Gq.st 40 rfl (by kernel_rfl) rfl .plain rfl (fun _ _ _ h => h) (World.grownBy.refl w8 _) (fun w' x => Still.loadB one22 rfl (hR_w8.ext (Ext.of_grown x)) rfl) ?_
  refine Gq.st 41 rfl (by kernel_rfl) rfl .plain rfl (fun _ _ _ h => h) (World.grownBy.refl w8 _) (fun w' x => Still.lenBytes (hb.ext (grown_trans G_w8 (Ext.to_grown (Ext.of_grown x) _))) und22 rfl) ?_
  refine Gq.st 42 rfl (by kernel_rfl) rfl .plain rfl (fun _ _ _ h => h) (World.grownBy.refl w8 _) (fun w' x => Still.quo rfl rfl (by omega)) ?_
  refine Gq.st 43 rfl (by kernel_rfl) rfl .plain rfl (fun _ _ _ h => h) (World.grownBy.refl w8 _) (fun w' x => Still.mul rfl rfl (div_mul (by omega))) ?_
  refine Gq.st 44 rfl (by kernel_rfl) rfl .plain rfl (fun _ _ _ h => h) (World.grownBy.refl w8 _) (fun w' x => Still.add rfl rfl (u8_sum4 _ _ _ (by omega))) ?_
  refine Gq.one 45 rfl (by kernel_rfl) ?_
  refine Sq.assign .plain rfl rfl ?_
  refine Sq.nil ?_
  refine Eq.goes (fun h => absurd h (by decide)) ?_
  refine Gq.done (by kernel_rfl) ?_
  refine Eq.next ?_
  refine Cq.seq ?_
  refine Cq.region ?_
  refine Sq.move .plain rfl rfl ?_
  refine Sq.move .plain rfl rfl ?_
  refine Sq.quo .plain rfl rfl rfl (u8_quo _ _ _ (by omega)) ?_
  refine Sq.xor .plain rfl rfl rfl (u8_xor _ _ _ (by omega)) ?_
  refine Sq.assign .plain rfl rfl ?_
  refine Sq.nil ?_
  refine Eq.next ?_
  refine Cq.seq ?_
  refine Cq.region ?_
  refine Sq.move .plain rfl rfl ?_
  refine Sq.move .plain rfl rfl ?_
  refine Sq.rem .plain rfl rfl rfl (⟨Int.natCast_nonneg _, by omega⟩) ?_
  refine Sq.assign .plain rfl rfl ?_
  refine Sq.nil ?_
  refine Eq.next ?_
  refine Cq.ret ?_
  refine Eq.ret1 rfl rfl ?_
  exact ⟨⟨_, by omega, hR, G⟩, _, rfl, by first | omega | exact rem_ok _ (by omega)⟩
set_option maxRecDepth 100000 in
theorem num_c (w0 : World) (rb : Nat) (bv : Value) (p : Int) (bs : List UInt8) (e0 : TypeId) (hR : Blk w0 rb 46 [bv, .int .i64 p]) (hb : Src w0 e0 bv bs rb) (hbl : bs.length ≤ 2000) (hp : 0 ≤ p ∧ p ≤ 900000000) (lv : Value) (xs : List Int) (hx : Ints w0 3 lv xs) (hl : 1 ≤ xs.length ∧ xs.length ≤ 1000) : Ret Try.prog 11 #[Value.pointer (some ⟨rb, 0, none⟩), lv] w0 (fun v w => (∃ p', (p ≤ p' ∧ p' ≤ p + 1) ∧ Blk w rb 46 [bv, .int .i64 p'] ∧ w0.grownBy w (some rb)) ∧ ∃ k, v = .int .i64 k ∧ k ∈ xs) := by
  have G := World.grownBy.refl w0 (some rb)
  have hlt := hR.lt
  refine Ret.of (args := [Value.pointer (some ⟨rb, 0, none⟩), lv]) Try.func11 rfl rfl rfl ?_
  rintro _ rfl
  show Cq _ _ _ _ [(0, Value.pointer (some ⟨rb, 0, none⟩)), (1, lv)] _
  refine Cq.seq ?_
  refine Cq.region ?_
  refine Sq.assign .plain rfl rfl ?_
  refine Sq.nil ?_
  refine Eq.next ?_
  refine Cq.seq ?_
  refine Cq.region ?_
  refine Sq.move .plain rfl rfl ?_
  refine Sq.move .plain rfl rfl ?_
  refine Sq.move .plain rfl rfl ?_
  refine Sq.lenInts hx .plain rfl und38 rfl ?_
  refine Sq.call fn19 .plain rfl rfl (pick_c _ _ _ _ _ _ hR (hb.go G) hbl (by omega) (List.length xs : Int) (by omega)) ?_
  rintro _ w2 ⟨⟨p3, hp6, hB5, g4⟩, ⟨k7, rfl, hk8⟩⟩
  have hs9 := World.grownBy.size g4
  have hs10 := World.grownBy.size G
  have hs11 := World.grownBy.size g4
  replace G := grown_trans G g4
  replace hx := hx.stored g4 hR (by decide)
  replace hR := hB5
  refine Sq.idxInts sl38 one3 hx .plain rfl rfl rfl .plain rfl rfl (by omega) (by omega) ?_
  refine Sq.assign .plain rfl rfl ?_
  refine Sq.nil ?_
  refine Eq.next ?_
  refine Cq.ret ?_
  refine Eq.ret1 rfl rfl ?_
  exact ⟨⟨_, by omega, hR, G⟩, _, rfl, getD_mem (by omega)⟩
set_option maxRecDepth 100000 in
theorem of_c (w0 : World) (rb : Nat) (bv : Value) (p : Int) (bs : List UInt8) (e0 : TypeId) (hR : Blk w0 rb 46 [bv, .int .i64 p]) (hb : Src w0 e0 bv bs rb) (hbl : bs.length ≤ 2000) (hp : 0 ≤ p ∧ p ≤ 900000000) (lv : Value) (xs : List ByteArray) (hx : Strs w0 9 lv xs) (hl : 1 ≤ xs.length ∧ xs.length ≤ 1000) : Ret Try.prog 32 #[Value.pointer (some ⟨rb, 0, none⟩), lv] w0 (fun v w => (∃ p', (p ≤ p' ∧ p' ≤ p + 1) ∧ Blk w rb 46 [bv, .int .i64 p'] ∧ w0.grownBy w (some rb)) ∧ ∃ k, v = .string k ∧ k ∈ xs) := by
  have G := World.grownBy.refl w0 (some rb)
  have hlt := hR.lt
  refine Ret.of (args := [Value.pointer (some ⟨rb, 0, none⟩), lv]) Try.func32 rfl rfl rfl ?_
  rintro _ rfl
  show Cq _ _ _ _ [(0, Value.pointer (some ⟨rb, 0, none⟩)), (1, lv)] _
  refine Cq.seq ?_
  refine Cq.region ?_
  refine Sq.assign .plain rfl rfl ?_
  refine Sq.nil ?_
  refine Eq.next ?_
  refine Cq.seq ?_
  refine Cq.region ?_
  refine Sq.move .plain rfl rfl ?_
  refine Sq.move .plain rfl rfl ?_
  refine Sq.move .plain rfl rfl ?_
  refine Sq.lenStrs hx .plain rfl und60 rfl ?_
  refine Sq.call fn19 .plain rfl rfl (pick_c _ _ _ _ _ _ hR (hb.go G) hbl (by omega) (List.length xs : Int) (by omega)) ?_
  rintro _ w2 ⟨⟨p3, hp6, hB5, g4⟩, ⟨k7, rfl, hk8⟩⟩
  have hs9 := World.grownBy.size g4
  have hs10 := World.grownBy.size G
  have hs11 := World.grownBy.size g4
  replace G := grown_trans G g4
  replace hx := hx.stored g4 hR (by decide)
  replace hR := hB5
  refine Sq.idxStrs sl60 one9 hx .plain rfl rfl rfl .plain rfl rfl (by omega) (by omega) ?_
  refine Sq.assign .plain rfl rfl ?_
  refine Sq.nil ?_
  refine Eq.next ?_
  refine Cq.ret ?_
  refine Eq.ret1 rfl rfl ?_
  exact ⟨⟨_, by omega, hR, G⟩, _, rfl, getD_mem (by omega)⟩
end Go.Proofs.Ytpnelflmecchlaa
set_option linter.unusedSimpArgs false
set_option linter.unusedVariables false
namespace Go.Proofs.Ytpnelflmecchlaa
open Go.RowKit
set_option maxRecDepth 100000 in
theorem l3Random_c (w0 : World) (rb : Nat) (bv : Value) (p : Int) (bs : List UInt8) (e0 : TypeId) (hR : Blk w0 rb 46 [bv, .int .i64 p]) (hb : Src w0 e0 bv bs rb) (hbl : bs.length ≤ 2000) (hp : 0 ≤ p ∧ p ≤ 800000000) (al n : Int) (hal : 0 ≤ al ∧ al ≤ 63) (hn : 1 ≤ n ∧ n ≤ 12) : Ret Try.prog 41 #[Value.pointer (some ⟨rb, 0, none⟩), Value.int .i64 al, Value.int .i64 n] w0 (fun v w => (∃ p', (p ≤ p' ∧ p' ≤ p + 100) ∧ Blk w rb 46 [bv, .int .i64 p'] ∧ w0.grownBy w (some rb)) ∧ ∃ a, OwnA w w0.heap.size v a ∧ validA a = true ∧ a.al = al ∧ (a.next.length : Int) = n) := by
  have G := World.grownBy.refl w0 (some rb)
  have hlt := hR.lt
  refine Ret.of (args := [Value.pointer (some ⟨rb, 0, none⟩), Value.int .i64 al, Value.int .i64 n]) Try.func41 rfl rfl rfl ?_
  rintro _ rfl
  show Cq _ _ _ _ [(0, Value.pointer (some ⟨rb, 0, none⟩)), (1, Value.int .i64 al), (2, Value.int .i64 n)] _
  refine Cq.seq ?_
  refine Cq.region ?_
  refine Sq.alloc zero26 .plain rfl (fun b1 w2 e3 hB4 hlo5 => ?_)
  have hd6 := Nat.lt_of_lt_of_le hR.lt hlo5
  have hd7 := Nat.le_trans (World.grownBy.size G) hlo5
  have hs8 := Below.size e3
  replace hR := hR.ext e3
  replace G := grown_trans G (Ext.to_grown e3 _)
  refine Sq.nil ?_
  refine Eq.next ?_
  refine Cq.seq ?_
  refine Cq.region ?_
  refine Sq.move .plain rfl rfl ?_
  refine Sq.build st26 rfl rfl .plain rfl rfl (one_cons rfl one_nil) rfl ?_
  refine Sq.alloc zero26 .plain rfl (fun b9 w10 e11 hB12 hlo13 => ?_)
  have hd14 := Nat.lt_of_lt_of_le hR.lt hlo13
  have hd15 := Nat.le_trans (World.grownBy.size G) hlo13
  have hd16 := Nat.lt_of_lt_of_le hB4.lt hlo13
  have hs17 := Below.size e11
  replace hR := hR.ext e11
  replace G := grown_trans G (Ext.to_grown e11 _)
  replace hB4 := hB4.ext e11
  refine Sq.storeAgg agg26 .plain rfl rfl (one_cons rfl (one_cons rfl (one_cons rfl one_nil))) hB12 rfl rfl (fun w18 g19 hB20 => ?_)
  have hs21 := World.grownBy.size g19
  replace hR := hR.grown g19 (by intro h; injection h with h; omega)
  replace G := grown_far G g19 (fun k hk => by injection hk with hk; subst hk; omega)
  replace hB4 := hB4.grown g19 (by intro h; injection h with h; omega)
  replace hB12 := hB20
  refine Sq.nil ?_
  refine Eq.next ?_
  refine Cq.seq ?_
  refine Cq.region ?_
  refine Sq.move .plain rfl rfl ?_
  have hd26 := hR.lt
  have hd27 := hB4.lt
  have hd28 := hB12.lt
  refine Sq.call fn25 .plain rfl rfl (l1Letters_c al (by omega) _) ?_
  rintro v22 w23 ⟨hl25, e24⟩
  have hs29 := World.grownBy.size G
  have hs30 := Below.size e24
  replace hR := hR.ext e24
  replace G := grown_trans G (Ext.to_grown e24 _)
  replace hB4 := hB4.ext e24
  replace hB12 := hB12.ext e24
  refine Sq.lenInts (Own.row hl25) .plain rfl und38 rfl ?_
  refine Sq.assign .plain rfl rfl ?_
  refine Sq.nil ?_
  refine Eq.next ?_
  refine Cq.seq ?_
  refine Cq.seq ?_
  refine Cq.region ?_
  refine Sq.assign .plain rfl rfl ?_
  refine Sq.nil ?_
  refine Eq.next ?_
  refine Cq.block ?_
  refine Cq.loop (fun nn w ls => ∃ (i : Int), ∃ (p1 : Int), ∃ (nxv : Value), ∃ (acv : Value), ∃ (xss : List (List Int)), ∃ (ys : List Bool), ls = [(0, Value.pointer (some ⟨rb, 0, none⟩)), (2, Value.int .i64 n), (6, Value.pointer (some ⟨b1, 0, none⟩)), (7, Value.pointer (some ⟨b9, 0, none⟩)), (8, Value.int .i64 ((List.length (letters al) : Int))), (9, Value.int .i64 i)] ∧ (0 ≤ i ∧ i ≤ n) ∧ (p ≤ p1 ∧ p1 ≤ p + 7 * i) ∧ Blk w rb 46 [bv, Value.int .i64 p1] ∧ Blk w b9 26 [Value.int .i64 al, nxv, acv] ∧ OwnRows w w0.heap.size w.heap.size 38 3 nxv xss ∧ Own w w0.heap.size 4 acv (ys.map Value.bool) ∧ ((xss.length : Int) = i ∧ (ys.length : Int) = i ∧ ∀ row ∈ xss, rowOk (letters al).length n row = true) ∧ World.grownBy w0 w (some rb) ∧ Blk w b1 26 [Value.int .i64 0, Value.slice none 0 0, Value.slice none 0 0] ∧ nn = (n - i).toNat) _ _ ⟨0, p, _, _, [], [], rfl, by omega, by omega, hR, hB12, OwnRows.nil _ _ _ _ _, Own.nil _ _ _, by simp, G, hB4, rfl⟩ (.cons rfl (.cons rfl (.cons rfl (.cons rfl (.cons rfl (.cons rfl (.nil))))))) ?_
  rintro nn wl1 ls ⟨i, p1, nxv, acv, xss, ys, rfl, hi, hp1, hR, hB7, hor, hoa, hxl, G, hB4, rfl⟩
  have hs31 := World.grownBy.size G
  have hl6 := letters_len6 al
  refine Cq.seq ?_
  refine Cq.seq ?_
  refine Cq.region ?_
  refine Sq.move .plain rfl rfl ?_
  refine Sq.move .plain rfl rfl ?_
  refine Sq.lss .plain rfl rfl rfl ?_
  refine Sq.part (fun c32 => ?_) (fun c32 => ?_)
  · refine Sq.nil ?_
    refine Eq.next ?_
    refine Cq.thn rfl ?_
    refine Cq.skip ?_
    refine Eq.next ?_
    refine Cq.seq ?_
    refine Cq.block ?_
    refine Cq.seq ?_
    refine Cq.region ?_
    refine Sq.lit sl38 rfl rfl .plain rfl rfl one_nil (fun b33 w34 e35 hlo36 ho37 _ => ?_)
    replace ho37 := ho37 wl1.heap.size (Nat.le_refl _)
    have hs39 := Below.size e35
    replace G := grown_trans G (Ext.to_grown e35 _)
    replace hB4 := hB4.ext e35
    replace hR := hR.ext e35
    replace hB7 := hB7.ext e35
    replace hor := hor.ext e35
    replace hoa := hoa.ext e35
    refine Sq.assign .plain rfl rfl ?_
    refine Sq.nil ?_
    refine Eq.next ?_
    refine Cq.seq ?_
    refine Cq.seq ?_
    refine Cq.region ?_
    refine Sq.assign .plain rfl rfl ?_
    refine Sq.nil ?_
    refine Eq.next ?_
    refine Cq.block ?_
    refine Cq.loop (fun nn w ls => ∃ (j : Int), ∃ (p2 : Int), ∃ (rv : Value), ∃ (row : List Int), ls = [(0, Value.pointer (some ⟨rb, 0, none⟩)), (2, Value.int .i64 n), (6, Value.pointer (some ⟨b1, 0, none⟩)), (7, Value.pointer (some ⟨b9, 0, none⟩)), (8, Value.int .i64 ((List.length (letters al) : Int))), (9, Value.int .i64 i), (10, rv), (11, Value.int .i64 j)] ∧ (0 ≤ j ∧ j ≤ (letters al).length) ∧ wl1.heap.size ≤ w.heap.size ∧ (p1 ≤ p2 ∧ p2 ≤ p1 + j) ∧ Blk w rb 46 [bv, Value.int .i64 p2] ∧ Own w wl1.heap.size 3 rv (row.map (Value.int .i64)) ∧ ((row.length : Int) = j ∧ ∀ q ∈ row, 0 ≤ q ∧ q < n) ∧ World.grownBy w0 w (some rb) ∧ Blk w b1 26 [Value.int .i64 0, Value.slice none 0 0, Value.slice none 0 0] ∧ Blk w b9 26 [Value.int .i64 al, nxv, acv] ∧ OwnRows w w0.heap.size wl1.heap.size 38 3 nxv xss ∧ Own w w0.heap.size 4 acv (ys.map Value.bool) ∧ nn = ((letters al).length - j).toNat) _ _ ⟨0, p1, _, [], rfl, by omega, by omega, by omega, hR, ho37, by simp, G, hB4, hB7, hor, hoa, rfl⟩ (.cons rfl (.cons rfl (.cons rfl (.cons rfl (.cons rfl (.cons rfl (.cons rfl (.cons rfl (.nil))))))))) ?_
    rintro nn wl2 ls ⟨j, p2, rv, row, rfl, hj, hsz, hp2, hR, hro, hrl, G, hB4, hB7, hor, hoa, rfl⟩
    have hs40 := World.grownBy.size G
    refine Cq.seq ?_
    refine Cq.seq ?_
    refine Cq.region ?_
    refine Sq.move .plain rfl rfl ?_
    refine Sq.move .plain rfl rfl ?_
    refine Sq.lss .plain rfl rfl rfl ?_
    refine Sq.part (fun c41 => ?_) (fun c41 => ?_)
    · refine Sq.nil ?_
      refine Eq.next ?_
      refine Cq.thn rfl ?_
      refine Cq.skip ?_
      refine Eq.next ?_
      refine Cq.seq ?_
      refine Cq.block ?_
      refine Cq.region ?_
      refine Sq.move .plain rfl rfl ?_
      refine Sq.move .plain rfl rfl ?_
      refine Sq.move .plain rfl rfl ?_
      refine Sq.call fn19 .plain rfl rfl (pick_c _ _ _ _ _ _ hR (hb.go G) hbl (by omega) n (by omega)) ?_
      rintro _ w43 ⟨⟨p44, hp47, hB46, g45⟩, ⟨k48, rfl, hk49⟩⟩
      have hs50 := World.grownBy.size g45
      have hs51 := World.grownBy.size G
      have hs52 := World.grownBy.size g45
      replace G := grown_trans G g45
      replace hB4 := hB4.grown g45 (by intro h; injection h with h; omega)
      replace hB7 := hB7.grown g45 (by intro h; injection h with h; omega)
      replace hor := hor.stored g45 hR (by decide) (by decide)
      replace hoa := hoa.stored g45 hR (by decide)
      replace hro := hro.stored g45 hR (by decide)
      replace hR := hB46
      refine Sq.app1 sl38 hro (by omega) (by first | omega | (simp; omega)) .plain rfl rfl rfl rfl rfl rfl rfl (fun v53 w54 ho56 g55 _ => ?_)
      have hs57 := g55.size
      replace G := grown_new G hro g55 (by omega)
      replace hB4 := hB4.owned hro g55 (by decide)
      replace hB7 := hB7.owned hro g55 (by decide)
      replace hor := hor.apart hro g55 (by omega) (by decide)
      replace hoa := hoa.owned hro g55 (by decide)
      replace hR := hR.owned hro g55 (by decide)
      refine Sq.assign .plain rfl rfl ?_
      refine Sq.nil ?_
      refine Eq.end ?_
      refine Eq.next ?_
      refine Cq.region ?_
      refine Sq.move .plain rfl rfl ?_
      refine Sq.add .plain rfl rfl rfl (by omega) ?_
      refine Sq.assign .plain rfl rfl ?_
      refine Sq.nil ?_
      refine Eq.round _ _ ⟨j + 1, _, _, _, rfl, by omega, by omega, by omega, hR, Own.snocI ho56, ⟨by simp; omega, all_app hrl.2 (by omega)⟩, G, hB4, hB7, hor, hoa, rfl⟩ (by omega) (.cons rfl (.cons rfl (.cons rfl (.cons rfl (.cons rfl (.cons rfl (.cons rfl (.cons rfl (.nil)))))))))
    refine Sq.nil ?_
    refine Eq.next ?_
    refine Cq.els rfl ?_
    refine Cq.exit ?_
    refine Eq.past ?_
    refine Eq.past ?_
    refine Eq.hit ?_
    refine Eq.next ?_
    refine Cq.seq ?_
    refine Cq.region ?_
    refine Sq.fieldAddr fld26_1 .plain rfl rfl ?_
    refine Sq.loadB one23 .plain rfl rfl hB7 rfl ?_
    refine Sq.move .plain rfl rfl ?_
    obtain ⟨rs62, q63, q64, q65⟩ := OwnRows.open hor (by decide)
    have q65x := Ext.refl wl2
    refine Sq.app1 sl23 q63 (by omega) (by rw [q64]; first | omega | (simp; omega)) .plain rfl rfl rfl rfl rfl rfl (Row.one (Own.row hro)) (fun v58 w59 ho61 g60 _ => ?_)
    have hs66 := g60.size
    have ho61r := q65 _ row _ _ _ (Ext.refl _) (Own.mono hro (by omega)) (by omega) ho61 g60
    replace G := grown_new G q63 g60 (by omega)
    replace hB4 := hB4.owned q63 g60 (by decide)
    replace hB7 := hB7.owned q63 g60 (by decide)
    replace hoa := hoa.owned q63 g60 (by decide)
    replace hR := hR.owned q63 g60 (by decide)
    refine Sq.fieldAddr fld26_1 .plain rfl rfl ?_
    refine Sq.store one23 .plain rfl rfl (Rows.one (OwnRows.rows ho61r)) hB7 (by simp) (fun w67 g68 hB69 => ?_)
    have hs70 := World.grownBy.size g68
    replace G := grown_far G g68 (fun k hk => by injection hk with hk; subst hk; omega)
    replace hB4 := hB4.grown g68 (by intro h; injection h with h; omega)
    replace hoa := hoa.stored g68 hB7 (by decide)
    replace hR := hR.grown g68 (by intro h; injection h with h; omega)
    replace ho61r := ho61r.stored g68 hB7 (by decide) (by decide)
    replace hB7 := hB69
    refine Sq.nil ?_
    refine Eq.next ?_
    refine Cq.drawS 7 (fun w' => Blk w' b9 26 [Value.int .i64 al, v58, acv]) mixed (hB7) (fun w71 e72 hS => ?_)
    clear hS
    have hs73 := Below.size e72
    replace G := grown_trans G (Ext.to_grown e72 _)
    replace hB4 := hB4.ext e72
    replace hB7 := hB7.ext e72
    replace hoa := hoa.ext e72
    replace hR := hR.ext e72
    replace ho61r := ho61r.ext e72
    refine Gq.st 0 rfl (by kernel_rfl) rfl .plain rfl (fun _ _ _ h => h) hB7 (fun w' x => Still.fieldAddr fld26_2 rfl) ?_
    refine Gq.st 1 rfl (by kernel_rfl) rfl .plain rfl (fun _ _ _ h => h) hB7 (fun w' x => Still.loadB one24 rfl x rfl) ?_
    refine Gq.st 2 rfl (by kernel_rfl) rfl .plain rfl (fun _ _ _ h => h) hB7 (fun w' x => Still.move rfl) ?_
    refine Gq.one 3 rfl (by kernel_rfl) ?_
    refine Sq.call fn19 .plain rfl rfl (pick_c _ _ _ _ _ _ hR (hb.go G) hbl (by omega) 3 (by omega)) ?_
    rintro _ w75 ⟨⟨p76, hp79, hB78, g77⟩, ⟨k80, rfl, hk81⟩⟩
    have hs82 := World.grownBy.size g77
    have hs83 := World.grownBy.size G
    have hs84 := World.grownBy.size g77
    replace G := grown_trans G g77
    replace hB4 := hB4.grown g77 (by intro h; injection h with h; omega)
    replace hB7 := hB7.grown g77 (by intro h; injection h with h; omega)
    replace hoa := hoa.stored g77 hR (by decide)
    replace ho61r := ho61r.stored g77 hR (by decide) (by decide)
    replace hR := hB78
    refine Sq.nil ?_
    refine Eq.goes (fun _ => hB7) ?_
    refine Gq.st 4 rfl (by kernel_rfl) rfl .plain rfl (fun _ _ _ h => h) hB7 (fun w' x => Still.gtr rfl rfl) ?_
    refine Gq.one 5 rfl (by kernel_rfl) ?_
    refine Sq.lit sl24 rfl rfl .plain rfl rfl (one_cons rfl one_nil) (fun b85 w86 e87 hlo88 ho89 _ => ?_)
    replace ho89 := ho89 w75.heap.size (Nat.le_refl _)
    have hs91 := Below.size e87
    replace G := grown_trans G (Ext.to_grown e87 _)
    replace hB4 := hB4.ext e87
    replace hB7 := hB7.ext e87
    replace hoa := hoa.ext e87
    replace hR := hR.ext e87
    replace ho61r := ho61r.ext e87
    refine Sq.nil ?_
    refine Eq.goes (fun _ => hB7) ?_
    refine Gq.one 6 rfl (by kernel_rfl) ?_
    refine Sq.app sl24 hoa (by omega) (Own.row ho89) (one_cons rfl one_nil) (by first | omega | (simp; omega)) .plain rfl rfl rfl rfl (fun v92 w93 ho95 g94 => ?_)
    have hs96 := g94.size
    replace G := grown_new G hoa g94 (by omega)
    replace hB4 := hB4.owned hoa g94 (by decide)
    replace hB7 := hB7.owned hoa g94 (by decide)
    replace hR := hR.owned hoa g94 (by decide)
    replace ho61r := ho61r.owned hoa g94 (by decide) (by decide)
    refine Sq.nil ?_
    refine Eq.goes (fun _ => hB7) ?_
    refine Gq.one 7 rfl (by kernel_rfl) ?_
    refine Sq.fieldAddr fld26_2 .plain rfl rfl ?_
    refine Sq.nil ?_
    refine Eq.goes (fun h => absurd h (by decide)) ?_
    refine Gq.one 8 rfl (by kernel_rfl) ?_
    refine Sq.store one24 .plain rfl rfl (Row.one (Own.row ho95)) hB7 (by simp) (fun w97 g98 hB99 => ?_)
    have hs100 := World.grownBy.size g98
    replace G := grown_far G g98 (fun k hk => by injection hk with hk; subst hk; omega)
    replace hB4 := hB4.grown g98 (by intro h; injection h with h; omega)
    replace hR := hR.grown g98 (by intro h; injection h with h; omega)
    replace ho61r := ho61r.stored g98 hB7 (by decide) (by decide)
    replace ho95 := ho95.stored g98 hB7 (by decide)
    replace hB7 := hB99
    refine Sq.nil ?_
    refine Eq.goes (fun h => absurd h (by decide)) ?_
    refine Gq.done (by kernel_rfl) ?_
    refine Eq.end ?_
    refine Eq.next ?_
    refine Cq.region ?_
    refine Sq.move .plain rfl rfl ?_
    refine Sq.add .plain rfl rfl rfl (by omega) ?_
    refine Sq.assign .plain rfl rfl ?_
    refine Sq.nil ?_
    refine Eq.round _ _ ⟨i + 1, _, _, _, _, _, rfl, by omega, by omega, hR, hB7, OwnRows.now ho61r, Own.snocB ho95, ⟨by simp; omega, by simp; omega, rows_snoc hxl.2.2 (rowOk_mk (by omega) hrl.2)⟩, G, hB4, rfl⟩ (by omega) (.cons rfl (.cons rfl (.cons rfl (.cons rfl (.cons rfl (.cons rfl (.nil)))))))
  refine Sq.nil ?_
  refine Eq.next ?_
  refine Cq.els rfl ?_
  refine Cq.exit ?_
  refine Eq.past ?_
  refine Eq.past ?_
  refine Eq.hit ?_
  refine Eq.next ?_
  refine Cq.seq ?_
  refine Cq.region ?_
  refine Sq.loadAgg agg26 .plain rfl rfl hB7 rfl ?_
  refine Sq.storeAgg agg26 .plain rfl rfl (one_cons rfl (one_cons (Rows.one (OwnRows.rows hor)) (one_cons (Row.one (Own.row hoa)) one_nil))) hB4 rfl rfl (fun w101 g102 hB103 => ?_)
  have hs104 := World.grownBy.size g102
  replace G := grown_far G g102 (fun k hk => by injection hk with hk; subst hk; omega)
  replace hR := hR.grown g102 (by intro h; injection h with h; omega)
  replace hor := hor.stored g102 hB4 (by decide) (by decide)
  replace hoa := hoa.stored g102 hB4 (by decide)
  replace hB4 := hB103
  refine Sq.nil ?_
  refine Eq.next ?_
  refine Cq.ret ?_
  refine Eq.retCell rfl rfl agg26 hB4 rfl ?_
  exact ⟨⟨_, by omega, hR, G⟩, ⟨al, xss, ys⟩, ⟨_, _, rfl, OwnRows.now hor, hoa⟩, validA_mk hal (by show 1 ≤ xss.length ∧ xss.length ≤ 12; omega) (by show ys.length = xss.length; omega) (by intro row hr; have e : ((⟨al, xss, ys⟩ : A).next.length : Int) = n := (by show (xss.length : Int) = n; omega); rw [e]; exact hxl.2.2 row hr), rfl, by show (xss.length : Int) = n; omega⟩
set_option maxRecDepth 100000 in
theorem l3Safe_c (w0 : World) (rb : Nat) (bv : Value) (p : Int) (bs : List UInt8) (e0 : TypeId) (hR : Blk w0 rb 46 [bv, .int .i64 p]) (hb : Src w0 e0 bv bs rb) (hbl : bs.length ≤ 2000) (hp : 0 ≤ p ∧ p ≤ 700000000) (al n : Int) (hal : 0 ≤ al ∧ al ≤ 63) (hn : 1 ≤ n ∧ n ≤ 12) : Ret Try.prog 40 #[Value.pointer (some ⟨rb, 0, none⟩), Value.int .i64 al, Value.int .i64 n] w0 (fun v w => (∃ p', (p ≤ p' ∧ p' ≤ p + 100) ∧ Blk w rb 46 [bv, .int .i64 p'] ∧ w0.grownBy w (some rb)) ∧ ∃ a, OwnA w w0.heap.size v a ∧ validA a = true ∧ a.al = al ∧ (a.next.length : Int) = n) := by
  have G := World.grownBy.refl w0 (some rb)
  have hlt := hR.lt
  refine Ret.of (args := [Value.pointer (some ⟨rb, 0, none⟩), Value.int .i64 al, Value.int .i64 n]) Try.func40 rfl rfl rfl ?_
  rintro _ rfl
  show Cq _ _ _ _ [(0, Value.pointer (some ⟨rb, 0, none⟩)), (1, Value.int .i64 al), (2, Value.int .i64 n)] _
  refine Cq.seq ?_
  refine Cq.region ?_
  refine Sq.alloc zero26 .plain rfl (fun b1 w2 e3 hB4 hlo5 => ?_)
  have hd6 := Nat.lt_of_lt_of_le hR.lt hlo5
  have hd7 := Nat.le_trans (World.grownBy.size G) hlo5
  have hs8 := Below.size e3
  replace hR := hR.ext e3
  replace G := grown_trans G (Ext.to_grown e3 _)
  refine Sq.nil ?_
  refine Eq.next ?_
  refine Cq.seq ?_
  refine Cq.region ?_
  refine Sq.move .plain rfl rfl ?_
  refine Sq.move .plain rfl rfl ?_
  refine Sq.move .plain rfl rfl ?_
  refine Sq.call fn41 .plain rfl rfl (l3Random_c _ _ _ _ _ _ hR (hb.go G) hbl (by omega) al n (by omega) (by omega)) ?_
  rintro _ w10 ⟨⟨p11, hp14, hB13, g12⟩, ⟨a15, ⟨nx16, ac17, rfl, hn18, ha19⟩, hv20, hal21, hlen22⟩⟩
  have hs23 := World.grownBy.size g12
  have hs24 := World.grownBy.size G
  have hs25 := World.grownBy.size g12
  replace G := grown_trans G g12
  replace hB4 := hB4.grown g12 (by intro h; injection h with h; omega)
  replace hR := hB13
  refine Sq.alloc zero26 .plain rfl (fun b26 w27 e28 hB29 hlo30 => ?_)
  have hd31 := Nat.lt_of_lt_of_le hR.lt hlo30
  have hd32 := Nat.le_trans (World.grownBy.size G) hlo30
  have hd33 := Nat.lt_of_lt_of_le hB4.lt hlo30
  have hs34 := Below.size e28
  replace hR := hR.ext e28
  replace G := grown_trans G (Ext.to_grown e28 _)
  replace hB4 := hB4.ext e28
  replace hn18 := hn18.ext e28
  replace ha19 := ha19.ext e28
  refine Sq.storeAgg agg26 .plain rfl rfl (one_cons rfl (one_cons (Rows.one (OwnRows.rows hn18)) (one_cons (Row.one (Own.row ha19)) one_nil))) hB29 rfl rfl (fun w35 g36 hB37 => ?_)
  have hs38 := World.grownBy.size g36
  replace hR := hR.grown g36 (by intro h; injection h with h; omega)
  replace G := grown_far G g36 (fun k hk => by injection hk with hk; subst hk; omega)
  replace hB4 := hB4.grown g36 (by intro h; injection h with h; omega)
  replace hn18 := hn18.stored g36 hB29 (by decide) (by decide)
  replace ha19 := ha19.stored g36 hB29 (by decide)
  replace hB29 := hB37
  refine Sq.nil ?_
  refine Eq.next ?_
  refine Cq.seq ?_
  refine Cq.seq ?_
  refine Cq.region ?_
  refine Sq.assign .plain rfl rfl ?_
  refine Sq.nil ?_
  refine Eq.next ?_
  refine Cq.block ?_
  have hvs := validA_spec.1 hv20
  refine Cq.loop (fun nn w ls => ∃ (i : Int), ∃ (ys : List Bool), ls = [(0, Value.pointer (some ⟨rb, 0, none⟩)), (2, Value.int .i64 n), (6, Value.pointer (some ⟨b1, 0, none⟩)), (7, Value.pointer (some ⟨b26, 0, none⟩)), (8, Value.int .i64 i)] ∧ (0 ≤ i ∧ i ≤ n) ∧ ((ys.length : Int) = n) ∧ Own w w0.heap.size 4 ac17 (ys.map Value.bool) ∧ World.grownBy w0 w (some rb) ∧ Blk w rb 46 [bv, Value.int .i64 p11] ∧ Blk w b1 26 [Value.int .i64 0, Value.slice none 0 0, Value.slice none 0 0] ∧ Blk w b26 26 [Value.int .i64 a15.al, nx16, ac17] ∧ OwnRows w w2.heap.size w10.heap.size 38 3 nx16 a15.next ∧ nn = (n - i).toNat) _ _ ⟨0, _, rfl, by omega, by have := hvs.2.2.1; omega, Own.mono ha19 (by omega), G, hR, hB4, hB29, hn18, rfl⟩ (.cons rfl (.cons rfl (.cons rfl (.cons rfl (.cons rfl (.nil)))))) ?_
  rintro nn wl1 ls ⟨i, ys, rfl, hi, hyl, ha19, G, hR, hB4, hB29, hn18, rfl⟩
  have hs39 := World.grownBy.size G
  refine Cq.seq ?_
  refine Cq.seq ?_
  refine Cq.region ?_
  refine Sq.move .plain rfl rfl ?_
  refine Sq.move .plain rfl rfl ?_
  refine Sq.lss .plain rfl rfl rfl ?_
  refine Sq.part (fun c40 => ?_) (fun c40 => ?_)
  · refine Sq.nil ?_
    refine Eq.next ?_
    refine Cq.thn rfl ?_
    refine Cq.skip ?_
    refine Eq.next ?_
    refine Cq.seq ?_
    refine Cq.block ?_
    refine Cq.region ?_
    refine Sq.fieldAddr fld26_2 .plain rfl rfl ?_
    refine Sq.loadB one24 .plain rfl rfl hB29 rfl ?_
    refine Sq.move .plain rfl rfl ?_
    refine Sq.move .plain rfl rfl ?_
    refine Sq.move .plain rfl rfl ?_
    refine Sq.sub .plain rfl rfl rfl (by omega) ?_
    refine Sq.lss .plain rfl rfl rfl ?_
    obtain ⟨p41, hp42o⟩ := Own.at ha19 (i := i) (by omega) (by first | (simp only [List.length_map]; omega) | (simp; omega))
    refine Sq.atO sl24 hp42o .plain rfl rfl rfl ?_
    refine Sq.storeO one4 ha19 hp42o .plain rfl rfl rfl (fun w43 g44 ho45 => ?_)
    have hs46 := World.grownBy.size g44
    replace G := grown_new G ha19 g44 (by omega)
    replace hR := hR.owned ha19 g44 (by decide)
    replace hB4 := hB4.owned ha19 g44 (by decide)
    replace hB29 := hB29.owned ha19 g44 (by decide)
    replace hn18 := hn18.owned ha19 g44 (by decide) (by decide)
    replace ha19 := ho45
    refine Sq.nil ?_
    refine Eq.end ?_
    refine Eq.next ?_
    refine Cq.region ?_
    refine Sq.move .plain rfl rfl ?_
    refine Sq.add .plain rfl rfl rfl (by omega) ?_
    refine Sq.assign .plain rfl rfl ?_
    refine Sq.nil ?_
    refine Eq.round _ _ ⟨i + 1, _, rfl, by omega, by rw [List.length_set]; omega, Own.setB ha19, G, hR, hB4, hB29, hn18, rfl⟩ (by omega) (.cons rfl (.cons rfl (.cons rfl (.cons rfl (.cons rfl (.nil))))))
  refine Sq.nil ?_
  refine Eq.next ?_
  refine Cq.els rfl ?_
  refine Cq.exit ?_
  refine Eq.past ?_
  refine Eq.past ?_
  refine Eq.hit ?_
  refine Eq.next ?_
  refine Cq.seq ?_
  refine Cq.seq ?_
  refine Cq.region ?_
  refine Sq.assign .plain rfl rfl ?_
  refine Sq.nil ?_
  refine Eq.next ?_
  refine Cq.block ?_
  have hrows := validA_rows hv20
  refine Cq.loop (fun nn w ls => ∃ (j : Int), ∃ (xss : List (List Int)), ls = [(0, Value.pointer (some ⟨rb, 0, none⟩)), (2, Value.int .i64 n), (6, Value.pointer (some ⟨b1, 0, none⟩)), (7, Value.pointer (some ⟨b26, 0, none⟩)), (9, Value.int .i64 j)] ∧ (0 ≤ j) ∧ ((xss.length : Int) = n ∧ ∀ row ∈ xss, rowOk (letters al).length n row = true) ∧ OwnRows w w0.heap.size w.heap.size 38 3 nx16 xss ∧ World.grownBy w0 w (some rb) ∧ Blk w rb 46 [bv, Value.int .i64 p11] ∧ Blk w b1 26 [Value.int .i64 0, Value.slice none 0 0, Value.slice none 0 0] ∧ Blk w b26 26 [Value.int .i64 a15.al, nx16, ac17] ∧ Own w w0.heap.size 4 ac17 (ys.map Value.bool) ∧ nn = (((xss.getD (n - 1).toNat []).length : Int) - j).toNat) _ _ ⟨0, _, rfl, by omega, ⟨by omega, by rw [← hal21, ← hlen22]; exact hrows⟩, OwnRows.mono (OwnRows.now hn18) (by omega), G, hR, hB4, hB29, ha19, rfl⟩ (.cons rfl (.cons rfl (.cons rfl (.cons rfl (.cons rfl (.nil)))))) ?_
  rintro nn wl2 ls ⟨j, xss, rfl, hj, hxl, hn18, G, hR, hB4, hB29, ha19, rfl⟩
  have hs47 := World.grownBy.size G
  have hrk := rowOk_at hxl.2 (k := (n - 1).toNat) (by omega)
  have hl6 := letters_len6 al
  refine Cq.seq ?_
  refine Cq.seq ?_
  refine Cq.region ?_
  refine Sq.move .plain rfl rfl ?_
  refine Sq.fieldAddr fld26_1 .plain rfl rfl ?_
  refine Sq.loadB one23 .plain rfl rfl hB29 rfl ?_
  refine Sq.move .plain rfl rfl ?_
  refine Sq.sub .plain rfl rfl rfl (by omega) ?_
  refine Sq.idxRows sl23 one38 (OwnRows.rows hn18) .plain rfl rfl rfl .plain rfl rfl (by omega) (by omega) (fun r48 hr49 => ?_)
  refine Sq.lenInts hr49 .plain rfl und38 rfl ?_
  refine Sq.lss .plain rfl rfl rfl ?_
  refine Sq.part (fun c50 => ?_) (fun c50 => ?_)
  · refine Sq.nil ?_
    refine Eq.next ?_
    refine Cq.thn rfl ?_
    refine Cq.skip ?_
    refine Eq.next ?_
    refine Cq.seq ?_
    refine Cq.block ?_
    refine Cq.region ?_
    refine Sq.fieldAddr fld26_1 .plain rfl rfl ?_
    refine Sq.loadB one23 .plain rfl rfl hB29 rfl ?_
    refine Sq.move .plain rfl rfl ?_
    refine Sq.sub .plain rfl rfl rfl (by omega) ?_
    obtain ⟨p51, r53, hp52, _⟩ := Rows.at (OwnRows.rows hn18) (i := n - 1) (by omega) (by omega)
    have hr54 := (OwnRows.rowAt hn18 hp52).1
    refine Sq.val .plain rfl rfl (Still.at' sl23 hp52 rfl rfl) ?_
    refine Sq.val .plain rfl rfl (Still.loadA one38 rfl hp52.1) ?_
    refine Sq.move .plain rfl rfl ?_
    refine Sq.move .plain rfl rfl ?_
    refine Sq.sub .plain rfl rfl rfl (by omega) ?_
    obtain ⟨p55, hp56o⟩ := Own.at hr54 (i := j) (by omega) (by first | (simp only [List.length_map]; omega) | (simp; omega))
    refine Sq.atO sl38 hp56o .plain rfl rfl rfl ?_
    refine Sq.storeO one3 hr54 hp56o .plain rfl rfl rfl (fun w57 g58 ho59 => ?_)
    have hs60 := World.grownBy.size g58
    rw [← List.map_set] at ho59
    replace hn18 := (OwnRows.set hn18 (by decide) hp52 ho59 g58).1
    replace G := grown_new G hr54 g58 (by omega)
    replace hR := hR.owned hr54 g58 (by decide)
    replace hB4 := hB4.owned hr54 g58 (by decide)
    replace hB29 := hB29.owned hr54 g58 (by decide)
    replace ha19 := ha19.owned hr54 g58 (by decide)
    refine Sq.nil ?_
    refine Eq.end ?_
    refine Eq.next ?_
    refine Cq.region ?_
    refine Sq.move .plain rfl rfl ?_
    refine Sq.add .plain rfl rfl rfl (by omega) ?_
    refine Sq.assign .plain rfl rfl ?_
    refine Sq.nil ?_
    refine Eq.round _ _ ⟨j + 1, _, rfl, by omega, ⟨by rw [List.length_set]; exact hxl.1, rows_set hxl.2 (rowOk_set hrk (by omega))⟩, OwnRows.now hn18, G, hR, hB4, hB29, ha19, rfl⟩ (by rw [getD_set_self (by omega), List.length_set]; omega) (.cons rfl (.cons rfl (.cons rfl (.cons rfl (.cons rfl (.nil))))))
  refine Sq.nil ?_
  refine Eq.next ?_
  refine Cq.els rfl ?_
  refine Cq.exit ?_
  refine Eq.past ?_
  refine Eq.past ?_
  refine Eq.hit ?_
  refine Eq.next ?_
  refine Cq.seq ?_
  refine Cq.region ?_
  refine Sq.loadAgg agg26 .plain rfl rfl hB29 rfl ?_
  refine Sq.storeAgg agg26 .plain rfl rfl (one_cons rfl (one_cons (Rows.one (OwnRows.rows hn18)) (one_cons (Row.one (Own.row ha19)) one_nil))) hB4 rfl rfl (fun w61 g62 hB63 => ?_)
  have hs64 := World.grownBy.size g62
  replace G := grown_far G g62 (fun k hk => by injection hk with hk; subst hk; omega)
  replace hR := hR.grown g62 (by intro h; injection h with h; omega)
  replace ha19 := ha19.stored g62 hB4 (by decide)
  replace hn18 := hn18.stored g62 hB4 (by decide) (by decide)
  replace hB4 := hB63
  refine Sq.nil ?_
  refine Eq.next ?_
  refine Cq.ret ?_
  refine Eq.retCell rfl rfl agg26 hB4 rfl ?_
  exact ⟨⟨_, by omega, hR, G⟩, ⟨al, xss, ys⟩, ⟨_, _, by first | rfl | (simp only [hal21]), OwnRows.now (OwnRows.mono hn18 (by omega)), Own.mono ha19 (by omega)⟩, validA_mk hal (by show 1 ≤ xss.length ∧ xss.length ≤ 12; omega) (by show ys.length = xss.length; omega) (by intro row hr; have e : ((⟨al, xss, ys⟩ : A).next.length : Int) = n := (by show (xss.length : Int) = n; omega); rw [e]; exact hxl.2 row hr), rfl, by show (xss.length : Int) = n; omega⟩
set_option maxRecDepth 100000 in
theorem l3Over_c (w0 : World) (rb : Nat) (bv : Value) (p : Int) (bs : List UInt8) (e0 : TypeId) (hR : Blk w0 rb 46 [bv, .int .i64 p]) (hb : Src w0 e0 bv bs rb) (hbl : bs.length ≤ 2000) (hp : 0 ≤ p ∧ p ≤ 600000000) (al : Int) (hal : 0 ≤ al ∧ al ≤ 63) : Ret Try.prog 34 #[Value.pointer (some ⟨rb, 0, none⟩), Value.int .i64 al] w0 (fun v w => (∃ p', (p ≤ p' ∧ p' ≤ p + 200) ∧ Blk w rb 46 [bv, .int .i64 p'] ∧ w0.grownBy w (some rb)) ∧ ∃ a, OwnA w w0.heap.size v a ∧ validA a = true ∧ a.al = al) := by
  have G := World.grownBy.refl w0 (some rb)
  have hlt := hR.lt
  refine Ret.of (args := [Value.pointer (some ⟨rb, 0, none⟩), Value.int .i64 al]) Try.func34 rfl rfl rfl ?_
  rintro _ rfl
  show Cq _ _ _ _ [(0, Value.pointer (some ⟨rb, 0, none⟩)), (1, Value.int .i64 al)] _
  refine Cq.seq ?_
  refine Cq.region ?_
  refine Sq.alloc zero26 .plain rfl (fun b1 w2 e3 hB4 hlo5 => ?_)
  have hd6 := Nat.lt_of_lt_of_le hR.lt hlo5
  have hd7 := Nat.le_trans (World.grownBy.size G) hlo5
  have hs8 := Below.size e3
  replace hR := hR.ext e3
  replace G := grown_trans G (Ext.to_grown e3 _)
  refine Sq.nil ?_
  refine Eq.next ?_
  refine Cq.seq ?_
  refine Cq.seq ?_
  refine Cq.region ?_
  refine Sq.move .plain rfl rfl ?_
  refine Sq.call fn19 .plain rfl rfl (pick_c _ _ _ _ _ _ hR (hb.go G) hbl (by omega) 2 (by omega)) ?_
  rintro _ w10 ⟨⟨p11, hp14, hB13, g12⟩, ⟨k15, rfl, hk16⟩⟩
  have hs17 := World.grownBy.size g12
  have hs18 := World.grownBy.size G
  have hs19 := World.grownBy.size g12
  replace G := grown_trans G g12
  replace hB4 := hB4.grown g12 (by intro h; injection h with h; omega)
  replace hR := hB13
  refine Sq.eql .plain rfl rfl rfl ?_
  refine Sq.part (fun c20 => ?_) (fun c20 => ?_)
  · refine Sq.nil ?_
    refine Eq.next ?_
    refine Cq.thn rfl ?_
    refine Cq.seq ?_
    refine Cq.region ?_
    refine Sq.move .plain rfl rfl ?_
    refine Sq.move .plain rfl rfl ?_
    refine Sq.move .plain rfl rfl ?_
    refine Sq.lit sl38 rfl rfl .plain rfl rfl (one_cons rfl (one_cons rfl (one_cons rfl (one_cons rfl one_nil)))) (fun b21 w22 e23 hlo24 ho25 _ => ?_)
    replace ho25 := ho25 w10.heap.size (Nat.le_refl _)
    have hs27 := Below.size e23
    replace hR := hR.ext e23
    replace G := grown_trans G (Ext.to_grown e23 _)
    replace hB4 := hB4.ext e23
    refine Sq.call fn11 .plain rfl rfl (num_c _ _ _ _ _ _ hR (hb.go G) hbl (by omega) _ [3, 2, 4, 1] (Own.row ho25) (by simp)) ?_
    rintro _ w29 ⟨⟨p30, hp33, hB32, g31⟩, ⟨k34, rfl, hm35⟩⟩
    have hs36 := World.grownBy.size g31
    have hs37 := World.grownBy.size G
    have hs38 := World.grownBy.size g31
    replace G := grown_trans G g31
    replace hB4 := hB4.grown g31 (by intro h; injection h with h; omega)
    replace hR := hB32
    simp only [List.mem_cons, List.not_mem_nil, or_false] at hm35
    refine Sq.call fn40 .plain rfl rfl (l3Safe_c _ _ _ _ _ _ hR (hb.go G) hbl (by omega) al k34 (by omega) (by omega)) ?_
    rintro _ w40 ⟨⟨p41, hp44, hB43, g42⟩, ⟨a45, ⟨nx46, ac47, rfl, hn48, ha49⟩, hv50, hal51, hlen52⟩⟩
    have hs53 := World.grownBy.size g42
    have hs54 := World.grownBy.size G
    have hs55 := World.grownBy.size g42
    replace G := grown_trans G g42
    replace hB4 := hB4.grown g42 (by intro h; injection h with h; omega)
    replace hR := hB43
    refine Sq.storeAgg agg26 .plain rfl rfl (one_cons rfl (one_cons (Rows.one (OwnRows.rows hn48)) (one_cons (Row.one (Own.row ha49)) one_nil))) hB4 rfl rfl (fun w56 g57 hB58 => ?_)
    have hs59 := World.grownBy.size g57
    replace hR := hR.grown g57 (by intro h; injection h with h; omega)
    replace G := grown_far G g57 (fun k hk => by injection hk with hk; subst hk; omega)
    replace hn48 := hn48.stored g57 hB4 (by decide) (by decide)
    replace ha49 := ha49.stored g57 hB4 (by decide)
    replace hB4 := hB58
    refine Sq.nil ?_
    refine Eq.next ?_
    refine Cq.ret ?_
    refine Eq.pastRet ?_
    refine Eq.retCell rfl rfl agg26 hB4 rfl ?_
    exact ⟨⟨_, by omega, hR, G⟩, _, ⟨_, _, rfl, OwnRows.now (OwnRows.mono hn48 (by omega)), Own.mono ha49 (by omega)⟩, hv50, hal51⟩
  refine Sq.nil ?_
  refine Eq.next ?_
  refine Cq.els rfl ?_
  refine Cq.skip ?_
  refine Eq.next ?_
  refine Cq.seq ?_
  refine Cq.region ?_
  refine Sq.move .plain rfl rfl ?_
  refine Sq.move .plain rfl rfl ?_
  refine Sq.move .plain rfl rfl ?_
  refine Sq.lit sl38 rfl rfl .plain rfl rfl (one_cons rfl (one_cons rfl (one_cons rfl (one_cons rfl (one_cons rfl one_nil))))) (fun b60 w61 e62 hlo63 ho64 _ => ?_)
  replace ho64 := ho64 w10.heap.size (Nat.le_refl _)
  have hs66 := Below.size e62
  replace hR := hR.ext e62
  replace G := grown_trans G (Ext.to_grown e62 _)
  replace hB4 := hB4.ext e62
  refine Sq.call fn11 .plain rfl rfl (num_c _ _ _ _ _ _ hR (hb.go G) hbl (by omega) _ [2, 3, 1, 4, 5] (Own.row ho64) (by simp)) ?_
  rintro _ w68 ⟨⟨p69, hp72, hB71, g70⟩, ⟨k73, rfl, hm74⟩⟩
  have hs75 := World.grownBy.size g70
  have hs76 := World.grownBy.size G
  have hs77 := World.grownBy.size g70
  replace G := grown_trans G g70
  replace hB4 := hB4.grown g70 (by intro h; injection h with h; omega)
  replace hR := hB71
  simp only [List.mem_cons, List.not_mem_nil, or_false] at hm74
  refine Sq.call fn41 .plain rfl rfl (l3Random_c _ _ _ _ _ _ hR (hb.go G) hbl (by omega) al k73 (by omega) (by omega)) ?_
  rintro _ w79 ⟨⟨p80, hp83, hB82, g81⟩, ⟨a84, ⟨nx85, ac86, rfl, hn87, ha88⟩, hv89, hal90, hlen91⟩⟩
  have hs92 := World.grownBy.size g81
  have hs93 := World.grownBy.size G
  have hs94 := World.grownBy.size g81
  replace G := grown_trans G g81
  replace hB4 := hB4.grown g81 (by intro h; injection h with h; omega)
  replace hR := hB82
  refine Sq.storeAgg agg26 .plain rfl rfl (one_cons rfl (one_cons (Rows.one (OwnRows.rows hn87)) (one_cons (Row.one (Own.row ha88)) one_nil))) hB4 rfl rfl (fun w95 g96 hB97 => ?_)
  have hs98 := World.grownBy.size g96
  replace hR := hR.grown g96 (by intro h; injection h with h; omega)
  replace G := grown_far G g96 (fun k hk => by injection hk with hk; subst hk; omega)
  replace hn87 := hn87.stored g96 hB4 (by decide) (by decide)
  replace ha88 := ha88.stored g96 hB4 (by decide)
  replace hB4 := hB97
  refine Sq.nil ?_
  refine Eq.next ?_
  refine Cq.ret ?_
  refine Eq.retCell rfl rfl agg26 hB4 rfl ?_
  exact ⟨⟨_, by omega, hR, G⟩, _, ⟨_, _, rfl, OwnRows.now (OwnRows.mono hn87 (by omega)), Own.mono ha88 (by omega)⟩, hv89, hal90⟩
set_option maxRecDepth 100000 in
theorem l3Big_c (w0 : World) (rb : Nat) (bv : Value) (p : Int) (bs : List UInt8) (e0 : TypeId) (hR : Blk w0 rb 46 [bv, .int .i64 p]) (hb : Src w0 e0 bv bs rb) (hbl : bs.length ≤ 2000) (hp : 0 ≤ p ∧ p ≤ 800000000) : Ret Try.prog 20 #[Value.pointer (some ⟨rb, 0, none⟩)] w0 (fun v w => (∃ p', (p ≤ p' ∧ p' ≤ p + 100) ∧ Blk w rb 46 [bv, .int .i64 p'] ∧ w0.grownBy w (some rb)) ∧ ∃ a, OwnA w w0.heap.size v a ∧ validA a = true) := by
  have G := World.grownBy.refl w0 (some rb)
  have hlt := hR.lt
  refine Ret.of (args := [Value.pointer (some ⟨rb, 0, none⟩)]) Try.func20 rfl rfl rfl ?_
  rintro _ rfl
  show Cq _ _ _ _ [(0, Value.pointer (some ⟨rb, 0, none⟩))] _
  refine Cq.seq ?_
  refine Cq.region ?_
  refine Sq.alloc zero26 .plain rfl (fun b1 w2 e3 hB4 hlo5 => ?_)
  have hd6 := Nat.lt_of_lt_of_le hR.lt hlo5
  have hd7 := Nat.le_trans (World.grownBy.size G) hlo5
  have hs8 := Below.size e3
  replace hR := hR.ext e3
  replace G := grown_trans G (Ext.to_grown e3 _)
  refine Sq.nil ?_
  refine Eq.next ?_
  refine Cq.seq ?_
  refine Cq.region ?_
  refine Sq.build st26 rfl rfl .plain rfl rfl (one_cons rfl one_nil) rfl ?_
  refine Sq.alloc zero26 .plain rfl (fun b9 w10 e11 hB12 hlo13 => ?_)
  have hd14 := Nat.lt_of_lt_of_le hR.lt hlo13
  have hd15 := Nat.le_trans (World.grownBy.size G) hlo13
  have hd16 := Nat.lt_of_lt_of_le hB4.lt hlo13
  have hs17 := Below.size e11
  replace hR := hR.ext e11
  replace G := grown_trans G (Ext.to_grown e11 _)
  replace hB4 := hB4.ext e11
  refine Sq.storeAgg agg26 .plain rfl rfl (one_cons rfl (one_cons rfl (one_cons rfl one_nil))) hB12 rfl rfl (fun w18 g19 hB20 => ?_)
  have hs21 := World.grownBy.size g19
  replace hR := hR.grown g19 (by intro h; injection h with h; omega)
  replace G := grown_far G g19 (fun k hk => by injection hk with hk; subst hk; omega)
  replace hB4 := hB4.grown g19 (by intro h; injection h with h; omega)
  replace hB12 := hB20
  refine Sq.nil ?_
  refine Eq.next ?_
  refine Cq.seq ?_
  refine Cq.seq ?_
  refine Cq.region ?_
  refine Sq.assign .plain rfl rfl ?_
  refine Sq.nil ?_
  refine Eq.next ?_
  refine Cq.block ?_
  refine Cq.loop (fun nn w ls => ∃ (i : Int), ∃ (p1 : Int), ∃ (nxv : Value), ∃ (acv : Value), ∃ (xss : List (List Int)), ∃ (ys : List Bool), ls = [(0, Value.pointer (some ⟨rb, 0, none⟩)), (2, Value.pointer (some ⟨b1, 0, none⟩)), (3, Value.pointer (some ⟨b9, 0, none⟩)), (4, Value.int .i64 i)] ∧ (0 ≤ i ∧ i ≤ 12) ∧ (p ≤ p1 ∧ p1 ≤ p + 3 * i) ∧ Blk w rb 46 [bv, Value.int .i64 p1] ∧ Blk w b9 26 [Value.int .i64 3, nxv, acv] ∧ OwnRows w w0.heap.size w.heap.size 38 3 nxv xss ∧ Own w w0.heap.size 4 acv (ys.map Value.bool) ∧ ((xss.length : Int) = i ∧ (ys.length : Int) = i ∧ ∀ row ∈ xss, rowOk 2 12 row = true) ∧ World.grownBy w0 w (some rb) ∧ Blk w b1 26 [Value.int .i64 0, Value.slice none 0 0, Value.slice none 0 0] ∧ nn = (12 - i).toNat) _ _ ⟨0, p, _, _, [], [], rfl, by omega, by omega, hR, hB12, OwnRows.nil _ _ _ _ _, Own.nil _ _ _, by simp, G, hB4, rfl⟩ (.cons rfl (.cons rfl (.cons rfl (.cons rfl (.nil))))) ?_
  rintro nn wl1 ls ⟨i, p1, nxv, acv, xss, ys, rfl, hi, hp1, hR, hB7, hor, hoa, hxl, G, hB4, rfl⟩
  have hs22 := World.grownBy.size G
  refine Cq.seq ?_
  refine Cq.seq ?_
  refine Cq.region ?_
  refine Sq.move .plain rfl rfl ?_
  refine Sq.lss .plain rfl rfl rfl ?_
  refine Sq.part (fun c23 => ?_) (fun c23 => ?_)
  · refine Sq.nil ?_
    refine Eq.next ?_
    refine Cq.thn rfl ?_
    refine Cq.skip ?_
    refine Eq.next ?_
    refine Cq.seq ?_
    refine Cq.block ?_
    refine Cq.seq ?_
    refine Cq.drawS 12 (fun w' => Blk w' b9 26 [Value.int .i64 3, nxv, acv]) mixed (hB7) (fun w24 e25 hS => ?_)
    clear hS
    have hs26 := Below.size e25
    replace G := grown_trans G (Ext.to_grown e25 _)
    replace hB4 := hB4.ext e25
    replace hR := hR.ext e25
    replace hB7 := hB7.ext e25
    replace hor := hor.ext e25
    replace hoa := hoa.ext e25
    refine Gq.st 0 rfl (by kernel_rfl) rfl .plain rfl (fun _ _ _ h => h) hB7 (fun w' x => Still.fieldAddr fld26_1 rfl) ?_
    refine Gq.st 1 rfl (by kernel_rfl) rfl .plain rfl (fun _ _ _ h => h) hB7 (fun w' x => Still.loadB one23 rfl x rfl) ?_
    refine Gq.st 2 rfl (by kernel_rfl) rfl .plain rfl (fun _ _ _ h => h) hB7 (fun w' x => Still.move rfl) ?_
    refine Gq.st 3 rfl (by kernel_rfl) rfl .plain rfl (fun _ _ _ h => h) hB7 (fun w' x => Still.add rfl rfl (by omega)) ?_
    refine Gq.st 4 rfl (by kernel_rfl) rfl .plain rfl (fun _ _ _ h => h) hB7 (fun w' x => Still.rem rfl rfl (by omega)) ?_
    refine Gq.st 5 rfl (by kernel_rfl) rfl .plain rfl (fun _ _ _ h => h) hB7 (fun w' x => Still.move rfl) ?_
    refine Gq.st 6 rfl (by kernel_rfl) rfl .plain rfl (fun _ _ _ h => h) hB7 (fun w' x => Still.move rfl) ?_
    refine Gq.one 7 rfl (by kernel_rfl) ?_
    refine Sq.lit sl38 rfl rfl .plain rfl rfl (one_cons rfl (one_cons rfl (one_cons rfl one_nil))) (fun b27 w28 e29 hlo30 ho31 _ => ?_)
    replace ho31 := ho31 w24.heap.size (Nat.le_refl _)
    have hs33 := Below.size e29
    replace G := grown_trans G (Ext.to_grown e29 _)
    replace hB4 := hB4.ext e29
    replace hR := hR.ext e29
    replace hB7 := hB7.ext e29
    replace hor := hor.ext e29
    replace hoa := hoa.ext e29
    refine Sq.nil ?_
    refine Eq.goes (fun _ => hB7) ?_
    refine Gq.one 8 rfl (by kernel_rfl) ?_
    refine Sq.call fn11 .plain rfl rfl (num_c _ _ _ _ _ _ hR (hb.go G) hbl (by omega) _ [i, 0, 11] (Own.row ho31) (by simp)) ?_
    rintro _ w35 ⟨⟨p36, hp39, hB38, g37⟩, ⟨k40, rfl, hm41⟩⟩
    have hs42 := World.grownBy.size g37
    have hs43 := World.grownBy.size G
    have hs44 := World.grownBy.size g37
    replace G := grown_trans G g37
    replace hB4 := hB4.grown g37 (by intro h; injection h with h; omega)
    replace hB7 := hB7.grown g37 (by intro h; injection h with h; omega)
    replace hor := hor.stored g37 hR (by decide) (by decide)
    replace hoa := hoa.stored g37 hR (by decide)
    replace hR := hB38
    simp only [List.mem_cons, List.not_mem_nil, or_false] at hm41
    refine Sq.nil ?_
    refine Eq.goes (fun _ => hB7) ?_
    refine Gq.one 9 rfl (by kernel_rfl) ?_
    refine Sq.lit sl38 rfl rfl .plain rfl rfl (one_cons rfl (one_cons rfl one_nil)) (fun b45 w46 e47 hlo48 ho49 _ => ?_)
    replace ho49 := ho49 w35.heap.size (Nat.le_refl _)
    have hs51 := Below.size e47
    replace G := grown_trans G (Ext.to_grown e47 _)
    replace hB4 := hB4.ext e47
    replace hR := hR.ext e47
    replace hB7 := hB7.ext e47
    replace hor := hor.ext e47
    replace hoa := hoa.ext e47
    refine Sq.nil ?_
    refine Eq.goes (fun _ => hB7) ?_
    refine Gq.one 10 rfl (by kernel_rfl) ?_
    refine Sq.lit sl23 rfl rfl .plain rfl rfl (one_cons (Row.one (Own.row ho49)) one_nil) (fun b52 w53 e54 hlo55 ho56 _ => ?_)
    replace ho56 := ho56 w46.heap.size (Nat.le_refl _)
    have hs58 := Below.size e54
    replace G := grown_trans G (Ext.to_grown e54 _)
    replace hB4 := hB4.ext e54
    replace hR := hR.ext e54
    replace hB7 := hB7.ext e54
    replace hor := hor.ext e54
    replace hoa := hoa.ext e54
    replace ho49 := ho49.ext e54
    refine Sq.nil ?_
    refine Eq.goes (fun _ => hB7) ?_
    refine Gq.one 11 rfl (by kernel_rfl) ?_
    obtain ⟨rs63, q64, q65, q66⟩ := OwnRows.open hor (by decide)
    have q66x := Ext.refl w53
    refine Sq.app sl23 q64 (by omega) (Own.row ho56) (one_cons (Row.one (Own.row ho49)) one_nil) (by rw [q65]; first | omega | (simp; omega)) .plain rfl rfl rfl rfl (fun v59 w60 ho62 g61 => ?_)
    have hs67 := g61.size
    have ho62r := q66 _ (([(i + 1) % 12, k40] : List Int)) _ _ _ (Ext.refl _) (Own.mono ho49 (by omega)) (by omega) ho62 g61
    replace G := grown_new G q64 g61 (by omega)
    replace hB4 := hB4.owned q64 g61 (by decide)
    replace hR := hR.owned q64 g61 (by decide)
    replace hB7 := hB7.owned q64 g61 (by decide)
    replace hoa := hoa.owned q64 g61 (by decide)
    refine Sq.nil ?_
    refine Eq.goes (fun _ => hB7) ?_
    refine Gq.one 12 rfl (by kernel_rfl) ?_
    refine Sq.fieldAddr fld26_1 .plain rfl rfl ?_
    refine Sq.nil ?_
    refine Eq.goes (fun h => absurd h (by decide)) ?_
    refine Gq.one 13 rfl (by kernel_rfl) ?_
    refine Sq.store one23 .plain rfl rfl (Rows.one (OwnRows.rows ho62r)) hB7 (by simp) (fun w68 g69 hB70 => ?_)
    have hs71 := World.grownBy.size g69
    replace G := grown_far G g69 (fun k hk => by injection hk with hk; subst hk; omega)
    replace hB4 := hB4.grown g69 (by intro h; injection h with h; omega)
    replace hR := hR.grown g69 (by intro h; injection h with h; omega)
    replace hoa := hoa.stored g69 hB7 (by decide)
    replace ho62r := ho62r.stored g69 hB7 (by decide) (by decide)
    replace hB7 := hB70
    refine Sq.nil ?_
    refine Eq.goes (fun h => absurd h (by decide)) ?_
    refine Gq.done (by kernel_rfl) ?_
    refine Eq.next ?_
    refine Cq.drawS 11 (fun w' => Blk w' b9 26 [Value.int .i64 3, v59, acv]) mixed (hB7) (fun w72 e73 hS => ?_)
    clear hS
    have hs74 := Below.size e73
    replace G := grown_trans G (Ext.to_grown e73 _)
    replace hB4 := hB4.ext e73
    replace hR := hR.ext e73
    replace hB7 := hB7.ext e73
    replace hoa := hoa.ext e73
    replace ho62r := ho62r.ext e73
    refine Gq.st 0 rfl (by kernel_rfl) rfl .plain rfl (fun _ _ _ h => h) hB7 (fun w' x => Still.fieldAddr fld26_2 rfl) ?_
    refine Gq.st 1 rfl (by kernel_rfl) rfl .plain rfl (fun _ _ _ h => h) hB7 (fun w' x => Still.loadB one24 rfl x rfl) ?_
    refine Gq.st 2 rfl (by kernel_rfl) rfl .plain rfl (fun _ _ _ h => h) hB7 (fun w' x => Still.move rfl) ?_
    refine Gq.st 3 rfl (by kernel_rfl) rfl .plain rfl (fun _ _ _ h => h) hB7 (fun w' x => Still.eql rfl rfl) ?_
    refine Gq.part (fun c75 => ?_) (fun c75 => ?_)
    · refine Gq.st 4 rfl (by kernel_rfl) rfl .plain rfl (fun _ _ _ h => h) hB7 (fun w' x => Still.move rfl) ?_
      refine Gq.off 5 rfl (by kernel_rfl) rfl rfl rfl rfl rfl rfl (fun _ _ _ h => h) hB7 ?_
      refine Gq.off 6 rfl (by kernel_rfl) rfl rfl rfl rfl rfl rfl (fun _ _ _ h => h) hB7 ?_
      refine Gq.off 7 rfl (by kernel_rfl) rfl rfl rfl rfl rfl rfl (fun _ _ _ h => h) hB7 ?_
      refine Gq.st 8 rfl (by kernel_rfl) rfl .plain rfl (fun _ _ _ h => h) hB7 (fun w' x => Still.pickT rfl rfl) ?_
      refine Gq.one 9 rfl (by kernel_rfl) ?_
      refine Sq.lit sl24 rfl rfl .plain rfl rfl (one_cons rfl one_nil) (fun b76 w77 e78 hlo79 ho80 _ => ?_)
      replace ho80 := ho80 w72.heap.size (Nat.le_refl _)
      have hs82 := Below.size e78
      replace G := grown_trans G (Ext.to_grown e78 _)
      replace hB4 := hB4.ext e78
      replace hR := hR.ext e78
      replace hB7 := hB7.ext e78
      replace hoa := hoa.ext e78
      replace ho62r := ho62r.ext e78
      refine Sq.nil ?_
      refine Eq.goes (fun _ => hB7) ?_
      refine Gq.one 10 rfl (by kernel_rfl) ?_
      refine Sq.app sl24 hoa (by omega) (Own.row ho80) (one_cons rfl one_nil) (by first | omega | (simp; omega)) .plain rfl rfl rfl rfl (fun v83 w84 ho86 g85 => ?_)
      have hs87 := g85.size
      replace G := grown_new G hoa g85 (by omega)
      replace hB4 := hB4.owned hoa g85 (by decide)
      replace hR := hR.owned hoa g85 (by decide)
      replace hB7 := hB7.owned hoa g85 (by decide)
      replace ho62r := ho62r.owned hoa g85 (by decide) (by decide)
      refine Sq.nil ?_
      refine Eq.goes (fun _ => hB7) ?_
      refine Gq.one 11 rfl (by kernel_rfl) ?_
      refine Sq.fieldAddr fld26_2 .plain rfl rfl ?_
      refine Sq.nil ?_
      refine Eq.goes (fun h => absurd h (by decide)) ?_
      refine Gq.one 12 rfl (by kernel_rfl) ?_
      refine Sq.store one24 .plain rfl rfl (Row.one (Own.row ho86)) hB7 (by simp) (fun w88 g89 hB90 => ?_)
      have hs91 := World.grownBy.size g89
      replace G := grown_far G g89 (fun k hk => by injection hk with hk; subst hk; omega)
      replace hB4 := hB4.grown g89 (by intro h; injection h with h; omega)
      replace hR := hR.grown g89 (by intro h; injection h with h; omega)
      replace ho62r := ho62r.stored g89 hB7 (by decide) (by decide)
      replace ho86 := ho86.stored g89 hB7 (by decide)
      replace hB7 := hB90
      refine Sq.nil ?_
      refine Eq.goes (fun h => absurd h (by decide)) ?_
      refine Gq.done (by kernel_rfl) ?_
      refine Eq.end ?_
      refine Eq.next ?_
      refine Cq.region ?_
      refine Sq.move .plain rfl rfl ?_
      refine Sq.add .plain rfl rfl rfl (by omega) ?_
      refine Sq.assign .plain rfl rfl ?_
      refine Sq.nil ?_
      refine Eq.round _ _ ⟨i + 1, _, _, _, _, _, rfl, by omega, by omega, hR, hB7, OwnRows.now ho62r, Own.snocB ho86, ⟨by simp; omega, by simp; omega, rows_snoc hxl.2.2 (rowOk_mk rfl (by simp; omega))⟩, G, hB4, rfl⟩ (by omega) (.cons rfl (.cons rfl (.cons rfl (.cons rfl (.nil)))))
    refine Gq.st 4 rfl (by kernel_rfl) rfl .plain rfl (fun _ _ _ h => h) hB7 (fun w' x => Still.move rfl) ?_
    refine Gq.st 5 rfl (by kernel_rfl) rfl (.met rfl rfl rfl) rfl (fun _ _ _ h => h) hB7 (fun w' x => Still.move rfl) ?_
    refine Gq.one 6 rfl (by kernel_rfl) ?_
    refine Sq.call fn19 (.met rfl rfl rfl) rfl rfl (pick_c _ _ _ _ _ _ hR (hb.go G) hbl (by omega) 5 (by omega)) ?_
    rintro _ w93 ⟨⟨p94, hp97, hB96, g95⟩, ⟨k98, rfl, hk99⟩⟩
    have hs100 := World.grownBy.size g95
    have hs101 := World.grownBy.size G
    have hs102 := World.grownBy.size g95
    replace G := grown_trans G g95
    replace hB4 := hB4.grown g95 (by intro h; injection h with h; omega)
    replace hB7 := hB7.grown g95 (by intro h; injection h with h; omega)
    replace hoa := hoa.stored g95 hR (by decide)
    replace ho62r := ho62r.stored g95 hR (by decide) (by decide)
    replace hR := hB96
    refine Sq.nil ?_
    refine Eq.goes (fun _ => hB7) ?_
    refine Gq.st 7 rfl (by kernel_rfl) rfl (.met rfl rfl rfl) rfl (fun _ _ _ h => h) hB7 (fun w' x => Still.eql rfl rfl) ?_
    refine Gq.st 8 rfl (by kernel_rfl) rfl .plain rfl (fun _ _ _ h => h) hB7 (fun w' x => Still.pickF rfl rfl) ?_
    refine Gq.one 9 rfl (by kernel_rfl) ?_
    refine Sq.lit sl24 rfl rfl .plain rfl rfl (one_cons rfl one_nil) (fun b103 w104 e105 hlo106 ho107 _ => ?_)
    replace ho107 := ho107 w93.heap.size (Nat.le_refl _)
    have hs109 := Below.size e105
    replace G := grown_trans G (Ext.to_grown e105 _)
    replace hB4 := hB4.ext e105
    replace hR := hR.ext e105
    replace hB7 := hB7.ext e105
    replace hoa := hoa.ext e105
    replace ho62r := ho62r.ext e105
    refine Sq.nil ?_
    refine Eq.goes (fun _ => hB7) ?_
    refine Gq.one 10 rfl (by kernel_rfl) ?_
    refine Sq.app sl24 hoa (by omega) (Own.row ho107) (one_cons rfl one_nil) (by first | omega | (simp; omega)) .plain rfl rfl rfl rfl (fun v110 w111 ho113 g112 => ?_)
    have hs114 := g112.size
    replace G := grown_new G hoa g112 (by omega)
    replace hB4 := hB4.owned hoa g112 (by decide)
    replace hR := hR.owned hoa g112 (by decide)
    replace hB7 := hB7.owned hoa g112 (by decide)
    replace ho62r := ho62r.owned hoa g112 (by decide) (by decide)
    refine Sq.nil ?_
    refine Eq.goes (fun _ => hB7) ?_
    refine Gq.one 11 rfl (by kernel_rfl) ?_
    refine Sq.fieldAddr fld26_2 .plain rfl rfl ?_
    refine Sq.nil ?_
    refine Eq.goes (fun h => absurd h (by decide)) ?_
    refine Gq.one 12 rfl (by kernel_rfl) ?_
    refine Sq.store one24 .plain rfl rfl (Row.one (Own.row ho113)) hB7 (by simp) (fun w115 g116 hB117 => ?_)
    have hs118 := World.grownBy.size g116
    replace G := grown_far G g116 (fun k hk => by injection hk with hk; subst hk; omega)
    replace hB4 := hB4.grown g116 (by intro h; injection h with h; omega)
    replace hR := hR.grown g116 (by intro h; injection h with h; omega)
    replace ho62r := ho62r.stored g116 hB7 (by decide) (by decide)
    replace ho113 := ho113.stored g116 hB7 (by decide)
    replace hB7 := hB117
    refine Sq.nil ?_
    refine Eq.goes (fun h => absurd h (by decide)) ?_
    refine Gq.done (by kernel_rfl) ?_
    refine Eq.end ?_
    refine Eq.next ?_
    refine Cq.region ?_
    refine Sq.move .plain rfl rfl ?_
    refine Sq.add .plain rfl rfl rfl (by omega) ?_
    refine Sq.assign .plain rfl rfl ?_
    refine Sq.nil ?_
    refine Eq.round _ _ ⟨i + 1, _, _, _, _, _, rfl, by omega, by omega, hR, hB7, OwnRows.now ho62r, Own.snocB ho113, ⟨by simp; omega, by simp; omega, rows_snoc hxl.2.2 (rowOk_mk rfl (by simp; omega))⟩, G, hB4, rfl⟩ (by omega) (.cons rfl (.cons rfl (.cons rfl (.cons rfl (.nil)))))
  refine Sq.nil ?_
  refine Eq.next ?_
  refine Cq.els rfl ?_
  refine Cq.exit ?_
  refine Eq.past ?_
  refine Eq.past ?_
  refine Eq.hit ?_
  refine Eq.next ?_
  refine Cq.seq ?_
  refine Cq.region ?_
  refine Sq.loadAgg agg26 .plain rfl rfl hB7 rfl ?_
  refine Sq.storeAgg agg26 .plain rfl rfl (one_cons rfl (one_cons (Rows.one (OwnRows.rows hor)) (one_cons (Row.one (Own.row hoa)) one_nil))) hB4 rfl rfl (fun w119 g120 hB121 => ?_)
  have hs122 := World.grownBy.size g120
  replace G := grown_far G g120 (fun k hk => by injection hk with hk; subst hk; omega)
  replace hR := hR.grown g120 (by intro h; injection h with h; omega)
  replace hor := hor.stored g120 hB4 (by decide) (by decide)
  replace hoa := hoa.stored g120 hB4 (by decide)
  replace hB4 := hB121
  refine Sq.nil ?_
  refine Eq.next ?_
  refine Cq.ret ?_
  refine Eq.retCell rfl rfl agg26 hB4 rfl ?_
  exact ⟨⟨_, by omega, hR, G⟩, ⟨3, xss, ys⟩, ⟨_, _, rfl, OwnRows.now hor, hoa⟩, validA_mk (by show (0 : Int) ≤ 3 ∧ (3 : Int) ≤ 63; decide) (by show 1 ≤ xss.length ∧ xss.length ≤ 12; omega) (by show ys.length = xss.length; omega) (by intro row hr; have e : ((⟨3, xss, ys⟩ : A).next.length : Int) = 12 := (by show (xss.length : Int) = 12; omega); rw [e]; show rowOk ((letters 3).length : Int) 12 row = true; rw [show ((letters 3).length : Int) = 2 from by decide]; exact hxl.2.2 row hr)⟩
end Go.Proofs.Ytpnelflmecchlaa
set_option linter.unusedSimpArgs false
set_option linter.unusedVariables false
namespace Go.Proofs.Ytpnelflmecchlaa
open Go.RowKit
set_option maxRecDepth 100000 in
theorem l3Wrong_c (w0 : World) (rb : Nat) (bv : Value) (p : Int) (bs : List UInt8) (e0 : TypeId) (hR : Blk w0 rb 46 [bv, .int .i64 p]) (hb : Src w0 e0 bv bs rb) (hbl : bs.length ≤ 2000) (hp : 0 ≤ p ∧ p ≤ 700000000) (a : A) (nx ac : Value) (hnx : Rows w0 38 3 nx a.next) (hac : Bools w0 4 ac a.acc) (N : Nat) (hN : N ≤ 1000) (hsm : Small N a) : Ret Try.prog 21 #[Value.pointer (some ⟨rb, 0, none⟩), Value.agg #[Value.int .i64 a.al, nx, ac]] w0 (fun v w => (∃ p', (p ≤ p' ∧ p' ≤ p + 10) ∧ Blk w rb 46 [bv, .int .i64 p'] ∧ w0.grownBy w (some rb)) ∧ ∃ a', RowsA w v a' ∧ Small (N + 20) a') := by
  have G := World.grownBy.refl w0 (some rb)
  have hlt := hR.lt
  have hsm1 := hsm.2.1
  have hsm2 := hsm.2.2.1
  refine Ret.of (args := [Value.pointer (some ⟨rb, 0, none⟩), Value.agg #[Value.int .i64 a.al, nx, ac]]) Try.func21 rfl rfl rfl ?_
  rintro _ rfl
  show Cq _ _ _ _ [(0, Value.pointer (some ⟨rb, 0, none⟩)), (1, Value.agg #[Value.int .i64 a.al, nx, ac])] _
  refine Cq.seq ?_
  refine Cq.region ?_
  refine Sq.box .plain rfl rfl (fun b1 w2 e3 hB4 hlo5 => ?_)
  have hd6 := Nat.lt_of_lt_of_le hR.lt hlo5
  have hd7 := Nat.le_trans (World.grownBy.size G) hlo5
  have hs8 := Below.size e3
  replace hR := hR.ext e3
  replace G := grown_trans G (Ext.to_grown e3 _)
  replace hnx := hnx.ext e3
  replace hac := hac.ext e3
  refine Sq.alloc zero26 .plain rfl (fun b9 w10 e11 hB12 hlo13 => ?_)
  have hd14 := Nat.lt_of_lt_of_le hR.lt hlo13
  have hd15 := Nat.le_trans (World.grownBy.size G) hlo13
  have hd16 := Nat.lt_of_lt_of_le hB4.lt hlo13
  have hs17 := Below.size e11
  replace hR := hR.ext e11
  replace G := grown_trans G (Ext.to_grown e11 _)
  replace hnx := hnx.ext e11
  replace hac := hac.ext e11
  replace hB4 := hB4.ext e11
  refine Sq.nil ?_
  refine Eq.next ?_
  refine Cq.seq ?_
  refine Cq.region ?_
  refine Sq.loadAgg agg26 .plain rfl rfl hB4 rfl ?_
  have hd25 := hR.lt
  have hd26 := hB4.lt
  have hd27 := hB12.lt
  refine Sq.call fn30 .plain rfl rfl (l3Copy_c _ a _ _ hnx hac (hsm.fit (by omega))) ?_
  rintro _ w19 ⟨⟨nx21, ac22, rfl, hn23, ha24⟩, e20⟩
  have hs28 := World.grownBy.size G
  have hs29 := Below.size e20
  replace hR := hR.ext e20
  replace G := grown_trans G (Ext.to_grown e20 _)
  replace hB4 := hB4.ext e20
  replace hB12 := hB12.ext e20
  refine Sq.alloc zero26 .plain rfl (fun b30 w31 e32 hB33 hlo34 => ?_)
  have hd35 := Nat.lt_of_lt_of_le hR.lt hlo34
  have hd36 := Nat.le_trans (World.grownBy.size G) hlo34
  have hd37 := Nat.lt_of_lt_of_le hB4.lt hlo34
  have hd38 := Nat.lt_of_lt_of_le hB12.lt hlo34
  have hs39 := Below.size e32
  replace hR := hR.ext e32
  replace G := grown_trans G (Ext.to_grown e32 _)
  replace hB12 := hB12.ext e32
  replace hn23 := hn23.ext e32
  replace ha24 := ha24.ext e32
  refine Sq.storeAgg agg26 .plain rfl rfl (one_cons rfl (one_cons (Rows.one (OwnRows.rows hn23)) (one_cons (Row.one (Own.row ha24)) one_nil))) hB33 rfl rfl (fun w40 g41 hB42 => ?_)
  have hs43 := World.grownBy.size g41
  replace hR := hR.grown g41 (by intro h; injection h with h; omega)
  replace G := grown_far G g41 (fun k hk => by injection hk with hk; subst hk; omega)
  replace hB12 := hB12.grown g41 (by intro h; injection h with h; omega)
  replace hn23 := hn23.stored g41 hB33 (by decide) (by decide)
  replace ha24 := ha24.stored g41 hB33 (by decide)
  replace hB33 := hB42
  refine Sq.nil ?_
  refine Eq.next ?_
  refine Cq.seq ?_
  refine Cq.region ?_
  refine Sq.fieldAddr fld26_1 .plain rfl rfl ?_
  refine Sq.loadB one23 .plain rfl rfl hB33 rfl ?_
  refine Sq.lenRows (OwnRows.rows hn23) .plain rfl und23 rfl ?_
  refine Sq.assign .plain rfl rfl ?_
  refine Sq.nil ?_
  refine Eq.next ?_
  refine Cq.seq ?_
  refine Cq.region ?_
  refine Sq.move .plain rfl rfl ?_
  refine Sq.move .plain rfl rfl ?_
  refine Sq.call fn19 .plain rfl rfl (pick_c _ _ _ _ _ _ hR (hb.go G) hbl (by omega) (List.length a.next : Int) (by omega)) ?_
  rintro _ w45 ⟨⟨p46, hp49, hB48, g47⟩, ⟨k50, rfl, hk51⟩⟩
  have hs52 := World.grownBy.size g47
  have hs53 := World.grownBy.size G
  have hs54 := World.grownBy.size g47
  replace G := grown_trans G g47
  replace hB12 := hB12.grown g47 (by intro h; injection h with h; omega)
  replace hn23 := hn23.stored g47 hR (by decide) (by decide)
  replace ha24 := ha24.stored g47 hR (by decide)
  replace hB33 := hB33.grown g47 (by intro h; injection h with h; omega)
  replace hR := hB48
  have hrowk := hsm.rowAt (k := k50.toNat)
  refine Sq.assign .plain rfl rfl ?_
  refine Sq.nil ?_
  refine Eq.next ?_
  refine Cq.seq ?_
  refine Cq.seq ?_
  refine Cq.region ?_
  refine Sq.move .plain rfl rfl ?_
  refine Sq.call fn19 .plain rfl rfl (pick_c _ _ _ _ _ _ hR (hb.go G) hbl (by omega) 30 (by omega)) ?_
  rintro _ w56 ⟨⟨p57, hp60, hB59, g58⟩, ⟨k61, rfl, hk62⟩⟩
  have hs63 := World.grownBy.size g58
  have hs64 := World.grownBy.size G
  have hs65 := World.grownBy.size g58
  replace G := grown_trans G g58
  replace hB12 := hB12.grown g58 (by intro h; injection h with h; omega)
  replace hn23 := hn23.stored g58 hR (by decide) (by decide)
  replace ha24 := ha24.stored g58 hR (by decide)
  replace hB33 := hB33.grown g58 (by intro h; injection h with h; omega)
  replace hR := hB59
  refine Sq.nil ?_
  refine Eq.next ?_
  refine Cq.block ?_
  refine Cq.seq ?_
  refine Cq.region ?_
  refine Sq.eql .plain rfl rfl rfl ?_
  refine Sq.part (fun c66 => ?_) (fun c66 => ?_)
  · refine Sq.assign .plain rfl rfl ?_
    refine Sq.nil ?_
    refine Eq.next ?_
    refine Cq.thn rfl ?_
    refine Cq.region ?_
    refine Sq.move .plain rfl rfl ?_
    refine Sq.lit sl38 rfl rfl .plain rfl rfl (one_cons rfl (one_cons rfl (one_cons rfl (one_cons rfl (one_cons rfl one_nil))))) (fun b67 w68 e69 hlo70 ho71 _ => ?_)
    replace ho71 := ho71 w56.heap.size (Nat.le_refl _)
    have hs73 := Below.size e69
    replace hR := hR.ext e69
    replace G := grown_trans G (Ext.to_grown e69 _)
    replace hB12 := hB12.ext e69
    replace hn23 := hn23.ext e69
    replace ha24 := ha24.ext e69
    replace hB33 := hB33.ext e69
    refine Sq.call fn11 .plain rfl rfl (num_c _ _ _ _ _ _ hR (hb.go G) hbl (by omega) _ [64, -1, 1, 63, 0] (Own.row ho71) (by simp)) ?_
    rintro _ w75 ⟨⟨p76, hp79, hB78, g77⟩, ⟨k80, rfl, hm81⟩⟩
    have hs82 := World.grownBy.size g77
    have hs83 := World.grownBy.size G
    have hs84 := World.grownBy.size g77
    replace G := grown_trans G g77
    replace hB12 := hB12.grown g77 (by intro h; injection h with h; omega)
    replace hn23 := hn23.stored g77 hR (by decide) (by decide)
    replace ha24 := ha24.stored g77 hR (by decide)
    replace hB33 := hB33.grown g77 (by intro h; injection h with h; omega)
    replace hR := hB78
    simp only [List.mem_cons, List.not_mem_nil, or_false] at hm81
    refine Sq.fieldAddr fld26_0 .plain rfl rfl ?_
    refine Sq.store one3 .plain rfl rfl rfl hB33 (by simp) (fun w85 g86 hB87 => ?_)
    have hs88 := World.grownBy.size g86
    replace hR := hR.grown g86 (by intro h; injection h with h; omega)
    replace G := grown_far G g86 (fun k hk => by injection hk with hk; subst hk; omega)
    replace hB12 := hB12.grown g86 (by intro h; injection h with h; omega)
    replace hn23 := hn23.stored g86 hB33 (by decide) (by decide)
    replace ha24 := ha24.stored g86 hB33 (by decide)
    replace hB33 := hB87
    refine Sq.nil ?_
    refine Eq.end ?_
    refine Eq.next ?_
    refine Cq.seq ?_
    refine Cq.region ?_
    refine Sq.loadAgg agg26 .plain rfl rfl hB33 rfl ?_
    refine Sq.storeAgg agg26 .plain rfl rfl (one_cons rfl (one_cons (Rows.one (OwnRows.rows hn23)) (one_cons (Row.one (Own.row ha24)) one_nil))) hB12 rfl rfl (fun w89 g90 hB91 => ?_)
    have hs92 := World.grownBy.size g90
    replace hR := hR.grown g90 (by intro h; injection h with h; omega)
    replace G := grown_far G g90 (fun k hk => by injection hk with hk; subst hk; omega)
    replace hn23 := hn23.stored g90 hB12 (by decide) (by decide)
    replace ha24 := ha24.stored g90 hB12 (by decide)
    replace hB12 := hB91
    refine Sq.nil ?_
    refine Eq.next ?_
    refine Cq.ret ?_
    refine Eq.retCell rfl rfl agg26 hB12 rfl ?_
    exact ⟨⟨_, by omega, hR, G⟩, ⟨k80, a.next, a.acc⟩, ⟨_, _, rfl, (OwnRows.rows hn23), (Own.row ha24)⟩, hsm.same (by omega) (by omega)⟩
  refine Sq.assign .plain rfl rfl ?_
  refine Sq.nil ?_
  refine Eq.next ?_
  refine Cq.els rfl ?_
  refine Cq.seq ?_
  refine Cq.region ?_
  refine Sq.eql .plain rfl rfl rfl ?_
  refine Sq.part (fun c93 => ?_) (fun c93 => ?_)
  · refine Sq.assign .plain rfl rfl ?_
    refine Sq.nil ?_
    refine Eq.next ?_
    refine Cq.thn rfl ?_
    refine Cq.region ?_
    refine Sq.fieldAddr fld26_2 .plain rfl rfl ?_
    refine Sq.loadB one24 .plain rfl rfl hB33 rfl ?_
    refine Sq.app1 sl24 ha24 (by omega) (by first | omega | (simp; omega)) .plain rfl rfl rfl rfl rfl rfl rfl (fun v94 w95 ho97 g96 _ => ?_)
    have hs98 := g96.size
    replace hR := hR.owned ha24 g96 (by decide)
    replace G := grown_new G ha24 g96 (by omega)
    replace hB12 := hB12.owned ha24 g96 (by decide)
    replace hn23 := hn23.owned ha24 g96 (by decide) (by decide)
    replace hB33 := hB33.owned ha24 g96 (by decide)
    refine Sq.fieldAddr fld26_2 .plain rfl rfl ?_
    refine Sq.store one24 .plain rfl rfl (Row.one (Own.row ho97)) hB33 (by simp) (fun w99 g100 hB101 => ?_)
    have hs102 := World.grownBy.size g100
    replace hR := hR.grown g100 (by intro h; injection h with h; omega)
    replace G := grown_far G g100 (fun k hk => by injection hk with hk; subst hk; omega)
    replace hB12 := hB12.grown g100 (by intro h; injection h with h; omega)
    replace hn23 := hn23.stored g100 hB33 (by decide) (by decide)
    replace ho97 := ho97.stored g100 hB33 (by decide)
    replace hB33 := hB101
    refine Sq.nil ?_
    refine Eq.end ?_
    refine Eq.next ?_
    refine Cq.seq ?_
    refine Cq.region ?_
    refine Sq.loadAgg agg26 .plain rfl rfl hB33 rfl ?_
    refine Sq.storeAgg agg26 .plain rfl rfl (one_cons rfl (one_cons (Rows.one (OwnRows.rows hn23)) (one_cons (Row.one (Own.row ho97)) one_nil))) hB12 rfl rfl (fun w103 g104 hB105 => ?_)
    have hs106 := World.grownBy.size g104
    replace hR := hR.grown g104 (by intro h; injection h with h; omega)
    replace G := grown_far G g104 (fun k hk => by injection hk with hk; subst hk; omega)
    replace hn23 := hn23.stored g104 hB12 (by decide) (by decide)
    replace ho97 := ho97.stored g104 hB12 (by decide)
    replace hB12 := hB105
    refine Sq.nil ?_
    refine Eq.next ?_
    refine Cq.ret ?_
    refine Eq.retCell rfl rfl agg26 hB12 rfl ?_
    exact ⟨⟨_, by omega, hR, G⟩, ⟨a.al, a.next, a.acc ++ [true]⟩, ⟨_, _, rfl, (OwnRows.rows hn23), (Own.row (Own.snocB ho97))⟩, hsm.push (by omega)⟩
  refine Sq.assign .plain rfl rfl ?_
  refine Sq.nil ?_
  refine Eq.next ?_
  refine Cq.els rfl ?_
  refine Cq.seq ?_
  refine Cq.region ?_
  refine Sq.eql .plain rfl rfl rfl ?_
  refine Sq.part (fun c107 => ?_) (fun c107 => ?_)
  · refine Sq.assign .plain rfl rfl ?_
    refine Sq.nil ?_
    refine Eq.next ?_
    refine Cq.thn rfl ?_
    refine Cq.seq ?_
    refine Cq.region ?_
    refine Sq.move .plain rfl rfl ?_
    refine Sq.gtr .plain rfl rfl rfl ?_
    refine Sq.part (fun c108 => ?_) (fun c108 => ?_)
    · refine Sq.nil ?_
      refine Eq.next ?_
      refine Cq.thn rfl ?_
      obtain ⟨pA, rA, hpA, _⟩ := Rows.at (OwnRows.rows hn23) (i := k50) (by omega) (by omega)
      have hrA := (OwnRows.rowAt hn23 hpA).1
      obtain ⟨_, hoA, _, _⟩ := OwnRows.open hn23 (by decide)
      have hpAo := AtO.of hoA hpA
      refine Cq.drawS 10 (fun w' => Blk w' b30 26 [Value.int .i64 a.al, nx21, ac22] ∧ At w' 38 nx21 k50 pA rA) mixed (⟨hB33, hpA⟩) (fun w109 e110 hS => ?_)
      clear hS
      have hs111 := Below.size e110
      replace hR := hR.ext e110
      replace G := grown_trans G (Ext.to_grown e110 _)
      replace hB12 := hB12.ext e110
      replace hn23 := hn23.ext e110
      replace ha24 := ha24.ext e110
      replace hB33 := hB33.ext e110
      replace hpA := hpA.ext e110
      replace hrA := hrA.ext e110
      refine Gq.st 0 rfl (by kernel_rfl) rfl .plain rfl (fun _ _ _ h => h) ⟨hB33, hpA⟩ (fun w' x => Still.fieldAddr fld26_1 rfl) ?_
      refine Gq.st 1 rfl (by kernel_rfl) rfl .plain rfl (fun _ _ _ h => h) ⟨hB33, hpA⟩ (fun w' x => Still.loadB one23 rfl x.1 rfl) ?_
      refine Gq.st 2 rfl (by kernel_rfl) rfl .plain rfl (fun _ _ _ h => h) ⟨hB33, hpA⟩ (fun w' x => Still.move rfl) ?_
      refine Gq.st 3 rfl (by kernel_rfl) rfl .plain rfl (fun _ _ _ h => h) ⟨hB33, hpA⟩ (fun w' x => Still.fieldAddr fld26_1 rfl) ?_
      refine Gq.st 4 rfl (by kernel_rfl) rfl .plain rfl (fun _ _ _ h => h) ⟨hB33, hpA⟩ (fun w' x => Still.loadB one23 rfl x.1 rfl) ?_
      refine Gq.st 5 rfl (by kernel_rfl) rfl .plain rfl (fun _ _ _ h => h) ⟨hB33, hpA⟩ (fun w' x => Still.move rfl) ?_
      refine Gq.st 6 rfl (by kernel_rfl) rfl .plain rfl (fun _ _ _ h => h) ⟨hB33, hpA⟩ (fun w' x => Still.at' sl23 hpA rfl rfl) ?_
      refine Gq.st 7 rfl (by kernel_rfl) rfl .plain rfl (fun _ _ _ h => h) ⟨hB33, hpA⟩ (fun w' x => Still.loadA one38 rfl (x.2).1) ?_
      refine Gq.one 8 rfl (by kernel_rfl) ?_
      refine Sq.lit sl38 rfl rfl .plain rfl rfl (one_cons rfl one_nil) (fun b112 w113 e114 hlo115 ho116 _ => ?_)
      replace ho116 := ho116 w109.heap.size (Nat.le_refl _)
      have hs118 := Below.size e114
      replace hR := hR.ext e114
      replace G := grown_trans G (Ext.to_grown e114 _)
      replace hB12 := hB12.ext e114
      replace hn23 := hn23.ext e114
      replace ha24 := ha24.ext e114
      replace hB33 := hB33.ext e114
      replace hpA := hpA.ext e114
      replace hrA := hrA.ext e114
      refine Sq.nil ?_
      refine Eq.goes (fun _ => ⟨hB33, hpA⟩) ?_
      refine Gq.one 9 rfl (by kernel_rfl) ?_
      refine Sq.app sl38 hrA (by omega) (Own.row ho116) (one_cons rfl one_nil) (by simp only [List.length_map, List.length_cons, List.length_nil]; omega) .plain rfl rfl rfl rfl (fun v119 w120 ho121 g122 => ?_)
      obtain ⟨rsA, hoB, hswap⟩ := OwnRows.swap hn23 (by decide) hpA (Own.snocI ho121) g122
      replace hR := hR.owned hrA g122 (by decide)
      replace G := grown_new G hrA g122 (by omega)
      replace hB12 := hB12.owned hrA g122 (by decide)
      replace ha24 := ha24.owned hrA g122 (by decide)
      replace hB33 := hB33.owned hrA g122 (by decide)
      replace hpA := hpA.owned hrA g122 (by decide)
      refine Sq.nil ?_
      refine Eq.goes (fun _ => ⟨hB33, hpA⟩) ?_
      refine Gq.one 10 rfl (by kernel_rfl) ?_
      refine Sq.val .plain rfl rfl (Still.at' sl23 hpA rfl rfl) ?_
      refine Sq.nil ?_
      refine Eq.goes (fun h => absurd h (by decide)) ?_
      refine Gq.one 11 rfl (by kernel_rfl) ?_
      refine Sq.storeO one38 hoB hpAo .plain rfl rfl (Row.one (Own.row ho121)) (fun w123 g124 ho125 => ?_)
      have hnA := hswap _ g124 ho125
      replace hR := hR.owned hoB g124 (by decide)
      replace G := grown_new G hoB g124 (by omega)
      replace hB12 := hB12.owned hoB g124 (by decide)
      replace ha24 := ha24.owned hoB g124 (by decide)
      replace hB33 := hB33.owned hoB g124 (by decide)
      refine Sq.nil ?_
      refine Eq.goes (fun h => absurd h (by decide)) ?_
      refine Gq.done (by kernel_rfl) ?_
      refine Eq.end ?_
      refine Eq.next ?_
      refine Cq.seq ?_
      refine Cq.region ?_
      refine Sq.loadAgg agg26 .plain rfl rfl hB33 rfl ?_
      refine Sq.storeAgg agg26 .plain rfl rfl (one_cons rfl (one_cons (Rows.one hnA) (one_cons (Row.one (Own.row ha24)) one_nil))) hB12 rfl rfl (fun w126 g127 hB128 => ?_)
      have hs129 := World.grownBy.size g127
      replace hR := hR.grown g127 (by intro h; injection h with h; omega)
      replace G := grown_far G g127 (fun k hk => by injection hk with hk; subst hk; omega)
      replace ha24 := ha24.stored g127 hB12 (by decide)
      replace hnA := hnA.stored g127 hB12 (by decide) (by decide)
      replace hB12 := hB128
      refine Sq.nil ?_
      refine Eq.next ?_
      refine Cq.ret ?_
      refine Eq.retCell rfl rfl agg26 hB12 rfl ?_
      exact ⟨⟨_, by omega, hR, G⟩, ⟨a.al, (a.next.set k50.toNat (a.next.getD k50.toNat [] ++ [0])), a.acc⟩, ⟨_, _, rfl, hnA, (Own.row ha24)⟩, hsm.row (by omega) (by have := hsm.rowAt (k := k50.toNat); simp only [List.length_append, List.length_cons, List.length_nil]; omega)⟩
    refine Sq.nil ?_
    refine Eq.next ?_
    refine Cq.els rfl ?_
    refine Cq.skip ?_
    refine Eq.end ?_
    refine Eq.next ?_
    refine Cq.seq ?_
    refine Cq.region ?_
    refine Sq.loadAgg agg26 .plain rfl rfl hB33 rfl ?_
    refine Sq.storeAgg agg26 .plain rfl rfl (one_cons rfl (one_cons (Rows.one (OwnRows.rows hn23)) (one_cons (Row.one (Own.row ha24)) one_nil))) hB12 rfl rfl (fun w130 g131 hB132 => ?_)
    have hs133 := World.grownBy.size g131
    replace hR := hR.grown g131 (by intro h; injection h with h; omega)
    replace G := grown_far G g131 (fun k hk => by injection hk with hk; subst hk; omega)
    replace hn23 := hn23.stored g131 hB12 (by decide) (by decide)
    replace ha24 := ha24.stored g131 hB12 (by decide)
    replace hB12 := hB132
    refine Sq.nil ?_
    refine Eq.next ?_
    refine Cq.ret ?_
    refine Eq.retCell rfl rfl agg26 hB12 rfl ?_
    exact ⟨⟨_, by omega, hR, G⟩, a, ⟨_, _, rfl, (OwnRows.rows hn23), (Own.row ha24)⟩, hsm.mono (by omega)⟩
  refine Sq.assign .plain rfl rfl ?_
  refine Sq.nil ?_
  refine Eq.next ?_
  refine Cq.els rfl ?_
  refine Cq.seq ?_
  refine Cq.region ?_
  refine Sq.eql .plain rfl rfl rfl ?_
  refine Sq.part (fun c134 => ?_) (fun c134 => ?_)
  · refine Sq.assign .plain rfl rfl ?_
    refine Sq.nil ?_
    refine Eq.next ?_
    refine Cq.thn rfl ?_
    refine Cq.seq ?_
    refine Cq.region ?_
    refine Sq.move .plain rfl rfl ?_
    refine Sq.gtr .plain rfl rfl rfl ?_
    refine Sq.part (fun c135 => ?_) (fun c135 => ?_)
    · refine Sq.move .plain rfl rfl ?_
      refine Sq.fieldAddr fld26_1 (.met rfl rfl rfl) rfl rfl ?_
      refine Sq.loadB one23 (.met rfl rfl rfl) rfl rfl hB33 rfl ?_
      refine Sq.move (.met rfl rfl rfl) rfl rfl ?_
      refine Sq.idxRows sl23 one38 (OwnRows.rows hn23) (.met rfl rfl rfl) rfl rfl rfl (.met rfl rfl rfl) rfl rfl (by omega) (by omega) (fun r136 hr137 => ?_)
      refine Sq.lenInts hr137 (.met rfl rfl rfl) rfl und38 rfl ?_
      refine Sq.gtr (.met rfl rfl rfl) rfl rfl rfl ?_
      refine Sq.part (fun c138 => ?_) (fun c138 => ?_)
      · refine Sq.pickT .plain rfl rfl rfl ?_
        refine Sq.nil ?_
        refine Eq.next ?_
        refine Cq.thn rfl ?_
        refine Cq.seq ?_
        refine Cq.region ?_
        refine Sq.move .plain rfl rfl ?_
        refine Sq.fieldAddr fld26_1 .plain rfl rfl ?_
        refine Sq.loadB one23 .plain rfl rfl hB33 rfl ?_
        refine Sq.move .plain rfl rfl ?_
        refine Sq.idxRows sl23 one38 (OwnRows.rows hn23) .plain rfl rfl rfl .plain rfl rfl (by omega) (by omega) (fun r139 hr140 => ?_)
        refine Sq.lenInts hr140 .plain rfl und38 rfl ?_
        refine Sq.call fn19 .plain rfl rfl (pick_c _ _ _ _ _ _ hR (hb.go G) hbl (by omega) ((List.length (a.next.getD k50.toNat []) : Int)) (by omega)) ?_
        rintro _ w142 ⟨⟨p143, hp146, hB145, g144⟩, ⟨k147, rfl, hk148⟩⟩
        have hs149 := World.grownBy.size g144
        have hs150 := World.grownBy.size G
        have hs151 := World.grownBy.size g144
        replace G := grown_trans G g144
        replace hB12 := hB12.grown g144 (by intro h; injection h with h; omega)
        replace hn23 := hn23.stored g144 hR (by decide) (by decide)
        replace ha24 := ha24.stored g144 hR (by decide)
        replace hB33 := hB33.grown g144 (by intro h; injection h with h; omega)
        replace hR := hB145
        refine Sq.assign .plain rfl rfl ?_
        refine Sq.nil ?_
        refine Eq.next ?_
        obtain ⟨pA, rA, hpA, _⟩ := Rows.at (OwnRows.rows hn23) (i := k50) (by omega) (by omega)
        have hrA := (OwnRows.rowAt hn23 hpA).1
        obtain ⟨_, hoA, _, _⟩ := OwnRows.open hn23 (by decide)
        have hpAo := AtO.of hoA hpA
        obtain ⟨pJ, hpJo⟩ := Own.at hrA (i := k147) (by omega) (by rw [List.length_map]; omega)
        refine Cq.drawS 12 (fun w' => Blk w' b30 26 [Value.int .i64 a.al, nx21, ac22] ∧ At w' 38 nx21 k50 pA rA) mixed (⟨hB33, hpA⟩) (fun w152 e153 hS => ?_)
        clear hS
        have hs154 := Below.size e153
        replace hR := hR.ext e153
        replace G := grown_trans G (Ext.to_grown e153 _)
        replace hB12 := hB12.ext e153
        replace hn23 := hn23.ext e153
        replace ha24 := ha24.ext e153
        replace hB33 := hB33.ext e153
        replace hpA := hpA.ext e153
        replace hrA := hrA.ext e153
        refine Gq.st 0 rfl (by kernel_rfl) rfl .plain rfl (fun _ _ _ h => h) ⟨hB33, hpA⟩ (fun w' x => Still.fieldAddr fld26_1 rfl) ?_
        refine Gq.st 1 rfl (by kernel_rfl) rfl .plain rfl (fun _ _ _ h => h) ⟨hB33, hpA⟩ (fun w' x => Still.loadB one23 rfl x.1 rfl) ?_
        refine Gq.st 2 rfl (by kernel_rfl) rfl .plain rfl (fun _ _ _ h => h) ⟨hB33, hpA⟩ (fun w' x => Still.move rfl) ?_
        refine Gq.st 3 rfl (by kernel_rfl) rfl .plain rfl (fun _ _ _ h => h) ⟨hB33, hpA⟩ (fun w' x => Still.at' sl23 hpA rfl rfl) ?_
        refine Gq.st 4 rfl (by kernel_rfl) rfl .plain rfl (fun _ _ _ h => h) ⟨hB33, hpA⟩ (fun w' x => Still.loadA one38 rfl (x.2).1) ?_
        refine Gq.st 5 rfl (by kernel_rfl) rfl .plain rfl (fun _ _ _ h => h) ⟨hB33, hpA⟩ (fun w' x => Still.move rfl) ?_
        refine Gq.st 6 rfl (by kernel_rfl) rfl .plain rfl (fun _ _ _ h => h) ⟨hB33, hpA⟩ (fun w' x => Still.move rfl) ?_
        refine Gq.st 7 rfl (by kernel_rfl) rfl .plain rfl (fun _ _ _ h => h) ⟨hB33, hpA⟩ (fun w' x => Still.move rfl) ?_
        refine Gq.st 8 rfl (by kernel_rfl) rfl .plain rfl (fun _ _ _ h => h) ⟨hB33, hpA⟩ (fun w' x => Still.move rfl) ?_
        refine Gq.st 9 rfl (by kernel_rfl) rfl .plain rfl (fun _ _ _ h => h) ⟨hB33, hpA⟩ (fun w' x => Still.sub rfl rfl (by omega)) ?_
        refine Gq.one 10 rfl (by kernel_rfl) ?_
        refine Sq.lit sl38 rfl rfl .plain rfl rfl (one_cons rfl (one_cons rfl (one_cons rfl (one_cons rfl one_nil)))) (fun b155 w156 e157 hlo158 ho159 _ => ?_)
        replace ho159 := ho159 w152.heap.size (Nat.le_refl _)
        have hs161 := Below.size e157
        replace hR := hR.ext e157
        replace G := grown_trans G (Ext.to_grown e157 _)
        replace hB12 := hB12.ext e157
        replace hn23 := hn23.ext e157
        replace ha24 := ha24.ext e157
        replace hB33 := hB33.ext e157
        replace hpA := hpA.ext e157
        replace hrA := hrA.ext e157
        refine Sq.nil ?_
        refine Eq.goes (fun _ => ⟨hB33, hpA⟩) ?_
        refine Gq.one 11 rfl (by kernel_rfl) ?_
        refine Sq.call fn11 .plain rfl rfl (num_c _ _ _ _ _ _ hR (hb.go G) hbl (by omega) _ [-1, (List.length a.next : Int), (List.length a.next : Int) - 1, 0] (Own.row ho159) (by simp)) ?_
        rintro _ w163 ⟨⟨p164, hp167, hB166, g165⟩, ⟨k168, rfl, hm169⟩⟩
        have hs170 := World.grownBy.size g165
        have hs171 := World.grownBy.size G
        have hs172 := World.grownBy.size g165
        replace G := grown_trans G g165
        replace hB12 := hB12.grown g165 (by intro h; injection h with h; omega)
        replace hn23 := hn23.stored g165 hR (by decide) (by decide)
        replace ha24 := ha24.stored g165 hR (by decide)
        replace hB33 := hB33.grown g165 (by intro h; injection h with h; omega)
        replace hpA := hpA.stored g165 hR (by decide)
        replace hrA := hrA.stored g165 hR (by decide)
        replace hR := hB166
        simp only [List.mem_cons, List.not_mem_nil, or_false] at hm169
        refine Sq.nil ?_
        refine Eq.goes (fun _ => ⟨hB33, hpA⟩) ?_
        refine Gq.one 12 rfl (by kernel_rfl) ?_
        refine Sq.atO sl38 hpJo .plain rfl rfl rfl ?_
        refine Sq.nil ?_
        refine Eq.goes (fun h => absurd h (by decide)) ?_
        refine Gq.one 13 rfl (by kernel_rfl) ?_
        refine Sq.storeO one3 hrA hpJo .plain rfl rfl rfl (fun w173 g174 ho175 => ?_)
        have hs176 := World.grownBy.size g174
        rw [← List.map_set] at ho175
        replace hn23 := (OwnRows.set hn23 (by decide) hpA ho175 g174).1
        replace hR := hR.owned hrA g174 (by decide)
        replace G := grown_new G hrA g174 (by omega)
        replace hB12 := hB12.owned hrA g174 (by decide)
        replace ha24 := ha24.owned hrA g174 (by decide)
        replace hB33 := hB33.owned hrA g174 (by decide)
        refine Sq.nil ?_
        refine Eq.goes (fun h => absurd h (by decide)) ?_
        refine Gq.done (by kernel_rfl) ?_
        refine Eq.end ?_
        refine Eq.next ?_
        refine Cq.seq ?_
        refine Cq.region ?_
        refine Sq.loadAgg agg26 .plain rfl rfl hB33 rfl ?_
        refine Sq.storeAgg agg26 .plain rfl rfl (one_cons rfl (one_cons (Rows.one (OwnRows.rows hn23)) (one_cons (Row.one (Own.row ha24)) one_nil))) hB12 rfl rfl (fun w177 g178 hB179 => ?_)
        have hs180 := World.grownBy.size g178
        replace hR := hR.grown g178 (by intro h; injection h with h; omega)
        replace G := grown_far G g178 (fun k hk => by injection hk with hk; subst hk; omega)
        replace hn23 := hn23.stored g178 hB12 (by decide) (by decide)
        replace ha24 := ha24.stored g178 hB12 (by decide)
        replace hB12 := hB179
        refine Sq.nil ?_
        refine Eq.next ?_
        refine Cq.ret ?_
        refine Eq.retCell rfl rfl agg26 hB12 rfl ?_
        exact ⟨⟨_, by omega, hR, G⟩, ⟨a.al, a.next.set k50.toNat ((a.next.getD k50.toNat []).set k147.toNat k168), a.acc⟩, ⟨_, _, rfl, (OwnRows.rows hn23), (Own.row ha24)⟩, hsm.row (by omega) (by have := hsm.rowAt (k := k50.toNat); rw [List.length_set]; omega)⟩
      refine Sq.pickT .plain rfl rfl rfl ?_
      refine Sq.nil ?_
      refine Eq.next ?_
      refine Cq.els rfl ?_
      refine Cq.skip ?_
      refine Eq.end ?_
      refine Eq.next ?_
      refine Cq.seq ?_
      refine Cq.region ?_
      refine Sq.loadAgg agg26 .plain rfl rfl hB33 rfl ?_
      refine Sq.storeAgg agg26 .plain rfl rfl (one_cons rfl (one_cons (Rows.one (OwnRows.rows hn23)) (one_cons (Row.one (Own.row ha24)) one_nil))) hB12 rfl rfl (fun w181 g182 hB183 => ?_)
      have hs184 := World.grownBy.size g182
      replace hR := hR.grown g182 (by intro h; injection h with h; omega)
      replace G := grown_far G g182 (fun k hk => by injection hk with hk; subst hk; omega)
      replace hn23 := hn23.stored g182 hB12 (by decide) (by decide)
      replace ha24 := ha24.stored g182 hB12 (by decide)
      replace hB12 := hB183
      refine Sq.nil ?_
      refine Eq.next ?_
      refine Cq.ret ?_
      refine Eq.retCell rfl rfl agg26 hB12 rfl ?_
      exact ⟨⟨_, by omega, hR, G⟩, a, ⟨_, _, rfl, (OwnRows.rows hn23), (Own.row ha24)⟩, hsm.mono (by omega)⟩
    refine Sq.move .plain rfl rfl ?_
    refine Sq.off rfl rfl rfl rfl rfl rfl ?_
    refine Sq.off rfl rfl rfl rfl rfl rfl ?_
    refine Sq.off rfl rfl rfl rfl rfl rfl ?_
    refine Sq.off rfl rfl rfl rfl rfl rfl ?_
    refine Sq.off rfl rfl rfl rfl rfl rfl ?_
    refine Sq.off rfl rfl rfl rfl rfl rfl ?_
    refine Sq.off rfl rfl rfl rfl rfl rfl ?_
    refine Sq.pickF .plain rfl rfl rfl ?_
    refine Sq.nil ?_
    refine Eq.next ?_
    refine Cq.els rfl ?_
    refine Cq.skip ?_
    refine Eq.end ?_
    refine Eq.next ?_
    refine Cq.seq ?_
    refine Cq.region ?_
    refine Sq.loadAgg agg26 .plain rfl rfl hB33 rfl ?_
    refine Sq.storeAgg agg26 .plain rfl rfl (one_cons rfl (one_cons (Rows.one (OwnRows.rows hn23)) (one_cons (Row.one (Own.row ha24)) one_nil))) hB12 rfl rfl (fun w185 g186 hB187 => ?_)
    have hs188 := World.grownBy.size g186
    replace hR := hR.grown g186 (by intro h; injection h with h; omega)
    replace G := grown_far G g186 (fun k hk => by injection hk with hk; subst hk; omega)
    replace hn23 := hn23.stored g186 hB12 (by decide) (by decide)
    replace ha24 := ha24.stored g186 hB12 (by decide)
    replace hB12 := hB187
    refine Sq.nil ?_
    refine Eq.next ?_
    refine Cq.ret ?_
    refine Eq.retCell rfl rfl agg26 hB12 rfl ?_
    exact ⟨⟨_, by omega, hR, G⟩, a, ⟨_, _, rfl, (OwnRows.rows hn23), (Own.row ha24)⟩, hsm.mono (by omega)⟩
  refine Sq.assign .plain rfl rfl ?_
  refine Sq.nil ?_
  refine Eq.next ?_
  refine Cq.els rfl ?_
  refine Cq.seq ?_
  refine Cq.region ?_
  refine Sq.eql .plain rfl rfl rfl ?_
  refine Sq.part (fun c189 => ?_) (fun c189 => ?_)
  · refine Sq.assign .plain rfl rfl ?_
    refine Sq.nil ?_
    refine Eq.next ?_
    refine Cq.thn rfl ?_
    refine Cq.seq ?_
    refine Cq.region ?_
    refine Sq.lit sl23 rfl rfl .plain rfl rfl one_nil (fun b190 w191 e192 hlo193 ho194 _ => ?_)
    replace ho194 := ho194 w56.heap.size (Nat.le_refl _)
    have hs196 := Below.size e192
    replace hR := hR.ext e192
    replace G := grown_trans G (Ext.to_grown e192 _)
    replace hB12 := hB12.ext e192
    replace hB33 := hB33.ext e192
    replace ho194 : OwnRows _ _ 0 38 3 _ [] := OwnRows.none ho194
    refine Sq.fieldAddr fld26_1 .plain rfl rfl ?_
    refine Sq.store one23 .plain rfl rfl (Rows.one (OwnRows.rows ho194)) hB33 (by simp) (fun w197 g198 hB199 => ?_)
    have hs200 := World.grownBy.size g198
    replace hR := hR.grown g198 (by intro h; injection h with h; omega)
    replace G := grown_far G g198 (fun k hk => by injection hk with hk; subst hk; omega)
    replace hB12 := hB12.grown g198 (by intro h; injection h with h; omega)
    replace ho194 := ho194.stored g198 hB33 (by decide) (by decide)
    replace hB33 := hB199
    refine Sq.nil ?_
    refine Eq.next ?_
    refine Cq.region ?_
    refine Sq.lit sl24 rfl rfl .plain rfl rfl one_nil (fun b201 w202 e203 hlo204 ho205 _ => ?_)
    replace ho205 := ho205 w197.heap.size (Nat.le_refl _)
    have hs207 := Below.size e203
    replace hR := hR.ext e203
    replace G := grown_trans G (Ext.to_grown e203 _)
    replace hB12 := hB12.ext e203
    replace hB33 := hB33.ext e203
    replace ho194 := ho194.ext e203
    refine Sq.fieldAddr fld26_2 .plain rfl rfl ?_
    refine Sq.store one24 .plain rfl rfl (Row.one (Own.row ho205)) hB33 (by simp) (fun w208 g209 hB210 => ?_)
    have hs211 := World.grownBy.size g209
    replace hR := hR.grown g209 (by intro h; injection h with h; omega)
    replace G := grown_far G g209 (fun k hk => by injection hk with hk; subst hk; omega)
    replace hB12 := hB12.grown g209 (by intro h; injection h with h; omega)
    replace ho194 := ho194.stored g209 hB33 (by decide) (by decide)
    replace ho205 := ho205.stored g209 hB33 (by decide)
    replace hB33 := hB210
    refine Sq.nil ?_
    refine Eq.end ?_
    refine Eq.next ?_
    refine Cq.seq ?_
    refine Cq.region ?_
    refine Sq.loadAgg agg26 .plain rfl rfl hB33 rfl ?_
    refine Sq.storeAgg agg26 .plain rfl rfl (one_cons rfl (one_cons (Rows.one (OwnRows.rows ho194)) (one_cons (Row.one (Own.row ho205)) one_nil))) hB12 rfl rfl (fun w212 g213 hB214 => ?_)
    have hs215 := World.grownBy.size g213
    replace hR := hR.grown g213 (by intro h; injection h with h; omega)
    replace G := grown_far G g213 (fun k hk => by injection hk with hk; subst hk; omega)
    replace ho194 := ho194.stored g213 hB12 (by decide) (by decide)
    replace ho205 := ho205.stored g213 hB12 (by decide)
    replace hB12 := hB214
    refine Sq.nil ?_
    refine Eq.next ?_
    refine Cq.ret ?_
    refine Eq.retCell rfl rfl agg26 hB12 rfl ?_
    exact ⟨⟨_, by omega, hR, G⟩, ⟨a.al, [], []⟩, ⟨_, _, rfl, (OwnRows.rows ho194), (Own.row ho205)⟩, ⟨hsm.1, by simp, by simp, by simp⟩⟩
  refine Sq.assign .plain rfl rfl ?_
  refine Sq.nil ?_
  refine Eq.next ?_
  refine Cq.els rfl ?_
  refine Cq.seq ?_
  refine Cq.region ?_
  refine Sq.eql .plain rfl rfl rfl ?_
  refine Sq.part (fun c216 => ?_) (fun c216 => ?_)
  · refine Sq.assign .plain rfl rfl ?_
    refine Sq.nil ?_
    refine Eq.next ?_
    refine Cq.thn rfl ?_
    refine Cq.block ?_
    refine Cq.loop (fun nn w ls => ∃ (nxv : Value), ∃ (acv : Value), ∃ (xss : List (List Int)), ∃ (ys : List Bool), ls = [(0, Value.pointer (some ⟨rb, 0, none⟩)), (4, Value.pointer (some ⟨b9, 0, none⟩)), (5, Value.pointer (some ⟨b30, 0, none⟩)), (6, Value.int .i64 (List.length a.next : Int)), (7, Value.int .i64 k50), (18, Value.int .i64 k61), (19, Value.bool false), (25, Value.bool false), (32, Value.bool false), (47, Value.bool false), (81, Value.bool false), (87, Value.bool true)] ∧ Blk w b30 26 [Value.int .i64 a.al, nxv, acv] ∧ OwnRows w w0.heap.size w.heap.size 38 3 nxv xss ∧ Own w w0.heap.size 4 acv (ys.map Value.bool) ∧ (a.next.length ≤ xss.length ∧ xss.length ≤ a.next.length + 13 ∧ ys.length + a.next.length = a.acc.length + xss.length) ∧ (∀ row ∈ xss, row.length ≤ N) ∧ World.grownBy w0 w (some rb) ∧ Blk w rb 46 [bv, Value.int .i64 p57] ∧ Blk w b9 26 [Value.int .i64 0, Value.slice none 0 0, Value.slice none 0 0] ∧ nn = (13 - xss.length)) _ _ ⟨_, _, _, _, rfl, hB33, OwnRows.mono (OwnRows.now hn23) (by omega), Own.mono ha24 (by omega), by have := hsm.2; omega, hsm.2.2.2, G, hR, hB12, rfl⟩ (.cons rfl (.cons rfl (.cons rfl (.cons rfl (.cons rfl (.cons rfl (.cons rfl (.cons rfl (.cons rfl (.cons rfl (.cons rfl (.cons rfl (.nil))))))))))))) ?_
    rintro nn wl1 ls ⟨nxv, acv, xss, ys, rfl, hB7, hor, hoa, hll, hall, G, hR, hB12, rfl⟩
    have hs217 := World.grownBy.size G
    have hx0 := all_row hall (k := (0 : Int).toNat)
    refine Cq.seq ?_
    refine Cq.seq ?_
    refine Cq.region ?_
    refine Sq.move .plain rfl rfl ?_
    refine Sq.gtr .plain rfl rfl rfl ?_
    refine Sq.part (fun c218 => ?_) (fun c218 => ?_)
    · refine Sq.move .plain rfl rfl ?_
      refine Sq.fieldAddr fld26_1 (.met rfl rfl rfl) rfl rfl ?_
      refine Sq.loadB one23 (.met rfl rfl rfl) rfl rfl hB7 rfl ?_
      refine Sq.lenRows (OwnRows.rows hor) (.met rfl rfl rfl) rfl und23 rfl ?_
      refine Sq.leq (.met rfl rfl rfl) rfl rfl rfl ?_
      refine Sq.part (fun c219 => ?_) (fun c219 => ?_)
      · refine Sq.pickT .plain rfl rfl rfl ?_
        refine Sq.nil ?_
        refine Eq.next ?_
        refine Cq.thn rfl ?_
        refine Cq.skip ?_
        refine Eq.next ?_
        refine Cq.block ?_
        refine Cq.seq ?_
        obtain ⟨pA, rA, hpA, _⟩ := Rows.at (OwnRows.rows hor) (i := 0) (by omega) (by simp; omega)
        have hrA := (OwnRows.rowAt hor hpA).1
        refine Cq.drawS 10 (fun w' => Blk w' b30 26 [Value.int .i64 a.al, nxv, acv]) mixed (hB7) (fun w220 e221 hS => ?_)
        clear hS
        have hs222 := Below.size e221
        replace G := grown_trans G (Ext.to_grown e221 _)
        replace hR := hR.ext e221
        replace hB12 := hB12.ext e221
        replace hB7 := hB7.ext e221
        replace hor := hor.ext e221
        replace hoa := hoa.ext e221
        replace hpA := hpA.ext e221
        replace hrA := hrA.ext e221
        refine Gq.st 0 rfl (by kernel_rfl) rfl .plain rfl (fun _ _ _ h => h) hB7 (fun w' x => Still.fieldAddr fld26_1 rfl) ?_
        refine Gq.st 1 rfl (by kernel_rfl) rfl .plain rfl (fun _ _ _ h => h) hB7 (fun w' x => Still.loadB one23 rfl x rfl) ?_
        refine Gq.st 3 rfl (by kernel_rfl) rfl .plain rfl (fun _ _ _ h => h) hB7 (fun w' x => Still.fieldAddr fld26_1 rfl) ?_
        refine Gq.st 4 rfl (by kernel_rfl) rfl .plain rfl (fun _ _ _ h => h) hB7 (fun w' x => Still.loadB one23 rfl x rfl) ?_
        refine Gq.st 5 rfl (by kernel_rfl) rfl .plain rfl (fun _ _ _ h => h) hB7 (fun w' x => Still.at' sl23 hpA rfl rfl) ?_
        refine Gq.two 2 6 rfl rfl (by kernel_rfl) ?_ ?_
        · refine Sq.lit sl38 rfl rfl .plain rfl rfl one_nil (fun b223 w224 e225 hlo226 ho227 _ => ?_)
          replace ho227 := ho227 w220.heap.size (Nat.le_refl _)
          have hs229 := Below.size e225
          replace G := grown_trans G (Ext.to_grown e225 _)
          replace hR := hR.ext e225
          replace hB12 := hB12.ext e225
          replace hB7 := hB7.ext e225
          replace hor := hor.ext e225
          replace hoa := hoa.ext e225
          replace hpA := hpA.ext e225
          replace hrA := hrA.ext e225
          refine Sq.nil ?_
          refine Eq.goes (fun _ => hB7) ?_
          refine Gq.one 6 rfl (by kernel_rfl) ?_
          refine Sq.val .plain rfl rfl (Still.loadA one38 rfl hpA.1) ?_
          refine Sq.nil ?_
          refine Eq.goes (fun _ => hB7) ?_
          refine Gq.one 7 rfl (by kernel_rfl) ?_
          refine Sq.app sl38 ho227 (by omega) (Own.row hrA) (one_ints _) (by rw [List.length_map]; simp only [List.length_nil, Nat.zero_add]; omega) .plain rfl rfl rfl rfl (fun v230 w231 ho233 g232 => ?_)
          have hs234 := g232.size
          replace G := grown_new G ho227 g232 (by omega)
          replace hR := hR.owned ho227 g232 (by decide)
          replace hB12 := hB12.owned ho227 g232 (by decide)
          replace hB7 := hB7.owned ho227 g232 (by decide)
          replace hor := hor.apart ho227 g232 (by omega) (by decide)
          replace hoa := hoa.owned ho227 g232 (by decide)
          simp only [List.nil_append] at ho233
          refine Sq.nil ?_
          refine Eq.goes (fun _ => hB7) ?_
          refine Gq.one 8 rfl (by kernel_rfl) ?_
          refine Sq.lit sl23 rfl rfl .plain rfl rfl (one_cons (Row.one (Own.row ho233)) one_nil) (fun b235 w236 e237 hlo238 ho239 _ => ?_)
          replace ho239 := ho239 w231.heap.size (Nat.le_refl _)
          have hs241 := Below.size e237
          replace G := grown_trans G (Ext.to_grown e237 _)
          replace hR := hR.ext e237
          replace hB12 := hB12.ext e237
          replace hB7 := hB7.ext e237
          replace hor := hor.ext e237
          replace hoa := hoa.ext e237
          replace ho233 := ho233.ext e237
          refine Sq.nil ?_
          refine Eq.goes (fun _ => hB7) ?_
          refine Gq.one 9 rfl (by kernel_rfl) ?_
          obtain ⟨rs246, q247, q248, q249⟩ := OwnRows.open hor (by decide)
          have q249x := Ext.refl w236
          refine Sq.app sl23 q247 (by omega) (Own.row ho239) (one_cons (Row.one (Own.row ho233)) one_nil) (by rw [q248]; first | omega | (simp; omega)) .plain rfl rfl rfl rfl (fun v242 w243 ho245 g244 => ?_)
          have hs250 := g244.size
          have ho245r := q249 _ ((xss.getD (0 : Int).toNat [])) _ _ _ (Ext.refl _) (Own.mono ho233 (by omega)) (by omega) ho245 g244
          replace G := grown_new G q247 g244 (by omega)
          replace hR := hR.owned q247 g244 (by decide)
          replace hB12 := hB12.owned q247 g244 (by decide)
          replace hB7 := hB7.owned q247 g244 (by decide)
          replace hoa := hoa.owned q247 g244 (by decide)
          refine Sq.nil ?_
          refine Eq.goes (fun _ => hB7) ?_
          refine Gq.one 10 rfl (by kernel_rfl) ?_
          refine Sq.fieldAddr fld26_1 .plain rfl rfl ?_
          refine Sq.nil ?_
          refine Eq.goes (fun h => absurd h (by decide)) ?_
          refine Gq.one 11 rfl (by kernel_rfl) ?_
          refine Sq.store one23 .plain rfl rfl (Rows.one (OwnRows.rows ho245r)) hB7 (by simp) (fun w251 g252 hB253 => ?_)
          have hs254 := World.grownBy.size g252
          replace G := grown_far G g252 (fun k hk => by injection hk with hk; subst hk; omega)
          replace hR := hR.grown g252 (by intro h; injection h with h; omega)
          replace hB12 := hB12.grown g252 (by intro h; injection h with h; omega)
          replace hoa := hoa.stored g252 hB7 (by decide)
          replace ho245r := ho245r.stored g252 hB7 (by decide) (by decide)
          replace hB7 := hB253
          refine Sq.nil ?_
          refine Eq.goes (fun h => absurd h (by decide)) ?_
          refine Gq.done (by kernel_rfl) ?_
          refine Eq.next ?_
          refine Cq.region ?_
          refine Sq.fieldAddr fld26_2 .plain rfl rfl ?_
          refine Sq.loadB one24 .plain rfl rfl hB7 rfl ?_
          refine Sq.app1 sl24 hoa (by omega) (by first | omega | (simp; omega)) .plain rfl rfl rfl rfl rfl rfl rfl (fun v255 w256 ho258 g257 _ => ?_)
          have hs259 := g257.size
          replace G := grown_new G hoa g257 (by omega)
          replace hR := hR.owned hoa g257 (by decide)
          replace hB12 := hB12.owned hoa g257 (by decide)
          replace hB7 := hB7.owned hoa g257 (by decide)
          replace ho245r := ho245r.owned hoa g257 (by decide) (by decide)
          refine Sq.fieldAddr fld26_2 .plain rfl rfl ?_
          refine Sq.store one24 .plain rfl rfl (Row.one (Own.row ho258)) hB7 (by simp) (fun w260 g261 hB262 => ?_)
          have hs263 := World.grownBy.size g261
          replace G := grown_far G g261 (fun k hk => by injection hk with hk; subst hk; omega)
          replace hR := hR.grown g261 (by intro h; injection h with h; omega)
          replace hB12 := hB12.grown g261 (by intro h; injection h with h; omega)
          replace ho245r := ho245r.stored g261 hB7 (by decide) (by decide)
          replace ho258 := ho258.stored g261 hB7 (by decide)
          replace hB7 := hB262
          refine Sq.nil ?_
          refine Eq.end ?_
          refine Eq.round _ _ ⟨_, _, _, _, rfl, hB7, OwnRows.now ho245r, Own.snocB ho258, by simp; omega, all_app hall (by omega), G, hR, hB12, rfl⟩ (by simp; omega) (.cons rfl (.cons rfl (.cons rfl (.cons rfl (.cons rfl (.cons rfl (.cons rfl (.cons rfl (.cons rfl (.cons rfl (.cons rfl (.cons rfl (.nil)))))))))))))
        refine Sq.val .plain rfl rfl (Still.loadA one38 rfl hpA.1) ?_
        refine Sq.nil ?_
        refine Eq.goes (fun _ => hB7) ?_
        refine Gq.one 2 rfl (by kernel_rfl) ?_
        refine Sq.lit sl38 rfl rfl .plain rfl rfl one_nil (fun b264 w265 e266 hlo267 ho268 _ => ?_)
        replace ho268 := ho268 w220.heap.size (Nat.le_refl _)
        have hs270 := Below.size e266
        replace G := grown_trans G (Ext.to_grown e266 _)
        replace hR := hR.ext e266
        replace hB12 := hB12.ext e266
        replace hB7 := hB7.ext e266
        replace hor := hor.ext e266
        replace hoa := hoa.ext e266
        replace hrA := hrA.ext e266
        refine Sq.nil ?_
        refine Eq.goes (fun _ => hB7) ?_
        refine Gq.one 7 rfl (by kernel_rfl) ?_
        refine Sq.app sl38 ho268 (by omega) (Own.row hrA) (one_ints _) (by rw [List.length_map]; simp only [List.length_nil, Nat.zero_add]; omega) .plain rfl rfl rfl rfl (fun v271 w272 ho274 g273 => ?_)
        have hs275 := g273.size
        replace G := grown_new G ho268 g273 (by omega)
        replace hR := hR.owned ho268 g273 (by decide)
        replace hB12 := hB12.owned ho268 g273 (by decide)
        replace hB7 := hB7.owned ho268 g273 (by decide)
        replace hor := hor.apart ho268 g273 (by omega) (by decide)
        replace hoa := hoa.owned ho268 g273 (by decide)
        simp only [List.nil_append] at ho274
        refine Sq.nil ?_
        refine Eq.goes (fun _ => hB7) ?_
        refine Gq.one 8 rfl (by kernel_rfl) ?_
        refine Sq.lit sl23 rfl rfl .plain rfl rfl (one_cons (Row.one (Own.row ho274)) one_nil) (fun b276 w277 e278 hlo279 ho280 _ => ?_)
        replace ho280 := ho280 w272.heap.size (Nat.le_refl _)
        have hs282 := Below.size e278
        replace G := grown_trans G (Ext.to_grown e278 _)
        replace hR := hR.ext e278
        replace hB12 := hB12.ext e278
        replace hB7 := hB7.ext e278
        replace hor := hor.ext e278
        replace hoa := hoa.ext e278
        replace ho274 := ho274.ext e278
        refine Sq.nil ?_
        refine Eq.goes (fun _ => hB7) ?_
        refine Gq.one 9 rfl (by kernel_rfl) ?_
        obtain ⟨rs287, q288, q289, q290⟩ := OwnRows.open hor (by decide)
        have q290x := Ext.refl w277
        refine Sq.app sl23 q288 (by omega) (Own.row ho280) (one_cons (Row.one (Own.row ho274)) one_nil) (by rw [q289]; first | omega | (simp; omega)) .plain rfl rfl rfl rfl (fun v283 w284 ho286 g285 => ?_)
        have hs291 := g285.size
        have ho286r := q290 _ ((xss.getD (0 : Int).toNat [])) _ _ _ (Ext.refl _) (Own.mono ho274 (by omega)) (by omega) ho286 g285
        replace G := grown_new G q288 g285 (by omega)
        replace hR := hR.owned q288 g285 (by decide)
        replace hB12 := hB12.owned q288 g285 (by decide)
        replace hB7 := hB7.owned q288 g285 (by decide)
        replace hoa := hoa.owned q288 g285 (by decide)
        refine Sq.nil ?_
        refine Eq.goes (fun _ => hB7) ?_
        refine Gq.one 10 rfl (by kernel_rfl) ?_
        refine Sq.fieldAddr fld26_1 .plain rfl rfl ?_
        refine Sq.nil ?_
        refine Eq.goes (fun h => absurd h (by decide)) ?_
        refine Gq.one 11 rfl (by kernel_rfl) ?_
        refine Sq.store one23 .plain rfl rfl (Rows.one (OwnRows.rows ho286r)) hB7 (by simp) (fun w292 g293 hB294 => ?_)
        have hs295 := World.grownBy.size g293
        replace G := grown_far G g293 (fun k hk => by injection hk with hk; subst hk; omega)
        replace hR := hR.grown g293 (by intro h; injection h with h; omega)
        replace hB12 := hB12.grown g293 (by intro h; injection h with h; omega)
        replace hoa := hoa.stored g293 hB7 (by decide)
        replace ho286r := ho286r.stored g293 hB7 (by decide) (by decide)
        replace hB7 := hB294
        refine Sq.nil ?_
        refine Eq.goes (fun h => absurd h (by decide)) ?_
        refine Gq.done (by kernel_rfl) ?_
        refine Eq.next ?_
        refine Cq.region ?_
        refine Sq.fieldAddr fld26_2 .plain rfl rfl ?_
        refine Sq.loadB one24 .plain rfl rfl hB7 rfl ?_
        refine Sq.app1 sl24 hoa (by omega) (by first | omega | (simp; omega)) .plain rfl rfl rfl rfl rfl rfl rfl (fun v296 w297 ho299 g298 _ => ?_)
        have hs300 := g298.size
        replace G := grown_new G hoa g298 (by omega)
        replace hR := hR.owned hoa g298 (by decide)
        replace hB12 := hB12.owned hoa g298 (by decide)
        replace hB7 := hB7.owned hoa g298 (by decide)
        replace ho286r := ho286r.owned hoa g298 (by decide) (by decide)
        refine Sq.fieldAddr fld26_2 .plain rfl rfl ?_
        refine Sq.store one24 .plain rfl rfl (Row.one (Own.row ho299)) hB7 (by simp) (fun w301 g302 hB303 => ?_)
        have hs304 := World.grownBy.size g302
        replace G := grown_far G g302 (fun k hk => by injection hk with hk; subst hk; omega)
        replace hR := hR.grown g302 (by intro h; injection h with h; omega)
        replace hB12 := hB12.grown g302 (by intro h; injection h with h; omega)
        replace ho286r := ho286r.stored g302 hB7 (by decide) (by decide)
        replace ho299 := ho299.stored g302 hB7 (by decide)
        replace hB7 := hB303
        refine Sq.nil ?_
        refine Eq.end ?_
        refine Eq.round _ _ ⟨_, _, _, _, rfl, hB7, OwnRows.now ho286r, Own.snocB ho299, by simp; omega, all_app hall (by omega), G, hR, hB12, rfl⟩ (by simp; omega) (.cons rfl (.cons rfl (.cons rfl (.cons rfl (.cons rfl (.cons rfl (.cons rfl (.cons rfl (.cons rfl (.cons rfl (.cons rfl (.cons rfl (.nil)))))))))))))
      refine Sq.pickT .plain rfl rfl rfl ?_
      refine Sq.nil ?_
      refine Eq.next ?_
      refine Cq.els rfl ?_
      refine Cq.exit ?_
      refine Eq.past ?_
      refine Eq.past ?_
      refine Eq.hit ?_
      refine Eq.end ?_
      refine Eq.next ?_
      refine Cq.seq ?_
      refine Cq.region ?_
      refine Sq.loadAgg agg26 .plain rfl rfl hB7 rfl ?_
      refine Sq.storeAgg agg26 .plain rfl rfl (one_cons rfl (one_cons (Rows.one (OwnRows.rows hor)) (one_cons (Row.one (Own.row hoa)) one_nil))) hB12 rfl rfl (fun w305 g306 hB307 => ?_)
      have hs308 := World.grownBy.size g306
      replace G := grown_far G g306 (fun k hk => by injection hk with hk; subst hk; omega)
      replace hR := hR.grown g306 (by intro h; injection h with h; omega)
      replace hor := hor.stored g306 hB12 (by decide) (by decide)
      replace hoa := hoa.stored g306 hB12 (by decide)
      replace hB12 := hB307
      refine Sq.nil ?_
      refine Eq.next ?_
      refine Cq.ret ?_
      refine Eq.retCell rfl rfl agg26 hB12 rfl ?_
      exact ⟨⟨_, by omega, hR, G⟩, ⟨a.al, xss, ys⟩, ⟨_, _, rfl, (OwnRows.rows hor), (Own.row hoa)⟩, ⟨hsm.1, by show xss.length ≤ _; omega, by show ys.length ≤ _; omega, fun row hr => by have := hall row hr; omega⟩⟩
    refine Sq.move .plain rfl rfl ?_
    refine Sq.off rfl rfl rfl rfl rfl rfl ?_
    refine Sq.off rfl rfl rfl rfl rfl rfl ?_
    refine Sq.off rfl rfl rfl rfl rfl rfl ?_
    refine Sq.off rfl rfl rfl rfl rfl rfl ?_
    refine Sq.pickF .plain rfl rfl rfl ?_
    refine Sq.nil ?_
    refine Eq.next ?_
    refine Cq.els rfl ?_
    refine Cq.exit ?_
    refine Eq.past ?_
    refine Eq.past ?_
    refine Eq.hit ?_
    refine Eq.end ?_
    refine Eq.next ?_
    refine Cq.seq ?_
    refine Cq.region ?_
    refine Sq.loadAgg agg26 .plain rfl rfl hB7 rfl ?_
    refine Sq.storeAgg agg26 .plain rfl rfl (one_cons rfl (one_cons (Rows.one (OwnRows.rows hor)) (one_cons (Row.one (Own.row hoa)) one_nil))) hB12 rfl rfl (fun w309 g310 hB311 => ?_)
    have hs312 := World.grownBy.size g310
    replace G := grown_far G g310 (fun k hk => by injection hk with hk; subst hk; omega)
    replace hR := hR.grown g310 (by intro h; injection h with h; omega)
    replace hor := hor.stored g310 hB12 (by decide) (by decide)
    replace hoa := hoa.stored g310 hB12 (by decide)
    replace hB12 := hB311
    refine Sq.nil ?_
    refine Eq.next ?_
    refine Cq.ret ?_
    refine Eq.retCell rfl rfl agg26 hB12 rfl ?_
    exact ⟨⟨_, by omega, hR, G⟩, ⟨a.al, xss, ys⟩, ⟨_, _, rfl, (OwnRows.rows hor), (Own.row hoa)⟩, ⟨hsm.1, by show xss.length ≤ _; omega, by show ys.length ≤ _; omega, fun row hr => by have := hall row hr; omega⟩⟩
  refine Sq.assign .plain rfl rfl ?_
  refine Sq.nil ?_
  refine Eq.next ?_
  refine Cq.els rfl ?_
  refine Cq.skip ?_
  refine Eq.end ?_
  refine Eq.next ?_
  refine Cq.seq ?_
  refine Cq.region ?_
  refine Sq.loadAgg agg26 .plain rfl rfl hB33 rfl ?_
  refine Sq.storeAgg agg26 .plain rfl rfl (one_cons rfl (one_cons (Rows.one (OwnRows.rows hn23)) (one_cons (Row.one (Own.row ha24)) one_nil))) hB12 rfl rfl (fun w313 g314 hB315 => ?_)
  have hs316 := World.grownBy.size g314
  replace hR := hR.grown g314 (by intro h; injection h with h; omega)
  replace G := grown_far G g314 (fun k hk => by injection hk with hk; subst hk; omega)
  replace hn23 := hn23.stored g314 hB12 (by decide) (by decide)
  replace ha24 := ha24.stored g314 hB12 (by decide)
  replace hB12 := hB315
  refine Sq.nil ?_
  refine Eq.next ?_
  refine Cq.ret ?_
  refine Eq.retCell rfl rfl agg26 hB12 rfl ?_
  exact ⟨⟨_, by omega, hR, G⟩, a, ⟨_, _, rfl, (OwnRows.rows hn23), (Own.row ha24)⟩, hsm.mono (by omega)⟩
end Go.Proofs.Ytpnelflmecchlaa
