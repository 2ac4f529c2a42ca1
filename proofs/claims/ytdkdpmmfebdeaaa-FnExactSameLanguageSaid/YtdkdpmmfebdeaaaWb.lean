/-
  Walks, printed by a program out of the translation and a contract for each function; each step is one law.
-/
import Derived.Test.YtdkdpmmfebdeaaaWa
set_option linter.unusedSimpArgs false
set_option linter.unusedVariables false
namespace Go.Proofs.Ytdkdpmmfebdeaaa
open Go.RowKit

set_option maxRecDepth 100000 in
theorem sValid_c (w0 : World) (a : A) (nx ac : Value) (hnx : Rows w0 52 3 nx a.next) (hac : Bools w0 4 ac a.acc) : Ret Try.prog 40 #[Value.agg #[Value.int .i64 a.al, nx, ac]] w0 (fun v w => v = .bool (validA a) ∧ Ext w0 w) := by
  have E := Ext.refl w0
  refine Ret.of (args := [Value.agg #[Value.int .i64 a.al, nx, ac]]) Try.func40 rfl rfl rfl ?_
  rintro _ rfl
  show Cq _ _ _ _ [(0, Value.agg #[Value.int .i64 a.al, nx, ac])] _
  refine Cq.seq ?_
  refine Cq.region ?_
  refine Sq.box .plain rfl rfl (fun b1 w2 e3 hB4 hlo5 => ?_)
  have hd6 := Nat.le_trans (Below.size E) hlo5
  have hs7 := Below.size e3
  replace E := E.trans e3
  refine Sq.assign .plain rfl rfl ?_
  refine Sq.nil ?_
  refine Eq.next ?_
  refine Cq.seq ?_
  refine Cq.region ?_
  refine Sq.fieldAddr fld27_1 .plain rfl rfl ?_
  refine Sq.loadB one22 .plain rfl rfl hB4 rfl ?_
  refine Sq.lenRows (hnx.ext E) .plain rfl und22 rfl ?_
  refine Sq.assign .plain rfl rfl ?_
  refine Sq.nil ?_
  refine Eq.next ?_
  refine Cq.seq ?_
  refine Cq.seq ?_
  refine Cq.region ?_
  refine Sq.fieldAddr fld27_0 .plain rfl rfl ?_
  refine Sq.loadB one3 .plain rfl rfl hB4 rfl ?_
  refine Sq.call fn74 .plain rfl rfl (l1Alphabet_c _ _) ?_
  rintro _ _ ⟨rfl, rfl⟩
  refine Sq.part (fun c8 => ?_) (fun c8 => ?_)
  · refine Sq.notT .plain rfl rfl ?_
    refine Sq.move .plain rfl rfl ?_
    refine Sq.move (.met rfl rfl rfl) rfl rfl ?_
    refine Sq.lss (.met rfl rfl rfl) rfl rfl rfl ?_
    refine Sq.part (fun c9 => ?_) (fun c9 => ?_)
    · refine Sq.pickF .plain rfl rfl rfl ?_
      refine Sq.move .plain rfl rfl ?_
      refine Sq.off rfl rfl rfl rfl rfl rfl ?_
      refine Sq.off rfl rfl rfl rfl rfl rfl ?_
      refine Sq.pickT .plain rfl rfl rfl ?_
      refine Sq.move .plain rfl rfl ?_
      refine Sq.off rfl rfl rfl rfl rfl rfl ?_
      refine Sq.off rfl rfl rfl rfl rfl rfl ?_
      refine Sq.off rfl rfl rfl rfl rfl rfl ?_
      refine Sq.off rfl rfl rfl rfl rfl rfl ?_
      refine Sq.off rfl rfl rfl rfl rfl rfl ?_
      refine Sq.pickT .plain rfl rfl rfl ?_
      refine Sq.nil ?_
      refine Eq.next ?_
      refine Cq.thn rfl ?_
      refine Cq.seq ?_
      refine Cq.region ?_
      refine Sq.assign .plain rfl rfl ?_
      refine Sq.nil ?_
      refine Eq.next ?_
      refine Cq.ret ?_
      refine Eq.pastRet ?_
      refine Eq.ret1 rfl rfl ?_
      exact ⟨by first | rw [validA_al (by omega)] | rw [validA_n (by omega)] | rw [validA_acc (by omega)] | rw [validA_row (k := k.toNat) (by omega) hrow] | rw [validA_good (k := k.toNat) (by omega) (by omega) (by omega) hp (by omega)], E⟩
    · refine Sq.pickF .plain rfl rfl rfl ?_
      refine Sq.move .plain rfl rfl ?_
      refine Sq.move (.met rfl rfl rfl) rfl rfl ?_
      refine Sq.gtr (.met rfl rfl rfl) rfl rfl rfl ?_
      refine Sq.part (fun c10 => ?_) (fun c10 => ?_)
      · refine Sq.pickF .plain rfl rfl rfl ?_
        refine Sq.move .plain rfl rfl ?_
        refine Sq.off rfl rfl rfl rfl rfl rfl ?_
        refine Sq.off rfl rfl rfl rfl rfl rfl ?_
        refine Sq.off rfl rfl rfl rfl rfl rfl ?_
        refine Sq.off rfl rfl rfl rfl rfl rfl ?_
        refine Sq.off rfl rfl rfl rfl rfl rfl ?_
        refine Sq.pickT .plain rfl rfl rfl ?_
        refine Sq.nil ?_
        refine Eq.next ?_
        refine Cq.thn rfl ?_
        refine Cq.seq ?_
        refine Cq.region ?_
        refine Sq.assign .plain rfl rfl ?_
        refine Sq.nil ?_
        refine Eq.next ?_
        refine Cq.ret ?_
        refine Eq.pastRet ?_
        refine Eq.ret1 rfl rfl ?_
        exact ⟨by first | rw [validA_al (by omega)] | rw [validA_n (by omega)] | rw [validA_acc (by omega)] | rw [validA_row (k := k.toNat) (by omega) hrow] | rw [validA_good (k := k.toNat) (by omega) (by omega) (by omega) hp (by omega)], E⟩
      · refine Sq.pickF .plain rfl rfl rfl ?_
        refine Sq.move .plain rfl rfl ?_
        refine Sq.fieldAddr fld27_2 (.met rfl rfl rfl) rfl rfl ?_
        refine Sq.loadB one23 (.met rfl rfl rfl) rfl rfl hB4 rfl ?_
        refine Sq.lenBools (hac.ext E) (.met rfl rfl rfl) rfl und23 rfl ?_
        refine Sq.move (.met rfl rfl rfl) rfl rfl ?_
        refine Sq.neq (.met rfl rfl rfl) rfl rfl rfl ?_
        refine Sq.part (fun c11 => ?_) (fun c11 => ?_)
        · refine Sq.pickF .plain rfl rfl rfl ?_
          refine Sq.nil ?_
          refine Eq.next ?_
          refine Cq.thn rfl ?_
          refine Cq.seq ?_
          refine Cq.region ?_
          refine Sq.assign .plain rfl rfl ?_
          refine Sq.nil ?_
          refine Eq.next ?_
          refine Cq.ret ?_
          refine Eq.pastRet ?_
          refine Eq.ret1 rfl rfl ?_
          exact ⟨by first | rw [validA_al (by omega)] | rw [validA_n (by omega)] | rw [validA_acc (by omega)] | rw [validA_row (k := k.toNat) (by omega) hrow] | rw [validA_good (k := k.toNat) (by omega) (by omega) (by omega) hp (by omega)], E⟩
        · refine Sq.pickF .plain rfl rfl rfl ?_
          refine Sq.nil ?_
          refine Eq.next ?_
          refine Cq.els rfl ?_
          refine Cq.skip ?_
          refine Eq.next ?_
          refine Cq.seq ?_
          refine Cq.seq ?_
          refine Cq.region ?_
          refine Sq.assign .plain rfl rfl ?_
          refine Sq.nil ?_
          refine Eq.next ?_
          refine Cq.block ?_
          refine Cq.loop (fun nn w ls => ∃ (k : Int), ls = [(1, Value.pointer (some ⟨b1, 0, none⟩)), (3, Value.int .i64 (List.length a.next : Int)), (4, Value.int .i64 k)] ∧ (0 ≤ k ∧ k ≤ a.next.length) ∧ (a.next.take k.toNat).all (rowOk (letters a.al).length a.next.length) = true ∧ Ext w0 w ∧ Blk w b1 27 [Value.int .i64 a.al, nx, ac] ∧ nn = ((a.next.length : Int) - k).toNat) _ _ ⟨0, rfl, by omega, rfl, E, hB4, rfl⟩ (.cons rfl (.cons rfl (.cons rfl (.nil)))) ?_
          rintro nn wl1 ls ⟨k, rfl, hk, hp, E, hB4, rfl⟩
          have hs12 := Below.size E
          refine Cq.seq ?_
          refine Cq.seq ?_
          refine Cq.region ?_
          refine Sq.move .plain rfl rfl ?_
          refine Sq.move .plain rfl rfl ?_
          refine Sq.lss .plain rfl rfl rfl ?_
          refine Sq.part (fun c13 => ?_) (fun c13 => ?_)
          · refine Sq.nil ?_
            refine Eq.next ?_
            refine Cq.thn rfl ?_
            refine Cq.skip ?_
            refine Eq.next ?_
            refine Cq.seq ?_
            refine Cq.block ?_
            refine Cq.seq ?_
            refine Cq.draw 12 none mixed (fun w14 e15 => ?_)
            have hs16 := Below.size e15
            replace E := E.trans e15
            replace hB4 := hB4.ext e15
            have E_w14 := E
            have hB4_w14 := hB4
            refine Gq.st 0 rfl (by kernel_rfl) rfl .plain rfl (fun _ _ _ h => h) (World.grownBy.refl w14 _) (fun w' x => Still.fieldAddr fld27_1 rfl) ?_
            refine Gq.st 1 rfl (by kernel_rfl) rfl .plain rfl (fun _ _ _ h => h) (World.grownBy.refl w14 _) (fun w' x => Still.loadB one22 rfl (hB4_w14.ext (Ext.of_grown x)) rfl) ?_
            refine Gq.st 2 rfl (by kernel_rfl) rfl .plain rfl (fun _ _ _ h => h) (World.grownBy.refl w14 _) (fun w' x => Still.move rfl) ?_
            obtain ⟨p17, r19, hp18_w14, hr20⟩ := Rows.at hnx (i := k) (by omega) (by omega)
            refine Gq.st 3 rfl (by kernel_rfl) rfl .plain rfl (fun _ _ _ h => h) (World.grownBy.refl w14 _) (fun w' x => Still.at' sl22 hp18_w14 rfl rfl) ?_
            refine Gq.st 4 rfl (by kernel_rfl) rfl .plain rfl (fun _ _ _ h => h) (World.grownBy.refl w14 _) (fun w' x => Still.loadA one52 rfl (hp18_w14.ext (E_w14.trans (Ext.of_grown x))).1) ?_
            refine Gq.st 5 rfl (by kernel_rfl) rfl .plain rfl (fun _ _ _ h => h) (World.grownBy.refl w14 _) (fun w' x => Still.fieldAddr fld27_0 rfl) ?_
            refine Gq.st 6 rfl (by kernel_rfl) rfl .plain rfl (fun _ _ _ h => h) (World.grownBy.refl w14 _) (fun w' x => Still.loadB one3 rfl (hB4_w14.ext (Ext.of_grown x)) rfl) ?_
            refine Gq.st 9 rfl (by kernel_rfl) rfl .plain rfl (fun _ _ _ h => h) (World.grownBy.refl w14 _) (fun w' x => Still.move rfl) ?_
            refine Gq.one 7 rfl (by kernel_rfl) ?_
            have hd25 := hB4.lt
            refine Sq.call fn52 .plain rfl rfl (l1Letters_c a.al (by omega) _) ?_
            rintro v21 w22 ⟨hl24, e23⟩
            have hs26 := Below.size E
            have hs27 := Below.size e23
            replace E := E.trans e23
            replace hB4 := hB4.ext e23
            refine Sq.nil ?_
            refine Eq.goes (fun _ => (grown_trans (World.grownBy.refl w14 _) (Ext.to_grown e23 _))) ?_
            refine Gq.one 8 rfl (by kernel_rfl) ?_
            refine Sq.lenInts (Own.row hl24) .plain rfl und52 rfl ?_
            refine Sq.nil ?_
            refine Eq.goes (fun _ => (grown_trans (World.grownBy.refl w14 _) (Ext.to_grown e23 _))) ?_
            refine Gq.one 10 rfl (by kernel_rfl) ?_
            refine Sq.call fn75 .plain rfl rfl (l3Row_c _ _ _ (hr20.ext E) _ _ (by have := letters_len6 a.al; omega)) ?_
            rintro _ _ ⟨rfl, rfl⟩
            refine Sq.partB (fun hrow => ?_) (fun hrow => ?_)
            · refine Sq.nil ?_
              refine Eq.goes (fun _ => (grown_trans (World.grownBy.refl w14 _) (Ext.to_grown e23 _))) ?_
              refine Gq.st 11 rfl (by kernel_rfl) rfl .plain rfl (fun _ _ _ h => h) (grown_trans (World.grownBy.refl w14 _) (Ext.to_grown e23 _)) (fun w' x => Still.notT rfl) ?_
              refine Gq.done (by kernel_rfl) ?_
              refine Eq.next ?_
              refine Cq.els rfl ?_
              refine Cq.skip ?_
              refine Eq.end ?_
              refine Eq.next ?_
              refine Cq.region ?_
              refine Sq.move .plain rfl rfl ?_
              refine Sq.add .plain rfl rfl rfl (by omega) ?_
              refine Sq.assign .plain rfl rfl ?_
              refine Sq.nil ?_
              have e1 := toNat_succ hk.1
              refine Eq.round _ _ ⟨k + 1, rfl, by omega, by rw [e1]; exact all_snoc (d := []) hp (by omega) hrow, E, hB4, rfl⟩ (by omega) (.cons rfl (.cons rfl (.cons rfl (.nil))))
            · refine Sq.nil ?_
              refine Eq.goes (fun _ => (grown_trans (World.grownBy.refl w14 _) (Ext.to_grown e23 _))) ?_
              refine Gq.st 11 rfl (by kernel_rfl) rfl .plain rfl (fun _ _ _ h => h) (grown_trans (World.grownBy.refl w14 _) (Ext.to_grown e23 _)) (fun w' x => Still.notF rfl) ?_
              refine Gq.done (by kernel_rfl) ?_
              refine Eq.next ?_
              refine Cq.thn rfl ?_
              refine Cq.seq ?_
              refine Cq.region ?_
              refine Sq.assign .plain rfl rfl ?_
              refine Sq.nil ?_
              refine Eq.next ?_
              refine Cq.ret ?_
              refine Eq.outRet ?_
              refine Eq.pastRet ?_
              refine Eq.pastRet ?_
              refine Eq.outRet ?_
              refine Eq.pastRet ?_
              refine Eq.ret1 rfl rfl ?_
              exact ⟨by first | rw [validA_al (by omega)] | rw [validA_n (by omega)] | rw [validA_acc (by omega)] | rw [validA_row (k := k.toNat) (by omega) hrow] | rw [validA_good (k := k.toNat) (by omega) (by omega) (by omega) hp (by omega)], E⟩
          · refine Sq.nil ?_
            refine Eq.next ?_
            refine Cq.els rfl ?_
            refine Cq.exit ?_
            refine Eq.past ?_
            refine Eq.past ?_
            refine Eq.hit ?_
            refine Eq.next ?_
            refine Cq.seq ?_
            refine Cq.region ?_
            refine Sq.assign .plain rfl rfl ?_
            refine Sq.nil ?_
            refine Eq.next ?_
            refine Cq.ret ?_
            refine Eq.ret1 rfl rfl ?_
            exact ⟨by first | rw [validA_al (by omega)] | rw [validA_n (by omega)] | rw [validA_acc (by omega)] | rw [validA_row (k := k.toNat) (by omega) hrow] | rw [validA_good (k := k.toNat) (by omega) (by omega) (by omega) hp (by omega)], E⟩
  · refine Sq.notF .plain rfl rfl ?_
    refine Sq.move .plain rfl rfl ?_
    refine Sq.off rfl rfl rfl rfl rfl rfl ?_
    refine Sq.off rfl rfl rfl rfl rfl rfl ?_
    refine Sq.pickT .plain rfl rfl rfl ?_
    refine Sq.move .plain rfl rfl ?_
    refine Sq.off rfl rfl rfl rfl rfl rfl ?_
    refine Sq.off rfl rfl rfl rfl rfl rfl ?_
    refine Sq.pickT .plain rfl rfl rfl ?_
    refine Sq.move .plain rfl rfl ?_
    refine Sq.off rfl rfl rfl rfl rfl rfl ?_
    refine Sq.off rfl rfl rfl rfl rfl rfl ?_
    refine Sq.off rfl rfl rfl rfl rfl rfl ?_
    refine Sq.off rfl rfl rfl rfl rfl rfl ?_
    refine Sq.off rfl rfl rfl rfl rfl rfl ?_
    refine Sq.pickT .plain rfl rfl rfl ?_
    refine Sq.nil ?_
    refine Eq.next ?_
    refine Cq.thn rfl ?_
    refine Cq.seq ?_
    refine Cq.region ?_
    refine Sq.assign .plain rfl rfl ?_
    refine Sq.nil ?_
    refine Eq.next ?_
    refine Cq.ret ?_
    refine Eq.pastRet ?_
    refine Eq.ret1 rfl rfl ?_
    exact ⟨by first | rw [validA_al (by omega)] | rw [validA_n (by omega)] | rw [validA_acc (by omega)] | rw [validA_row (k := k.toNat) (by omega) hrow] | rw [validA_good (k := k.toNat) (by omega) (by omega) (by omega) hp (by omega)], E⟩

set_option maxRecDepth 100000 in
theorem valid_c (w0 : World) (a : A) (nx ac : Value) (hnx : Rows w0 52 3 nx a.next) (hac : Bools w0 4 ac a.acc) : Ret Try.prog 44 #[Value.agg #[Value.int .i64 a.al, nx, ac]] w0 (fun v w => v = .bool (validA a) ∧ Ext w0 w) := by
  have E := Ext.refl w0
  refine Ret.of (args := [Value.agg #[Value.int .i64 a.al, nx, ac]]) Try.func44 rfl rfl rfl ?_
  rintro _ rfl
  show Cq _ _ _ _ [(0, Value.agg #[Value.int .i64 a.al, nx, ac])] _
  refine Cq.seq ?_
  refine Cq.region ?_
  refine Sq.box .plain rfl rfl (fun b1 w2 e3 hB4 hlo5 => ?_)
  have hd6 := Nat.le_trans (Below.size E) hlo5
  have hs7 := Below.size e3
  replace E := E.trans e3
  refine Sq.assign .plain rfl rfl ?_
  refine Sq.nil ?_
  refine Eq.next ?_
  refine Cq.seq ?_
  refine Cq.seq ?_
  refine Cq.region ?_
  refine Sq.fieldAddr fld27_0 .plain rfl rfl ?_
  refine Sq.loadB one3 .plain rfl rfl hB4 rfl ?_
  refine Sq.call fn79 .plain rfl rfl (isAlphabet_c _ _) ?_
  rintro _ _ ⟨rfl, rfl⟩
  refine Sq.part (fun c8 => ?_) (fun c8 => ?_)
  · refine Sq.notT .plain rfl rfl ?_
    refine Sq.move .plain rfl rfl ?_
    refine Sq.fieldAddr fld27_1 (.met rfl rfl rfl) rfl rfl ?_
    refine Sq.loadB one22 (.met rfl rfl rfl) rfl rfl hB4 rfl ?_
    refine Sq.lenRows (hnx.ext E) (.met rfl rfl rfl) rfl und22 rfl ?_
    refine Sq.lss (.met rfl rfl rfl) rfl rfl rfl ?_
    refine Sq.part (fun c9 => ?_) (fun c9 => ?_)
    · refine Sq.pickF .plain rfl rfl rfl ?_
      refine Sq.move .plain rfl rfl ?_
      refine Sq.off rfl rfl rfl rfl rfl rfl ?_
      refine Sq.off rfl rfl rfl rfl rfl rfl ?_
      refine Sq.off rfl rfl rfl rfl rfl rfl ?_
      refine Sq.off rfl rfl rfl rfl rfl rfl ?_
      refine Sq.pickT .plain rfl rfl rfl ?_
      refine Sq.move .plain rfl rfl ?_
      refine Sq.off rfl rfl rfl rfl rfl rfl ?_
      refine Sq.off rfl rfl rfl rfl rfl rfl ?_
      refine Sq.off rfl rfl rfl rfl rfl rfl ?_
      refine Sq.off rfl rfl rfl rfl rfl rfl ?_
      refine Sq.off rfl rfl rfl rfl rfl rfl ?_
      refine Sq.off rfl rfl rfl rfl rfl rfl ?_
      refine Sq.off rfl rfl rfl rfl rfl rfl ?_
      refine Sq.pickT .plain rfl rfl rfl ?_
      refine Sq.nil ?_
      refine Eq.next ?_
      refine Cq.thn rfl ?_
      refine Cq.seq ?_
      refine Cq.region ?_
      refine Sq.assign .plain rfl rfl ?_
      refine Sq.nil ?_
      refine Eq.next ?_
      refine Cq.ret ?_
      refine Eq.pastRet ?_
      refine Eq.ret1 rfl rfl ?_
      exact ⟨by first | rw [validA_al (by omega)] | rw [validA_n (by omega)] | rw [validA_acc (by omega)] | rw [validA_row (k := k.toNat) (by omega) (rowOk_len (by omega))] | rw [validA_row (k := k.toNat) (by omega) (rowOk_bad (by omega) (k := j.toNat) (by omega) (inB_F (by omega)))] | rw [validA_good (k := k.toNat) (by omega) (by omega) (by omega) hp (by omega)], E⟩
    · refine Sq.pickF .plain rfl rfl rfl ?_
      refine Sq.move .plain rfl rfl ?_
      refine Sq.fieldAddr fld27_1 (.met rfl rfl rfl) rfl rfl ?_
      refine Sq.loadB one22 (.met rfl rfl rfl) rfl rfl hB4 rfl ?_
      refine Sq.lenRows (hnx.ext E) (.met rfl rfl rfl) rfl und22 rfl ?_
      refine Sq.gtr (.met rfl rfl rfl) rfl rfl rfl ?_
      refine Sq.part (fun c10 => ?_) (fun c10 => ?_)
      · refine Sq.pickF .plain rfl rfl rfl ?_
        refine Sq.move .plain rfl rfl ?_
        refine Sq.off rfl rfl rfl rfl rfl rfl ?_
        refine Sq.off rfl rfl rfl rfl rfl rfl ?_
        refine Sq.off rfl rfl rfl rfl rfl rfl ?_
        refine Sq.off rfl rfl rfl rfl rfl rfl ?_
        refine Sq.off rfl rfl rfl rfl rfl rfl ?_
        refine Sq.off rfl rfl rfl rfl rfl rfl ?_
        refine Sq.off rfl rfl rfl rfl rfl rfl ?_
        refine Sq.pickT .plain rfl rfl rfl ?_
        refine Sq.nil ?_
        refine Eq.next ?_
        refine Cq.thn rfl ?_
        refine Cq.seq ?_
        refine Cq.region ?_
        refine Sq.assign .plain rfl rfl ?_
        refine Sq.nil ?_
        refine Eq.next ?_
        refine Cq.ret ?_
        refine Eq.pastRet ?_
        refine Eq.ret1 rfl rfl ?_
        exact ⟨by first | rw [validA_al (by omega)] | rw [validA_n (by omega)] | rw [validA_acc (by omega)] | rw [validA_row (k := k.toNat) (by omega) (rowOk_len (by omega))] | rw [validA_row (k := k.toNat) (by omega) (rowOk_bad (by omega) (k := j.toNat) (by omega) (inB_F (by omega)))] | rw [validA_good (k := k.toNat) (by omega) (by omega) (by omega) hp (by omega)], E⟩
      · refine Sq.pickF .plain rfl rfl rfl ?_
        refine Sq.move .plain rfl rfl ?_
        refine Sq.fieldAddr fld27_2 (.met rfl rfl rfl) rfl rfl ?_
        refine Sq.loadB one23 (.met rfl rfl rfl) rfl rfl hB4 rfl ?_
        refine Sq.lenBools (hac.ext E) (.met rfl rfl rfl) rfl und23 rfl ?_
        refine Sq.fieldAddr fld27_1 (.met rfl rfl rfl) rfl rfl ?_
        refine Sq.loadB one22 (.met rfl rfl rfl) rfl rfl hB4 rfl ?_
        refine Sq.lenRows (hnx.ext E) (.met rfl rfl rfl) rfl und22 rfl ?_
        refine Sq.neq (.met rfl rfl rfl) rfl rfl rfl ?_
        refine Sq.part (fun c11 => ?_) (fun c11 => ?_)
        · refine Sq.pickF .plain rfl rfl rfl ?_
          refine Sq.nil ?_
          refine Eq.next ?_
          refine Cq.thn rfl ?_
          refine Cq.seq ?_
          refine Cq.region ?_
          refine Sq.assign .plain rfl rfl ?_
          refine Sq.nil ?_
          refine Eq.next ?_
          refine Cq.ret ?_
          refine Eq.pastRet ?_
          refine Eq.ret1 rfl rfl ?_
          exact ⟨by first | rw [validA_al (by omega)] | rw [validA_n (by omega)] | rw [validA_acc (by omega)] | rw [validA_row (k := k.toNat) (by omega) (rowOk_len (by omega))] | rw [validA_row (k := k.toNat) (by omega) (rowOk_bad (by omega) (k := j.toNat) (by omega) (inB_F (by omega)))] | rw [validA_good (k := k.toNat) (by omega) (by omega) (by omega) hp (by omega)], E⟩
        · refine Sq.pickF .plain rfl rfl rfl ?_
          refine Sq.nil ?_
          refine Eq.next ?_
          refine Cq.els rfl ?_
          refine Cq.skip ?_
          refine Eq.next ?_
          refine Cq.seq ?_
          refine Cq.region ?_
          refine Sq.fieldAddr fld27_0 .plain rfl rfl ?_
          refine Sq.loadB one3 .plain rfl rfl hB4 rfl ?_
          have hd16 := hB4.lt
          refine Sq.call fn58 .plain rfl rfl (lettersOf_c a.al (by omega) _) ?_
          rintro v12 w13 ⟨hl15, e14⟩
          have hs17 := Below.size E
          have hs18 := Below.size e14
          replace E := E.trans e14
          replace hB4 := hB4.ext e14
          refine Sq.lenInts (Own.row hl15) .plain rfl und52 rfl ?_
          refine Sq.assign .plain rfl rfl ?_
          refine Sq.nil ?_
          refine Eq.next ?_
          refine Cq.seq ?_
          refine Cq.seq ?_
          refine Cq.region ?_
          refine Sq.fieldAddr fld27_1 .plain rfl rfl ?_
          refine Sq.loadB one22 .plain rfl rfl hB4 rfl ?_
          refine Sq.lenRows (hnx.ext E) .plain rfl und22 rfl ?_
          refine Sq.move .plain rfl rfl ?_
          refine Sq.nil ?_
          refine Eq.next ?_
          refine Cq.block ?_
          refine Cq.loop (fun nn w ls => ∃ (k : Int), ls = [(1, Value.pointer (some ⟨b1, 0, none⟩)), (3, Value.int .i64 ((List.length (letters a.al) : Int))), (38, nx), (39, Value.int .i64 (List.length a.next : Int)), (40, Value.int .i64 k)] ∧ (0 ≤ k ∧ k ≤ a.next.length) ∧ (a.next.take k.toNat).all (rowOk (letters a.al).length a.next.length) = true ∧ Ext w0 w ∧ Blk w b1 27 [Value.int .i64 a.al, nx, ac] ∧ nn = ((a.next.length : Int) - k).toNat) _ _ ⟨0, rfl, by omega, rfl, E, hB4, rfl⟩ (.cons rfl (.cons rfl (.cons rfl (.cons rfl (.cons rfl (.nil)))))) ?_
          rintro nn wl1 ls ⟨k, rfl, hk, hp, E, hB4, rfl⟩
          have hs19 := Below.size E
          refine Cq.seq ?_
          refine Cq.region ?_
          refine Sq.lss .plain rfl rfl rfl ?_
          refine Sq.part (fun c20 => ?_) (fun c20 => ?_)
          · refine Sq.nil ?_
            refine Eq.next ?_
            refine Cq.seq ?_
            refine Cq.thn rfl ?_
            refine Cq.skip ?_
            refine Eq.next ?_
            refine Cq.seq ?_
            refine Cq.block ?_
            refine Cq.seq ?_
            refine Cq.region ?_
            refine Sq.idxRows sl22 one52 (hnx.ext E) .plain rfl rfl rfl .plain rfl rfl (by omega) (by omega) (fun r21 hr22 => ?_)
            refine Sq.assign .plain rfl rfl ?_
            refine Sq.nil ?_
            refine Eq.next ?_
            refine Cq.seq ?_
            refine Cq.seq ?_
            refine Cq.region ?_
            refine Sq.move .plain rfl rfl ?_
            refine Sq.lenInts hr22 .plain rfl und52 rfl ?_
            refine Sq.move .plain rfl rfl ?_
            refine Sq.neq .plain rfl rfl rfl ?_
            refine Sq.part (fun c23 => ?_) (fun c23 => ?_)
            · refine Sq.nil ?_
              refine Eq.next ?_
              refine Cq.thn rfl ?_
              refine Cq.seq ?_
              refine Cq.region ?_
              refine Sq.assign .plain rfl rfl ?_
              refine Sq.nil ?_
              refine Eq.next ?_
              refine Cq.ret ?_
              refine Eq.pastRet ?_
              refine Eq.outRet ?_
              refine Eq.pastRet ?_
              refine Eq.pastRet ?_
              refine Eq.outRet ?_
              refine Eq.pastRet ?_
              refine Eq.ret1 rfl rfl ?_
              exact ⟨by first | rw [validA_al (by omega)] | rw [validA_n (by omega)] | rw [validA_acc (by omega)] | rw [validA_row (k := k.toNat) (by omega) (rowOk_len (by omega))] | rw [validA_row (k := k.toNat) (by omega) (rowOk_bad (by omega) (k := j.toNat) (by omega) (inB_F (by omega)))] | rw [validA_good (k := k.toNat) (by omega) (by omega) (by omega) hp (by omega)], E⟩
            · refine Sq.nil ?_
              refine Eq.next ?_
              refine Cq.els rfl ?_
              refine Cq.skip ?_
              refine Eq.next ?_
              refine Cq.seq ?_
              refine Cq.region ?_
              refine Sq.move .plain rfl rfl ?_
              refine Sq.lenInts hr22 .plain rfl und52 rfl ?_
              refine Sq.move .plain rfl rfl ?_
              refine Sq.nil ?_
              refine Eq.next ?_
              refine Cq.block ?_
              refine Cq.loop (fun nn w ls => ∃ (j : Int), ls = [(1, Value.pointer (some ⟨b1, 0, none⟩)), (3, Value.int .i64 ((List.length (letters a.al) : Int))), (38, nx), (39, Value.int .i64 (List.length a.next : Int)), (40, Value.int .i64 k), (48, r21), (49, Value.int .i64 ((List.length (a.next.getD k.toNat []) : Int))), (50, Value.int .i64 j)] ∧ (0 ≤ j ∧ j ≤ (a.next.getD k.toNat []).length) ∧ ((a.next.getD k.toNat []).take j.toNat).all (inB a.next.length) = true ∧ Ext w0 w ∧ Blk w b1 27 [Value.int .i64 a.al, nx, ac] ∧ Ints w 3 r21 (a.next.getD k.toNat []) ∧ nn = (((a.next.getD k.toNat []).length : Int) - j).toNat) _ _ ⟨0, rfl, by omega, rfl, E, hB4, hr22, rfl⟩ (.cons rfl (.cons rfl (.cons rfl (.cons rfl (.cons rfl (.cons rfl (.cons rfl (.cons rfl (.nil))))))))) ?_
              rintro nn wl2 ls ⟨j, rfl, hj, hq, E, hB4, hr22, rfl⟩
              have hs24 := Below.size E
              have hl6 := letters_len6 a.al
              refine Cq.seq ?_
              refine Cq.region ?_
              refine Sq.lss .plain rfl rfl rfl ?_
              refine Sq.part (fun c25 => ?_) (fun c25 => ?_)
              · refine Sq.nil ?_
                refine Eq.next ?_
                refine Cq.seq ?_
                refine Cq.thn rfl ?_
                refine Cq.skip ?_
                refine Eq.next ?_
                refine Cq.seq ?_
                refine Cq.block ?_
                refine Cq.seq ?_
                refine Cq.region ?_
                refine Sq.idxInts sl52 one3 hr22 .plain rfl rfl rfl .plain rfl rfl (by omega) (by omega) ?_
                refine Sq.assign .plain rfl rfl ?_
                refine Sq.nil ?_
                refine Eq.next ?_
                refine Cq.seq ?_
                refine Cq.region ?_
                refine Sq.move .plain rfl rfl ?_
                refine Sq.lss .plain rfl rfl rfl ?_
                refine Sq.part (fun c26 => ?_) (fun c26 => ?_)
                · refine Sq.move .plain rfl rfl ?_
                  refine Sq.off rfl rfl rfl rfl rfl rfl ?_
                  refine Sq.off rfl rfl rfl rfl rfl rfl ?_
                  refine Sq.off rfl rfl rfl rfl rfl rfl ?_
                  refine Sq.off rfl rfl rfl rfl rfl rfl ?_
                  refine Sq.off rfl rfl rfl rfl rfl rfl ?_
                  refine Sq.pickT .plain rfl rfl rfl ?_
                  refine Sq.nil ?_
                  refine Eq.next ?_
                  refine Cq.thn rfl ?_
                  refine Cq.seq ?_
                  refine Cq.region ?_
                  refine Sq.assign .plain rfl rfl ?_
                  refine Sq.nil ?_
                  refine Eq.next ?_
                  refine Cq.ret ?_
                  refine Eq.outRet ?_
                  refine Eq.pastRet ?_
                  refine Eq.pastRet ?_
                  refine Eq.outRet ?_
                  refine Eq.outRet ?_
                  refine Eq.pastRet ?_
                  refine Eq.pastRet ?_
                  refine Eq.outRet ?_
                  refine Eq.pastRet ?_
                  refine Eq.ret1 rfl rfl ?_
                  exact ⟨by first | rw [validA_al (by omega)] | rw [validA_n (by omega)] | rw [validA_acc (by omega)] | rw [validA_row (k := k.toNat) (by omega) (rowOk_len (by omega))] | rw [validA_row (k := k.toNat) (by omega) (rowOk_bad (by omega) (k := j.toNat) (by omega) (inB_F (by omega)))] | rw [validA_good (k := k.toNat) (by omega) (by omega) (by omega) hp (by omega)], E⟩
                · refine Sq.move .plain rfl rfl ?_
                  refine Sq.move (.met rfl rfl rfl) rfl rfl ?_
                  refine Sq.fieldAddr fld27_1 (.met rfl rfl rfl) rfl rfl ?_
                  refine Sq.loadB one22 (.met rfl rfl rfl) rfl rfl hB4 rfl ?_
                  refine Sq.lenRows (hnx.ext E) (.met rfl rfl rfl) rfl und22 rfl ?_
                  refine Sq.geq (.met rfl rfl rfl) rfl rfl rfl ?_
                  refine Sq.part (fun c27 => ?_) (fun c27 => ?_)
                  · refine Sq.pickF .plain rfl rfl rfl ?_
                    refine Sq.nil ?_
                    refine Eq.next ?_
                    refine Cq.thn rfl ?_
                    refine Cq.seq ?_
                    refine Cq.region ?_
                    refine Sq.assign .plain rfl rfl ?_
                    refine Sq.nil ?_
                    refine Eq.next ?_
                    refine Cq.ret ?_
                    refine Eq.outRet ?_
                    refine Eq.pastRet ?_
                    refine Eq.pastRet ?_
                    refine Eq.outRet ?_
                    refine Eq.outRet ?_
                    refine Eq.pastRet ?_
                    refine Eq.pastRet ?_
                    refine Eq.outRet ?_
                    refine Eq.pastRet ?_
                    refine Eq.ret1 rfl rfl ?_
                    exact ⟨by first | rw [validA_al (by omega)] | rw [validA_n (by omega)] | rw [validA_acc (by omega)] | rw [validA_row (k := k.toNat) (by omega) (rowOk_len (by omega))] | rw [validA_row (k := k.toNat) (by omega) (rowOk_bad (by omega) (k := j.toNat) (by omega) (inB_F (by omega)))] | rw [validA_good (k := k.toNat) (by omega) (by omega) (by omega) hp (by omega)], E⟩
                  · refine Sq.pickF .plain rfl rfl rfl ?_
                    refine Sq.nil ?_
                    refine Eq.next ?_
                    refine Cq.els rfl ?_
                    refine Cq.skip ?_
                    refine Eq.end ?_
                    refine Eq.next ?_
                    refine Cq.region ?_
                    refine Sq.add .plain rfl rfl rfl (by omega) ?_
                    refine Sq.move .plain rfl rfl ?_
                    refine Sq.nil ?_
                    have e2 := toNat_succ hj.1
                    refine Eq.round _ _ ⟨j + 1, rfl, by omega, by rw [e2]; exact all_snoc (d := 0) hq (by omega) (inB_T (by omega)), E, hB4, hr22, rfl⟩ (by omega) (.cons rfl (.cons rfl (.cons rfl (.cons rfl (.cons rfl (.cons rfl (.cons rfl (.cons rfl (.nil)))))))))
              · refine Sq.nil ?_
                refine Eq.next ?_
                refine Cq.seq ?_
                refine Cq.els rfl ?_
                refine Cq.exit ?_
                refine Eq.past ?_
                refine Eq.past ?_
                refine Eq.hit ?_
                refine Eq.end ?_
                refine Eq.next ?_
                refine Cq.region ?_
                refine Sq.add .plain rfl rfl rfl (by omega) ?_
                refine Sq.move .plain rfl rfl ?_
                refine Sq.nil ?_
                have e1 := toNat_succ hk.1
                refine Eq.round _ _ ⟨k + 1, rfl, by omega, by rw [e1]; exact all_snoc (d := []) hp (by omega) (rowOk_good (by omega) hq (by omega)), E, hB4, rfl⟩ (by omega) (.cons rfl (.cons rfl (.cons rfl (.cons rfl (.cons rfl (.nil))))))
          · refine Sq.nil ?_
            refine Eq.next ?_
            refine Cq.seq ?_
            refine Cq.els rfl ?_
            refine Cq.exit ?_
            refine Eq.past ?_
            refine Eq.past ?_
            refine Eq.hit ?_
            refine Eq.next ?_
            refine Cq.seq ?_
            refine Cq.region ?_
            refine Sq.assign .plain rfl rfl ?_
            refine Sq.nil ?_
            refine Eq.next ?_
            refine Cq.ret ?_
            refine Eq.ret1 rfl rfl ?_
            exact ⟨by first | rw [validA_al (by omega)] | rw [validA_n (by omega)] | rw [validA_acc (by omega)] | rw [validA_row (k := k.toNat) (by omega) (rowOk_len (by omega))] | rw [validA_row (k := k.toNat) (by omega) (rowOk_bad (by omega) (k := j.toNat) (by omega) (inB_F (by omega)))] | rw [validA_good (k := k.toNat) (by omega) (by omega) (by omega) hp (by omega)], E⟩
  · refine Sq.notF .plain rfl rfl ?_
    refine Sq.move .plain rfl rfl ?_
    refine Sq.off rfl rfl rfl rfl rfl rfl ?_
    refine Sq.off rfl rfl rfl rfl rfl rfl ?_
    refine Sq.off rfl rfl rfl rfl rfl rfl ?_
    refine Sq.off rfl rfl rfl rfl rfl rfl ?_
    refine Sq.pickT .plain rfl rfl rfl ?_
    refine Sq.move .plain rfl rfl ?_
    refine Sq.off rfl rfl rfl rfl rfl rfl ?_
    refine Sq.off rfl rfl rfl rfl rfl rfl ?_
    refine Sq.off rfl rfl rfl rfl rfl rfl ?_
    refine Sq.off rfl rfl rfl rfl rfl rfl ?_
    refine Sq.pickT .plain rfl rfl rfl ?_
    refine Sq.move .plain rfl rfl ?_
    refine Sq.off rfl rfl rfl rfl rfl rfl ?_
    refine Sq.off rfl rfl rfl rfl rfl rfl ?_
    refine Sq.off rfl rfl rfl rfl rfl rfl ?_
    refine Sq.off rfl rfl rfl rfl rfl rfl ?_
    refine Sq.off rfl rfl rfl rfl rfl rfl ?_
    refine Sq.off rfl rfl rfl rfl rfl rfl ?_
    refine Sq.off rfl rfl rfl rfl rfl rfl ?_
    refine Sq.pickT .plain rfl rfl rfl ?_
    refine Sq.nil ?_
    refine Eq.next ?_
    refine Cq.thn rfl ?_
    refine Cq.seq ?_
    refine Cq.region ?_
    refine Sq.assign .plain rfl rfl ?_
    refine Sq.nil ?_
    refine Eq.next ?_
    refine Cq.ret ?_
    refine Eq.pastRet ?_
    refine Eq.ret1 rfl rfl ?_
    exact ⟨by first | rw [validA_al (by omega)] | rw [validA_n (by omega)] | rw [validA_acc (by omega)] | rw [validA_row (k := k.toNat) (by omega) (rowOk_len (by omega))] | rw [validA_row (k := k.toNat) (by omega) (rowOk_bad (by omega) (k := j.toNat) (by omega) (inB_F (by omega)))] | rw [validA_good (k := k.toNat) (by omega) (by omega) (by omega) hp (by omega)], E⟩

end Go.Proofs.Ytdkdpmmfebdeaaa
