/-
  The texts of this proof, joined (wip/merge.py): the calculus of slots, plain mathematics, walks.
-/
import Derived.Test.YtdejmfkpohgamaaGc4
set_option linter.unusedSimpArgs false
set_option linter.unusedVariables false
namespace Go.Proofs.Ytdejmfkpohgamaa
open Go.RowKit
set_option maxRecDepth 100000 in
theorem letterByte_c (x : Int) (hx : 0 ≤ x ∧ x ≤ 100) (w0 : World) : Ret Try.prog 131 #[Value.int .i64 x] w0 (fun v w => v = .int .u8 (97 + x) ∧ w0 = w) := by
  refine Ret.of (args := [Value.int .i64 x]) Try.func131 rfl rfl rfl ?_
  rintro _ rfl
  show Cq _ _ _ _ [(0, Value.int .i64 x)] _
  refine Cq.seq ?_
  refine Cq.region ?_
  refine Sq.assign .plain rfl rfl ?_
  refine Sq.nil ?_
  refine Eq.next ?_
  refine Cq.seq ?_
  refine Cq.region ?_
  refine Sq.move .plain rfl rfl ?_
  refine Sq.add .plain rfl rfl rfl (by omega) ?_
  refine Sq.conv8 conv3_5 .plain rfl rfl (by omega) ?_
  refine Sq.assign .plain rfl rfl ?_
  refine Sq.nil ?_
  refine Eq.next ?_
  refine Cq.ret ?_
  refine Eq.ret1 rfl rfl ?_
  exact ⟨rfl, rfl⟩
set_option maxRecDepth 100000 in
theorem reverse_c (w0 : World) (B : Nat) (r : Value) (xs : List UInt8) (ho : Own w0 B 5 r (xs.map fun b => Value.int .u8 (b.toNat : Int))) (hl : xs.length ≤ 1000) : Ret Try.prog 132 #[r] w0 (fun v w => v = .tuple #[] ∧ Own w B 5 r (xs.reverse.map fun b => Value.int .u8 (b.toNat : Int)) ∧ w0.grownBy w r.ownBlock) := by
  have hgo := World.grownBy.refl w0 r.ownBlock
  refine Ret.of (args := [r]) Try.func132 rfl rfl rfl ?_
  rintro _ rfl
  show Cq _ _ _ _ [(0, r)] _
  refine Cq.seq ?_
  refine Cq.region ?_
  refine Sq.move .plain rfl rfl ?_
  refine Sq.lenBytes (Own.row ho) .plain rfl und22 rfl ?_
  refine Sq.sub .plain rfl rfl rfl (by omega) ?_
  refine Sq.assign .plain rfl rfl ?_
  refine Sq.assign .plain rfl rfl ?_
  refine Sq.nil ?_
  refine Eq.next ?_
  refine Cq.block ?_
  rw [show ((xs.length : Int) - 1) = (xs.length : Int) - 1 - 0 by omega]
  refine Cq.loop (fun nn w ls => ∃ (i : Int), ∃ (ys : List UInt8), ls = [(0, r), (2, Value.int .i64 i), (3, Value.int .i64 ((xs.length : Int) - 1 - i))] ∧ (0 ≤ i ∧ i ≤ xs.length) ∧ Own w B 5 r (ys.map fun b => Value.int .u8 (b.toNat : Int)) ∧ RevAt xs i.toNat ys ∧ World.grownBy w0 w r.ownBlock ∧ nn = ((xs.length : Int) - i).toNat) _ _ ⟨0, _, rfl, by omega, ho, RevAt.zero xs, hgo, rfl⟩ (.cons rfl (.cons rfl (.cons rfl (.nil)))) ?_
  rintro nn wl1 ls ⟨i, ys, rfl, hi, ho, hr, hgo, rfl⟩
  have hyl := hr.1
  refine Cq.seq ?_
  refine Cq.seq ?_
  refine Cq.region ?_
  refine Sq.move .plain rfl rfl ?_
  refine Sq.move .plain rfl rfl ?_
  refine Sq.lss .plain rfl rfl rfl ?_
  refine Sq.part (fun c1 => ?_) (fun c1 => ?_)
  · refine Sq.nil ?_
    refine Eq.next ?_
    refine Cq.thn rfl ?_
    refine Cq.skip ?_
    refine Eq.next ?_
    refine Cq.seq ?_
    refine Cq.block ?_
    refine Cq.drawS 14 (fun w' => World.grownBy w0 w' r.ownBlock) mixed (hgo) (fun w2 e3 hS => ?_)
    clear hS
    have hs4 := Below.size e3
    replace hgo := grown_trans hgo (Ext.to_grown e3 _)
    replace ho := ho.ext e3
    have ho_w2 := ho
    refine Gq.st 0 rfl (by kernel_rfl) rfl .plain rfl (fun _ _ _ h => h) hgo (fun w' x => Still.move rfl) ?_
    refine Gq.st 1 rfl (by kernel_rfl) rfl .plain rfl (fun _ _ _ h => h) hgo (fun w' x => Still.move rfl) ?_
    refine Gq.st 2 rfl (by kernel_rfl) rfl .plain rfl (fun _ _ _ h => h) hgo (fun w' x => Still.move rfl) ?_
    refine Gq.st 3 rfl (by kernel_rfl) rfl .plain rfl (fun _ _ _ h => h) hgo (fun w' x => Still.move rfl) ?_
    refine Gq.st 4 rfl (by kernel_rfl) rfl .plain rfl (fun _ _ _ h => h) hgo (fun w' x => Still.move rfl) ?_
    refine Gq.st 5 rfl (by kernel_rfl) rfl .plain rfl (fun _ _ _ h => h) hgo (fun w' x => Still.move rfl) ?_
    refine Gq.st 8 rfl (by kernel_rfl) rfl .plain rfl (fun _ _ _ h => h) hgo (fun w' x => Still.move rfl) ?_
    refine Gq.st 9 rfl (by kernel_rfl) rfl .plain rfl (fun _ _ _ h => h) hgo (fun w' x => Still.move rfl) ?_
    refine Gq.two 6 10 rfl rfl (by kernel_rfl) ?_ ?_
    · obtain ⟨p5, hp6⟩ := Bytes.at (Own.row ho) (i := ((xs.length : Int) - 1 - i)) (by omega) (by omega)
      refine Sq.val .plain rfl rfl (Still.at' sl22 hp6 rfl rfl) ?_
      refine Sq.nil ?_
      refine Eq.goes (fun _ => hgo) ?_
      refine Gq.two 7 10 rfl rfl (by kernel_rfl) ?_ ?_
      · refine Sq.val .plain rfl rfl (Still.loadA one5 rfl hp6.1) ?_
        refine Sq.nil ?_
        refine Eq.goes (fun _ => hgo) ?_
        refine Gq.one 10 rfl (by kernel_rfl) ?_
        obtain ⟨p7, hp8⟩ := Bytes.at (Own.row ho) (i := i) (by omega) (by omega)
        refine Sq.val .plain rfl rfl (Still.at' sl22 hp8 rfl rfl) ?_
        refine Sq.nil ?_
        refine Eq.goes (fun _ => hgo) ?_
        refine Gq.one 11 rfl (by kernel_rfl) ?_
        refine Sq.val .plain rfl rfl (Still.loadA one5 rfl hp8.1) ?_
        refine Sq.nil ?_
        refine Eq.goes (fun _ => hgo) ?_
        obtain ⟨p9, hp10_w2⟩ := Bytes.at (Own.row ho_w2) (i := i) (by omega) (by omega)
        have hp10o := AtO.of ho_w2 hp10_w2
        refine Gq.st 12 rfl (by kernel_rfl) rfl .plain rfl (fun _ _ _ h => h) hgo (fun w' x => Still.at' sl22 hp10_w2 rfl rfl) ?_
        refine Gq.one 13 rfl (by kernel_rfl) ?_
        refine Sq.storeO one5 ho hp10o .plain rfl rfl rfl (fun w11 g12 ho13 => ?_)
        have hs14 := World.grownBy.size g12
        replace hgo := grown_trans hgo g12
        replace ho := ho13
        refine Sq.nil ?_
        refine Eq.goes (fun _ => hgo) ?_
        refine Gq.one 14 rfl (by kernel_rfl) ?_
        obtain ⟨p15, hp16o⟩ := Own.at ho (i := ((xs.length : Int) - 1 - i)) (by omega) (by first | (simp only [List.length_map]; omega) | (simp; omega))
        refine Sq.atO sl22 hp16o .plain rfl rfl rfl ?_
        refine Sq.nil ?_
        refine Eq.goes (fun h => absurd h (by decide)) ?_
        refine Gq.one 15 rfl (by kernel_rfl) ?_
        refine Sq.storeO one5 ho hp16o .plain rfl rfl rfl (fun w17 g18 ho19 => ?_)
        have hs20 := World.grownBy.size g18
        replace hgo := grown_trans hgo g18
        replace ho := ho19
        refine Sq.nil ?_
        refine Eq.goes (fun h => absurd h (by decide)) ?_
        refine Gq.done (by kernel_rfl) ?_
        refine Eq.end ?_
        refine Eq.next ?_
        refine Cq.region ?_
        refine Sq.move .plain rfl rfl ?_
        refine Sq.add .plain rfl rfl rfl (by omega) ?_
        refine Sq.move .plain rfl rfl ?_
        refine Sq.sub .plain rfl rfl rfl (by omega) ?_
        refine Sq.assign .plain rfl rfl ?_
        refine Sq.assign .plain rfl rfl ?_
        refine Sq.nil ?_
        have e1 := toNat_succ hi.1
        have e2 : (((xs.length : Int) - 1 - i) - 1) = (xs.length : Int) - 1 - (i + 1) := by omega
        have e3 := hr.step (by omega)
        have e4 : ((xs.length : Int) - 1 - i).toNat = xs.length - 1 - i.toNat := by omega
        rw [e2]
        refine Eq.round _ _ ⟨i + 1, _, rfl, by omega, Own.setU2 ho, by rw [e1, e4]; exact e3, hgo, rfl⟩ (by omega) (.cons rfl (.cons rfl (.cons rfl (.nil))))
      obtain ⟨p21, hp22⟩ := Bytes.at (Own.row ho) (i := i) (by omega) (by omega)
      refine Sq.val .plain rfl rfl (Still.at' sl22 hp22 rfl rfl) ?_
      refine Sq.nil ?_
      refine Eq.goes (fun _ => hgo) ?_
      refine Gq.two 7 11 rfl rfl (by kernel_rfl) ?_ ?_
      · refine Sq.val .plain rfl rfl (Still.loadA one5 rfl hp6.1) ?_
        refine Sq.nil ?_
        refine Eq.goes (fun _ => hgo) ?_
        refine Gq.one 11 rfl (by kernel_rfl) ?_
        refine Sq.val .plain rfl rfl (Still.loadA one5 rfl hp22.1) ?_
        refine Sq.nil ?_
        refine Eq.goes (fun _ => hgo) ?_
        obtain ⟨p23, hp24_w2⟩ := Bytes.at (Own.row ho_w2) (i := i) (by omega) (by omega)
        have hp24o := AtO.of ho_w2 hp24_w2
        refine Gq.st 12 rfl (by kernel_rfl) rfl .plain rfl (fun _ _ _ h => h) hgo (fun w' x => Still.at' sl22 hp24_w2 rfl rfl) ?_
        refine Gq.one 13 rfl (by kernel_rfl) ?_
        refine Sq.storeO one5 ho hp24o .plain rfl rfl rfl (fun w25 g26 ho27 => ?_)
        have hs28 := World.grownBy.size g26
        replace hgo := grown_trans hgo g26
        replace ho := ho27
        refine Sq.nil ?_
        refine Eq.goes (fun _ => hgo) ?_
        refine Gq.one 14 rfl (by kernel_rfl) ?_
        obtain ⟨p29, hp30o⟩ := Own.at ho (i := ((xs.length : Int) - 1 - i)) (by omega) (by first | (simp only [List.length_map]; omega) | (simp; omega))
        refine Sq.atO sl22 hp30o .plain rfl rfl rfl ?_
        refine Sq.nil ?_
        refine Eq.goes (fun h => absurd h (by decide)) ?_
        refine Gq.one 15 rfl (by kernel_rfl) ?_
        refine Sq.storeO one5 ho hp30o .plain rfl rfl rfl (fun w31 g32 ho33 => ?_)
        have hs34 := World.grownBy.size g32
        replace hgo := grown_trans hgo g32
        replace ho := ho33
        refine Sq.nil ?_
        refine Eq.goes (fun h => absurd h (by decide)) ?_
        refine Gq.done (by kernel_rfl) ?_
        refine Eq.end ?_
        refine Eq.next ?_
        refine Cq.region ?_
        refine Sq.move .plain rfl rfl ?_
        refine Sq.add .plain rfl rfl rfl (by omega) ?_
        refine Sq.move .plain rfl rfl ?_
        refine Sq.sub .plain rfl rfl rfl (by omega) ?_
        refine Sq.assign .plain rfl rfl ?_
        refine Sq.assign .plain rfl rfl ?_
        refine Sq.nil ?_
        have e1 := toNat_succ hi.1
        have e2 : (((xs.length : Int) - 1 - i) - 1) = (xs.length : Int) - 1 - (i + 1) := by omega
        have e3 := hr.step (by omega)
        have e4 : ((xs.length : Int) - 1 - i).toNat = xs.length - 1 - i.toNat := by omega
        rw [e2]
        refine Eq.round _ _ ⟨i + 1, _, rfl, by omega, Own.setU2 ho, by rw [e1, e4]; exact e3, hgo, rfl⟩ (by omega) (.cons rfl (.cons rfl (.cons rfl (.nil))))
      refine Sq.val .plain rfl rfl (Still.loadA one5 rfl hp22.1) ?_
      refine Sq.nil ?_
      refine Eq.goes (fun _ => hgo) ?_
      refine Gq.one 7 rfl (by kernel_rfl) ?_
      refine Sq.val .plain rfl rfl (Still.loadA one5 rfl hp6.1) ?_
      refine Sq.nil ?_
      refine Eq.goes (fun _ => hgo) ?_
      obtain ⟨p35, hp36_w2⟩ := Bytes.at (Own.row ho_w2) (i := i) (by omega) (by omega)
      have hp36o := AtO.of ho_w2 hp36_w2
      refine Gq.st 12 rfl (by kernel_rfl) rfl .plain rfl (fun _ _ _ h => h) hgo (fun w' x => Still.at' sl22 hp36_w2 rfl rfl) ?_
      refine Gq.one 13 rfl (by kernel_rfl) ?_
      refine Sq.storeO one5 ho hp36o .plain rfl rfl rfl (fun w37 g38 ho39 => ?_)
      have hs40 := World.grownBy.size g38
      replace hgo := grown_trans hgo g38
      replace ho := ho39
      refine Sq.nil ?_
      refine Eq.goes (fun _ => hgo) ?_
      refine Gq.one 14 rfl (by kernel_rfl) ?_
      obtain ⟨p41, hp42o⟩ := Own.at ho (i := ((xs.length : Int) - 1 - i)) (by omega) (by first | (simp only [List.length_map]; omega) | (simp; omega))
      refine Sq.atO sl22 hp42o .plain rfl rfl rfl ?_
      refine Sq.nil ?_
      refine Eq.goes (fun h => absurd h (by decide)) ?_
      refine Gq.one 15 rfl (by kernel_rfl) ?_
      refine Sq.storeO one5 ho hp42o .plain rfl rfl rfl (fun w43 g44 ho45 => ?_)
      have hs46 := World.grownBy.size g44
      replace hgo := grown_trans hgo g44
      replace ho := ho45
      refine Sq.nil ?_
      refine Eq.goes (fun h => absurd h (by decide)) ?_
      refine Gq.done (by kernel_rfl) ?_
      refine Eq.end ?_
      refine Eq.next ?_
      refine Cq.region ?_
      refine Sq.move .plain rfl rfl ?_
      refine Sq.add .plain rfl rfl rfl (by omega) ?_
      refine Sq.move .plain rfl rfl ?_
      refine Sq.sub .plain rfl rfl rfl (by omega) ?_
      refine Sq.assign .plain rfl rfl ?_
      refine Sq.assign .plain rfl rfl ?_
      refine Sq.nil ?_
      have e1 := toNat_succ hi.1
      have e2 : (((xs.length : Int) - 1 - i) - 1) = (xs.length : Int) - 1 - (i + 1) := by omega
      have e3 := hr.step (by omega)
      have e4 : ((xs.length : Int) - 1 - i).toNat = xs.length - 1 - i.toNat := by omega
      rw [e2]
      refine Eq.round _ _ ⟨i + 1, _, rfl, by omega, Own.setU2 ho, by rw [e1, e4]; exact e3, hgo, rfl⟩ (by omega) (.cons rfl (.cons rfl (.cons rfl (.nil))))
    obtain ⟨p47, hp48⟩ := Bytes.at (Own.row ho) (i := i) (by omega) (by omega)
    refine Sq.val .plain rfl rfl (Still.at' sl22 hp48 rfl rfl) ?_
    refine Sq.nil ?_
    refine Eq.goes (fun _ => hgo) ?_
    refine Gq.two 6 11 rfl rfl (by kernel_rfl) ?_ ?_
    · obtain ⟨p49, hp50⟩ := Bytes.at (Own.row ho) (i := ((xs.length : Int) - 1 - i)) (by omega) (by omega)
      refine Sq.val .plain rfl rfl (Still.at' sl22 hp50 rfl rfl) ?_
      refine Sq.nil ?_
      refine Eq.goes (fun _ => hgo) ?_
      refine Gq.two 7 11 rfl rfl (by kernel_rfl) ?_ ?_
      · refine Sq.val .plain rfl rfl (Still.loadA one5 rfl hp50.1) ?_
        refine Sq.nil ?_
        refine Eq.goes (fun _ => hgo) ?_
        refine Gq.one 11 rfl (by kernel_rfl) ?_
        refine Sq.val .plain rfl rfl (Still.loadA one5 rfl hp48.1) ?_
        refine Sq.nil ?_
        refine Eq.goes (fun _ => hgo) ?_
        obtain ⟨p51, hp52_w2⟩ := Bytes.at (Own.row ho_w2) (i := i) (by omega) (by omega)
        have hp52o := AtO.of ho_w2 hp52_w2
        refine Gq.st 12 rfl (by kernel_rfl) rfl .plain rfl (fun _ _ _ h => h) hgo (fun w' x => Still.at' sl22 hp52_w2 rfl rfl) ?_
        refine Gq.one 13 rfl (by kernel_rfl) ?_
        refine Sq.storeO one5 ho hp52o .plain rfl rfl rfl (fun w53 g54 ho55 => ?_)
        have hs56 := World.grownBy.size g54
        replace hgo := grown_trans hgo g54
        replace ho := ho55
        refine Sq.nil ?_
        refine Eq.goes (fun _ => hgo) ?_
        refine Gq.one 14 rfl (by kernel_rfl) ?_
        obtain ⟨p57, hp58o⟩ := Own.at ho (i := ((xs.length : Int) - 1 - i)) (by omega) (by first | (simp only [List.length_map]; omega) | (simp; omega))
        refine Sq.atO sl22 hp58o .plain rfl rfl rfl ?_
        refine Sq.nil ?_
        refine Eq.goes (fun h => absurd h (by decide)) ?_
        refine Gq.one 15 rfl (by kernel_rfl) ?_
        refine Sq.storeO one5 ho hp58o .plain rfl rfl rfl (fun w59 g60 ho61 => ?_)
        have hs62 := World.grownBy.size g60
        replace hgo := grown_trans hgo g60
        replace ho := ho61
        refine Sq.nil ?_
        refine Eq.goes (fun h => absurd h (by decide)) ?_
        refine Gq.done (by kernel_rfl) ?_
        refine Eq.end ?_
        refine Eq.next ?_
        refine Cq.region ?_
        refine Sq.move .plain rfl rfl ?_
        refine Sq.add .plain rfl rfl rfl (by omega) ?_
        refine Sq.move .plain rfl rfl ?_
        refine Sq.sub .plain rfl rfl rfl (by omega) ?_
        refine Sq.assign .plain rfl rfl ?_
        refine Sq.assign .plain rfl rfl ?_
        refine Sq.nil ?_
        have e1 := toNat_succ hi.1
        have e2 : (((xs.length : Int) - 1 - i) - 1) = (xs.length : Int) - 1 - (i + 1) := by omega
        have e3 := hr.step (by omega)
        have e4 : ((xs.length : Int) - 1 - i).toNat = xs.length - 1 - i.toNat := by omega
        rw [e2]
        refine Eq.round _ _ ⟨i + 1, _, rfl, by omega, Own.setU2 ho, by rw [e1, e4]; exact e3, hgo, rfl⟩ (by omega) (.cons rfl (.cons rfl (.cons rfl (.nil))))
      refine Sq.val .plain rfl rfl (Still.loadA one5 rfl hp48.1) ?_
      refine Sq.nil ?_
      refine Eq.goes (fun _ => hgo) ?_
      refine Gq.one 7 rfl (by kernel_rfl) ?_
      refine Sq.val .plain rfl rfl (Still.loadA one5 rfl hp50.1) ?_
      refine Sq.nil ?_
      refine Eq.goes (fun _ => hgo) ?_
      obtain ⟨p63, hp64_w2⟩ := Bytes.at (Own.row ho_w2) (i := i) (by omega) (by omega)
      have hp64o := AtO.of ho_w2 hp64_w2
      refine Gq.st 12 rfl (by kernel_rfl) rfl .plain rfl (fun _ _ _ h => h) hgo (fun w' x => Still.at' sl22 hp64_w2 rfl rfl) ?_
      refine Gq.one 13 rfl (by kernel_rfl) ?_
      refine Sq.storeO one5 ho hp64o .plain rfl rfl rfl (fun w65 g66 ho67 => ?_)
      have hs68 := World.grownBy.size g66
      replace hgo := grown_trans hgo g66
      replace ho := ho67
      refine Sq.nil ?_
      refine Eq.goes (fun _ => hgo) ?_
      refine Gq.one 14 rfl (by kernel_rfl) ?_
      obtain ⟨p69, hp70o⟩ := Own.at ho (i := ((xs.length : Int) - 1 - i)) (by omega) (by first | (simp only [List.length_map]; omega) | (simp; omega))
      refine Sq.atO sl22 hp70o .plain rfl rfl rfl ?_
      refine Sq.nil ?_
      refine Eq.goes (fun h => absurd h (by decide)) ?_
      refine Gq.one 15 rfl (by kernel_rfl) ?_
      refine Sq.storeO one5 ho hp70o .plain rfl rfl rfl (fun w71 g72 ho73 => ?_)
      have hs74 := World.grownBy.size g72
      replace hgo := grown_trans hgo g72
      replace ho := ho73
      refine Sq.nil ?_
      refine Eq.goes (fun h => absurd h (by decide)) ?_
      refine Gq.done (by kernel_rfl) ?_
      refine Eq.end ?_
      refine Eq.next ?_
      refine Cq.region ?_
      refine Sq.move .plain rfl rfl ?_
      refine Sq.add .plain rfl rfl rfl (by omega) ?_
      refine Sq.move .plain rfl rfl ?_
      refine Sq.sub .plain rfl rfl rfl (by omega) ?_
      refine Sq.assign .plain rfl rfl ?_
      refine Sq.assign .plain rfl rfl ?_
      refine Sq.nil ?_
      have e1 := toNat_succ hi.1
      have e2 : (((xs.length : Int) - 1 - i) - 1) = (xs.length : Int) - 1 - (i + 1) := by omega
      have e3 := hr.step (by omega)
      have e4 : ((xs.length : Int) - 1 - i).toNat = xs.length - 1 - i.toNat := by omega
      rw [e2]
      refine Eq.round _ _ ⟨i + 1, _, rfl, by omega, Own.setU2 ho, by rw [e1, e4]; exact e3, hgo, rfl⟩ (by omega) (.cons rfl (.cons rfl (.cons rfl (.nil))))
    refine Sq.val .plain rfl rfl (Still.loadA one5 rfl hp48.1) ?_
    refine Sq.nil ?_
    refine Eq.goes (fun _ => hgo) ?_
    refine Gq.one 6 rfl (by kernel_rfl) ?_
    obtain ⟨p75, hp76⟩ := Bytes.at (Own.row ho) (i := ((xs.length : Int) - 1 - i)) (by omega) (by omega)
    refine Sq.val .plain rfl rfl (Still.at' sl22 hp76 rfl rfl) ?_
    refine Sq.nil ?_
    refine Eq.goes (fun _ => hgo) ?_
    refine Gq.one 7 rfl (by kernel_rfl) ?_
    refine Sq.val .plain rfl rfl (Still.loadA one5 rfl hp76.1) ?_
    refine Sq.nil ?_
    refine Eq.goes (fun _ => hgo) ?_
    obtain ⟨p77, hp78_w2⟩ := Bytes.at (Own.row ho_w2) (i := i) (by omega) (by omega)
    have hp78o := AtO.of ho_w2 hp78_w2
    refine Gq.st 12 rfl (by kernel_rfl) rfl .plain rfl (fun _ _ _ h => h) hgo (fun w' x => Still.at' sl22 hp78_w2 rfl rfl) ?_
    refine Gq.one 13 rfl (by kernel_rfl) ?_
    refine Sq.storeO one5 ho hp78o .plain rfl rfl rfl (fun w79 g80 ho81 => ?_)
    have hs82 := World.grownBy.size g80
    replace hgo := grown_trans hgo g80
    replace ho := ho81
    refine Sq.nil ?_
    refine Eq.goes (fun _ => hgo) ?_
    refine Gq.one 14 rfl (by kernel_rfl) ?_
    obtain ⟨p83, hp84o⟩ := Own.at ho (i := ((xs.length : Int) - 1 - i)) (by omega) (by first | (simp only [List.length_map]; omega) | (simp; omega))
    refine Sq.atO sl22 hp84o .plain rfl rfl rfl ?_
    refine Sq.nil ?_
    refine Eq.goes (fun h => absurd h (by decide)) ?_
    refine Gq.one 15 rfl (by kernel_rfl) ?_
    refine Sq.storeO one5 ho hp84o .plain rfl rfl rfl (fun w85 g86 ho87 => ?_)
    have hs88 := World.grownBy.size g86
    replace hgo := grown_trans hgo g86
    replace ho := ho87
    refine Sq.nil ?_
    refine Eq.goes (fun h => absurd h (by decide)) ?_
    refine Gq.done (by kernel_rfl) ?_
    refine Eq.end ?_
    refine Eq.next ?_
    refine Cq.region ?_
    refine Sq.move .plain rfl rfl ?_
    refine Sq.add .plain rfl rfl rfl (by omega) ?_
    refine Sq.move .plain rfl rfl ?_
    refine Sq.sub .plain rfl rfl rfl (by omega) ?_
    refine Sq.assign .plain rfl rfl ?_
    refine Sq.assign .plain rfl rfl ?_
    refine Sq.nil ?_
    have e1 := toNat_succ hi.1
    have e2 : (((xs.length : Int) - 1 - i) - 1) = (xs.length : Int) - 1 - (i + 1) := by omega
    have e3 := hr.step (by omega)
    have e4 : ((xs.length : Int) - 1 - i).toNat = xs.length - 1 - i.toNat := by omega
    rw [e2]
    refine Eq.round _ _ ⟨i + 1, _, rfl, by omega, Own.setU2 ho, by rw [e1, e4]; exact e3, hgo, rfl⟩ (by omega) (.cons rfl (.cons rfl (.cons rfl (.nil))))
  refine Sq.nil ?_
  refine Eq.next ?_
  refine Cq.els rfl ?_
  refine Cq.exit ?_
  refine Eq.past ?_
  refine Eq.past ?_
  refine Eq.hit ?_
  refine Eq.fall0 rfl ?_
  exact ⟨rfl, by rw [← hr.done (by omega)]; exact ho, hgo⟩
end Go.Proofs.Ytdejmfkpohgamaa
set_option linter.unusedSimpArgs false
set_option linter.unusedVariables false
namespace Go.Proofs.Ytdejmfkpohgamaa
open Go.RowKit
set_option maxRecDepth 100000 in
theorem pathWord_c (w0 : World) (B : Nat) (tv : Value) (rs : List (Int × Int × Value)) (f : Int → Int → Int) (s : Int) (ws : List (List Int)) (hW : Wid w0 B 118 3 tv (rows3 rs)) (hSt : Trail w0 3 f s ws rs) (wd : List Int) (hwd : ws[ws.length - 1]? = some wd) (hwl : wd.length ≤ 1000) (hsl : ws.length ≤ 1000) : Ret Try.prog 117 #[tv] w0 (fun v w => v = .string (txt wd) ∧ Ext w0 w) := by
  have E := Ext.refl w0
  have hwn := (List.getElem?_eq_some_iff.1 hwd).1
  have hrl := hSt.len
  refine Ret.of (args := [tv]) Try.func117 rfl rfl rfl ?_
  rintro _ rfl
  show Cq _ _ _ _ [(0, tv)] _
  refine Cq.seq ?_
  refine Cq.region ?_
  refine Sq.assign .plain rfl rfl ?_
  refine Sq.nil ?_
  refine Eq.next ?_
  refine Cq.seq ?_
  refine Cq.region ?_
  refine Sq.assign .plain rfl rfl ?_
  refine Sq.nil ?_
  refine Eq.next ?_
  refine Cq.seq ?_
  refine Cq.seq ?_
  refine Cq.region ?_
  refine Sq.move .plain rfl rfl ?_
  refine Sq.lenWid hW .plain rfl und116 rfl ?_
  rw [rows3_length]
  refine Sq.sub .plain rfl rfl rfl (by omega) ?_
  refine Sq.assign .plain rfl rfl ?_
  refine Sq.nil ?_
  refine Eq.next ?_
  refine Cq.block ?_
  refine Cq.loop (fun nn w ls => ∃ (j : Int), ∃ (u : List Int), ∃ (t : List Int), ∃ (ov : Value), ls = [(0, tv), (3, ov), (4, Value.int .i64 j)] ∧ (0 ≤ j) ∧ ws[j.toNat]? = some u ∧ wd = u ++ t ∧ Own w w0.heap.size 5 ov ((txb t.reverse).map fun b => Value.int .u8 (b.toNat : Int)) ∧ Ext w0 w ∧ Wid w B 118 3 tv (rows3 rs) ∧ nn = u.length) _ _ ⟨(List.length rs : Int) - 1, wd, [], _, rfl, by omega, by rw [show ((List.length rs : Int) - 1).toNat = ws.length - 1 by omega]; exact hwd, by simp, Own.nil _ _ _, E, hW, rfl⟩ (.cons rfl (.cons rfl (.cons rfl (.nil)))) ?_
  rintro nn wl1 ls ⟨j, u, t, ov, rfl, hj, hu, hut, ho, E, hW, rfl⟩
  have hs1 := Below.size E
  obtain ⟨p, l, fv, hr, hlk, hfv⟩ := hSt.row _ _ hu
  have hlt := (List.getElem?_eq_some_iff.1 hr).1
  have htl : t.length ≤ 1000 := by rw [hut, List.length_append] at hwl; omega
  have htx : (txb t.reverse).length = t.length := by simp [txb]
  refine Cq.seq ?_
  refine Cq.seq ?_
  refine Cq.region ?_
  refine Sq.move .plain rfl rfl ?_
  refine Sq.move .plain rfl rfl ?_
  obtain ⟨gq2, kq2, hvq2, hlq2, haq2, hbq2, hcq2⟩ := Wid.triple hW (i := j) (by omega) hr
  refine Sq.val .plain rfl rfl (Still.ixV slw116 hvq2 rfl rfl (by omega)) ?_
  refine Sq.fieldAddr fld118_0 .plain rfl rfl ?_
  refine Sq.val .plain rfl rfl (Still.load one3 rfl haq2) ?_
  refine Sq.geq .plain rfl rfl rfl ?_
  refine Sq.part (fun hp => ?_) (fun hp => ?_)
  · refine Sq.nil ?_
    refine Eq.next ?_
    refine Cq.thn rfl ?_
    refine Cq.skip ?_
    refine Eq.next ?_
    refine Cq.seq ?_
    refine Cq.block ?_
    refine Cq.region ?_
    obtain ⟨u2, hu2, hp0, hu3⟩ : ∃ u2, u = u2 ++ [l] ∧ 0 ≤ p ∧ ws[p.toNat]? = some u2 := hlk.resolve_left (fun h => by have := h.2; omega)
    have hll := hSt.lets u (List.mem_of_getElem? hu) l (by rw [hu2]; simp)
    refine Sq.move .plain rfl rfl ?_
    refine Sq.move .plain rfl rfl ?_
    refine Sq.move .plain rfl rfl ?_
    obtain ⟨gq3, kq3, hvq3, hlq3, haq3, hbq3, hcq3⟩ := Wid.triple hW (i := j) (by omega) hr
    refine Sq.val .plain rfl rfl (Still.ixV slw116 hvq3 rfl rfl (by omega)) ?_
    refine Sq.fieldAddr fld118_1 .plain rfl rfl ?_
    refine Sq.val .plain rfl rfl (Still.load one3 rfl hbq3) ?_
    refine Sq.call fn131 .plain rfl rfl (letterByte_c l (by omega) _) ?_
    rintro _ _ ⟨rfl, rfl⟩
    refine Sq.app1 sl22 ho (by omega) (by first | omega | (rw [List.length_map]; omega)) .plain rfl rfl rfl rfl rfl rfl rfl (fun v4 w5 ho7 g6 _ => ?_)
    have hs8 := g6.size
    replace E := E.owned ho g6 (by omega)
    replace hW := hW.owned ho g6 (by decide)
    refine Sq.assign .plain rfl rfl ?_
    refine Sq.nil ?_
    refine Eq.end ?_
    refine Eq.next ?_
    refine Cq.region ?_
    refine Sq.move .plain rfl rfl ?_
    refine Sq.move .plain rfl rfl ?_
    obtain ⟨gq9, kq9, hvq9, hlq9, haq9, hbq9, hcq9⟩ := Wid.triple hW (i := j) (by omega) hr
    refine Sq.val .plain rfl rfl (Still.ixV slw116 hvq9 rfl rfl (by omega)) ?_
    refine Sq.fieldAddr fld118_0 .plain rfl rfl ?_
    refine Sq.val .plain rfl rfl (Still.load one3 rfl haq9) ?_
    refine Sq.assign .plain rfl rfl ?_
    refine Sq.nil ?_
    refine Eq.round _ _ ⟨p, u2, l :: t, _, rfl, hp0, hu3, by rw [hut, hu2]; simp, Own.snocT ho7 hll, E, hW, rfl⟩ (by rw [hu2, List.length_append]; simp) (.cons rfl (.cons rfl (.cons rfl (.nil))))
  refine Sq.nil ?_
  refine Eq.next ?_
  refine Cq.els rfl ?_
  refine Cq.exit ?_
  refine Eq.past ?_
  refine Eq.past ?_
  refine Eq.hit ?_
  refine Eq.next ?_
  refine Cq.seq ?_
  refine Cq.region ?_
  refine Sq.move .plain rfl rfl ?_
  refine Sq.call fn132 .plain rfl rfl (reverse_c _ _ _ _ ho (by omega)) ?_
  rintro _ w10 ⟨rfl, ho12, g11⟩
  have hs13 := World.grownBy.size g11
  replace E := E.owned ho g11 (by omega)
  replace ho := ho12
  refine Sq.nil ?_
  refine Eq.next ?_
  refine Cq.seq ?_
  refine Cq.region ?_
  refine Sq.move .plain rfl rfl ?_
  refine Sq.val .plain rfl rfl (Still.text und22 und8_22 und9 (Own.row ho) rfl) ?_
  refine Sq.assign .plain rfl rfl ?_
  refine Sq.nil ?_
  refine Eq.next ?_
  refine Cq.ret ?_
  refine Eq.ret1 rfl rfl ?_
  rcases hlk with ⟨rfl, _⟩ | ⟨_, _, h0, _⟩
  · exact ⟨by rw [txb_rev, hut]; rfl, E⟩
  exact absurd h0 (by omega)
end Go.Proofs.Ytdejmfkpohgamaa
set_option linter.unusedSimpArgs false
set_option linter.unusedVariables false
namespace Go.Proofs.Ytdejmfkpohgamaa
open Go.RowKit
set_option maxRecDepth 100000 in
theorem visit_c (w0 wb : World) (B bs bt bg n : Nat) (gv nv : Value) (f : Int → Int → Int) (s : Int) (ws : List (List Int)) (D : Int → Prop) (G : Int → Bool) (hclo : GClo Try.prog wb gv D G) (hM : SMem wb w0 3 4 24 118 116 73 B bs bt bg gv n f s ws) (p l q : Int) (v0 : List Int) (hq : q = nodeOf f s v0) (hx : Ints w0 3 nv [q]) (hl : Link ws p l v0) (hv0 : ∀ x ∈ v0, 0 ≤ x ∧ x < 6) (hD : D q) (hqn : 0 ≤ q ∧ q < n) (hwl : ws.length ≤ 1000) : Ret Try.prog 116 #[Value.int .i64 p, Value.int .i64 l, nv, Value.pointer (some ⟨bs, 0, none⟩), Value.pointer (some ⟨bg, 0, none⟩), Value.pointer (some ⟨bt, 0, none⟩)] w0 (fun v w => v = .bool (!decide (q ∈ (ws.map (nodeOf f s))) && G q) ∧ SMem wb w 3 4 24 118 116 73 B bs bt bg gv n f s (wadd f s ws v0)) := by
  obtain ⟨sv, tv, rs, hSb, hSeen, hTb, hW, hSt, hGb, E, hB0, hB1, hB2, hB3⟩ := hM
  obtain ⟨kg, fg, cg, hgv, hFg, hgoal⟩ := hclo
  have hrl := hSt.len
  have hwb := Below.size E
  have hne1 := hSb.ne hTb (by decide)
  have hne2 := hGb.ne hTb (by decide)
  have hne3 := hGb.ne hSb (by decide)
  refine Ret.of (args := [Value.int .i64 p, Value.int .i64 l, nv, Value.pointer (some ⟨bs, 0, none⟩), Value.pointer (some ⟨bg, 0, none⟩), Value.pointer (some ⟨bt, 0, none⟩)]) Try.func116 rfl rfl rfl ?_
  rintro _ rfl
  show Cq _ _ _ _ [(0, Value.int .i64 p), (1, Value.int .i64 l), (2, nv), (3, Value.pointer (some ⟨bs, 0, none⟩)), (4, Value.pointer (some ⟨bg, 0, none⟩)), (5, Value.pointer (some ⟨bt, 0, none⟩))] _
  refine Cq.seq ?_
  refine Cq.region ?_
  refine Sq.assign .plain rfl rfl ?_
  refine Sq.nil ?_
  refine Eq.next ?_
  refine Cq.seq ?_
  refine Cq.region ?_
  refine Sq.assign .plain rfl rfl ?_
  refine Sq.nil ?_
  refine Eq.next ?_
  refine Cq.seq ?_
  refine Cq.region ?_
  refine Sq.assign .plain rfl rfl ?_
  refine Sq.nil ?_
  refine Eq.next ?_
  refine Cq.seq ?_
  refine Cq.seq ?_
  refine Cq.region ?_
  refine Sq.move .plain rfl rfl ?_
  refine Sq.lenInts hx .plain rfl und56 rfl ?_
  refine Sq.move .plain rfl rfl ?_
  refine Sq.nil ?_
  refine Eq.next ?_
  refine Cq.block ?_
  refine Cq.loop (fun nn w ls => ∃ (k : Int), ∃ (ov : Value), ∃ (xs : List Int), ∃ (ms : List Int), ∃ (bv : Bool), ls = [(0, Value.int .i64 p), (1, Value.int .i64 l), (3, Value.pointer (some ⟨bs, 0, none⟩)), (4, Value.pointer (some ⟨bg, 0, none⟩)), (5, Value.pointer (some ⟨bt, 0, none⟩)), (10, ov), (11, Value.bool bv), (14, nv), (15, Value.int .i64 ((List.length ([q] : List Int) : Int))), (16, Value.int .i64 k)] ∧ (0 ≤ k ∧ k ≤ 1) ∧ (w0.heap.size ≤ w.heap.size) ∧ Own w B 4 sv ((seenOf n ms).map Value.bool) ∧ ms = (if k = 0 then (ws.map (nodeOf f s)) else addNode (ws.map (nodeOf f s)) q) ∧ (k = 0 → ov = .slice none 0 0) ∧ Own w w0.heap.size 3 ov (xs.map (Value.int .i64)) ∧ xs = (if k = 0 ∨ q ∈ (ws.map (nodeOf f s)) then [] else [q]) ∧ bv = (decide (k = 1) && (!decide (q ∈ (ws.map (nodeOf f s))) && G q)) ∧ Ext wb w ∧ Blk w bs 24 [sv] ∧ Blk w bg 73 [gv] ∧ Blk w bt 116 [tv] ∧ Wid w B 118 3 tv (rows3 rs) ∧ Ints w 3 nv [q] ∧ Trail w 3 f s ws rs ∧ nn = (1 - k).toNat) _ _ ⟨0, _, [], _, _, rfl, by omega, Nat.le_refl _, hSeen, rfl, fun _ => rfl, Own.nil _ _ _, rfl, rfl, E, hSb, hGb, hTb, hW, hx, hSt, rfl⟩ (.cons rfl (.cons rfl (.cons rfl (.cons rfl (.cons rfl (.cons rfl (.cons rfl (.cons rfl (.cons rfl (.cons rfl (.nil))))))))))) ?_
  rintro nn wl1 ls ⟨k, ov, xs, ms, bv, rfl, hk, hsz, hSeen, hms, hov, ho, hxs, hbv, E, hSb, hGb, hTb, hW, hx, hSt, rfl⟩
  have hs1 := Below.size E
  have hsl := seenOf_length n ms
  have hl1 : (List.length ([q] : List Int) : Int) = 1 := rfl
  refine Cq.seq ?_
  refine Cq.region ?_
  refine Sq.lss .plain rfl rfl rfl ?_
  refine Sq.part (fun c2 => ?_) (fun c2 => ?_)
  · refine Sq.nil ?_
    refine Eq.next ?_
    refine Cq.seq ?_
    refine Cq.thn rfl ?_
    refine Cq.skip ?_
    refine Eq.next ?_
    refine Cq.seq ?_
    refine Cq.block ?_
    refine Cq.seq ?_
    refine Cq.region ?_
    have hk0 : k = 0 := by omega
    obtain rfl := hov hk0
    have hms0 : ms = (ws.map (nodeOf f s)) := by rw [hms, if_pos hk0]
    have hk1 : ([q] : List Int).getD k.toNat 0 = q := by rw [hk0]; rfl
    refine Sq.idxInts sl56 one3 hx .plain rfl rfl rfl .plain rfl rfl (by omega) (by simp only [List.length_singleton]; omega) ?_
    rw [hk1]
    refine Sq.assign .plain rfl rfl ?_
    refine Sq.nil ?_
    refine Eq.next ?_
    refine Cq.seq ?_
    refine Cq.region ?_
    refine Sq.loadB one24 .plain rfl rfl hSb rfl ?_
    refine Sq.move .plain rfl rfl ?_
    refine Sq.idxBools sl24 one4 (Own.row hSeen) .plain rfl rfl rfl .plain rfl rfl (by omega) (by omega) ?_
    refine Sq.partB (fun hse => ?_) (fun hse => ?_)
    · refine Sq.notT .plain rfl rfl ?_
      refine Sq.nil ?_
      refine Eq.next ?_
      refine Cq.els rfl ?_
      refine Cq.skip ?_
      refine Eq.end ?_
      refine Eq.next ?_
      refine Cq.region ?_
      refine Sq.add .plain rfl rfl rfl (by omega) ?_
      refine Sq.move .plain rfl rfl ?_
      refine Sq.nil ?_
      have hnin : q ∈ (ws.map (nodeOf f s)) := by rw [seenOf_at hqn, hms0] at hse; simpa using hse
      refine Eq.round _ _ ⟨k + 1, _, [], _, _, rfl, by omega, by omega, hSeen, by rw [if_neg (by omega), addNode_T hnin, hms0], fun h => absurd h (by omega), Own.nil _ _ _, by rw [if_pos (.inr hnin)], by rw [hbv]; simp [hk0, hnin], E, hSb, hGb, hTb, hW, hx, hSt, rfl⟩ (by omega) (.cons rfl (.cons rfl (.cons rfl (.cons rfl (.cons rfl (.cons rfl (.cons rfl (.cons rfl (.cons rfl (.cons rfl (.nil)))))))))))
    refine Sq.notF .plain rfl rfl ?_
    refine Sq.nil ?_
    refine Eq.next ?_
    refine Cq.thn rfl ?_
    refine Cq.seq ?_
    refine Cq.region ?_
    refine Sq.loadB one24 .plain rfl rfl hSb rfl ?_
    refine Sq.move .plain rfl rfl ?_
    obtain ⟨p3, hp4o⟩ := Own.at hSeen (i := q) (by omega) (by first | (simp only [List.length_map]; omega) | (simp; omega))
    refine Sq.atO sl24 hp4o .plain rfl rfl rfl ?_
    refine Sq.storeO one4 hSeen hp4o .plain rfl rfl rfl (fun w5 g6 ho7 => ?_)
    have hs8 := World.grownBy.size g6
    replace E := E.owned hSeen g6 (by omega)
    replace hSb := hSb.owned hSeen g6 (by decide)
    replace hGb := hGb.owned hSeen g6 (by decide)
    replace hTb := hTb.owned hSeen g6 (by decide)
    replace hW := hW.owned hSeen g6 (by decide)
    replace hx := hx.owned hSeen g6 (by decide)
    replace hSt := hSt.owned hSeen g6 (by decide)
    replace hSeen := ho7
    refine Sq.nil ?_
    refine Eq.next ?_
    refine Cq.seq ?_
    refine Cq.region ?_
    refine Sq.move .plain rfl rfl ?_
    refine Sq.move .plain rfl rfl ?_
    refine Sq.lit sl56 rfl rfl .plain rfl rfl (one_cons rfl one_nil) (fun b9 w10 e11 hlo12 ho13 hk14 => ?_)
    have hs15 := Below.size e11
    replace E := E.trans e11
    replace hSb := hSb.ext e11
    replace hGb := hGb.ext e11
    replace hTb := hTb.ext e11
    replace hW := hW.ext e11
    replace hx := hx.ext e11
    replace hSt := hSt.ext e11
    replace hSeen := hSeen.ext e11
    refine Sq.app1F sl56 (Own.nil _ w0.heap.size 3) (by simp) (by omega) (by simp) hk14 rfl .plain rfl rfl rfl (fun v16 w17 ho19 g18 _ _ => ?_)
    have e20 := Ext.of_grown g18
    have hs21 := Below.size e20
    replace E := E.trans e20
    replace hSb := hSb.ext e20
    replace hGb := hGb.ext e20
    replace hTb := hTb.ext e20
    replace hW := hW.ext e20
    replace hx := hx.ext e20
    replace hSt := hSt.ext e20
    replace hSeen := hSeen.ext e20
    refine Sq.assign .plain rfl rfl ?_
    refine Sq.nil ?_
    refine Eq.next ?_
    refine Cq.region ?_
    refine Sq.move .plain rfl rfl ?_
    refine Sq.beF (by rw [hbv, hk0]; rfl) ?_
    refine Sq.move .plain rfl rfl ?_
    refine Sq.loadB one73 (.met rfl rfl rfl) rfl rfl hGb rfl ?_
    refine Sq.move (.met rfl rfl rfl) rfl rfl ?_
    refine Sq.callC hFg (.met rfl rfl rfl) rfl (by rw [← hgv]; rfl) rfl (hgoal _ q E hD) ?_
    rintro _ w22 ⟨rfl, e23⟩
    have hs24 := Below.size e23
    replace E := E.trans e23
    replace hSb := hSb.ext e23
    replace hGb := hGb.ext e23
    replace hTb := hTb.ext e23
    replace hW := hW.ext e23
    replace hx := hx.ext e23
    replace hSt := hSt.ext e23
    replace hSeen := hSeen.ext e23
    replace ho19 := ho19.ext e23
    refine Sq.pickF .plain rfl rfl rfl ?_
    refine Sq.assign .plain rfl rfl ?_
    refine Sq.partB (fun hgq => ?_) (fun hgq => ?_)
    · refine Sq.nil ?_
      refine Eq.end ?_
      refine Eq.next ?_
      refine Cq.region ?_
      refine Sq.add .plain rfl rfl rfl (by omega) ?_
      refine Sq.move .plain rfl rfl ?_
      refine Sq.nil ?_
      have hnin : q ∉ (ws.map (nodeOf f s)) := by rw [seenOf_at hqn, hms0] at hse; simpa using hse
      refine Eq.round _ _ ⟨k + 1, _, [q], _, _, rfl, by omega, by omega, by rw [← seenOf_set hqn.1, List.map_set]; exact hSeen, by rw [if_neg (by omega), addNode_F hnin, hms0], fun h => absurd h (by omega), by simpa using ho19, by rw [if_neg (by rintro (h | h); omega; exact hnin h)], by simp [hk0, hnin, hgq], E, hSb, hGb, hTb, hW, hx, hSt, rfl⟩ (by omega) (.cons rfl (.cons rfl (.cons rfl (.cons rfl (.cons rfl (.cons rfl (.cons rfl (.cons rfl (.cons rfl (.cons rfl (.nil)))))))))))
    refine Sq.nil ?_
    refine Eq.end ?_
    refine Eq.next ?_
    refine Cq.region ?_
    refine Sq.add .plain rfl rfl rfl (by omega) ?_
    refine Sq.move .plain rfl rfl ?_
    refine Sq.nil ?_
    have hnin : q ∉ (ws.map (nodeOf f s)) := by rw [seenOf_at hqn, hms0] at hse; simpa using hse
    refine Eq.round _ _ ⟨k + 1, _, [q], _, _, rfl, by omega, by omega, by rw [← seenOf_set hqn.1, List.map_set]; exact hSeen, by rw [if_neg (by omega), addNode_F hnin, hms0], fun h => absurd h (by omega), by simpa using ho19, by rw [if_neg (by rintro (h | h); omega; exact hnin h)], by simp [hk0, hnin, hgq], E, hSb, hGb, hTb, hW, hx, hSt, rfl⟩ (by omega) (.cons rfl (.cons rfl (.cons rfl (.cons rfl (.cons rfl (.cons rfl (.cons rfl (.cons rfl (.cons rfl (.cons rfl (.nil)))))))))))
  refine Sq.nil ?_
  refine Eq.next ?_
  refine Cq.seq ?_
  refine Cq.els rfl ?_
  refine Cq.exit ?_
  refine Eq.past ?_
  refine Eq.past ?_
  refine Eq.hit ?_
  refine Eq.next ?_
  refine Cq.seq ?_
  refine Cq.seq ?_
  refine Cq.region ?_
  have hkk : k = 1 := by omega
  refine Sq.move .plain rfl rfl ?_
  refine Sq.lenInts (Own.row ho) .plain rfl und56 rfl ?_
  refine Sq.gtr .plain rfl rfl rfl ?_
  refine Sq.part (fun hfr => ?_) (fun hfr => ?_)
  · refine Sq.nil ?_
    refine Eq.next ?_
    refine Cq.thn rfl ?_
    refine Cq.region ?_
    have hnin : q ∉ (ws.map (nodeOf f s)) := fun h => by rw [hxs, if_pos (.inr h)] at hfr; exact absurd hfr (by decide)
    have hx1 : (xs.map (Value.int .i64)) = [q].map (Value.int .i64) := by rw [hxs, if_neg (by rintro (h | h); omega; exact hnin h)]
    refine Sq.loadB one116 .plain rfl rfl hTb rfl ?_
    refine Sq.move .plain rfl rfl ?_
    refine Sq.move .plain rfl rfl ?_
    refine Sq.move .plain rfl rfl ?_
    refine Sq.build st118 rfl rfl .plain rfl rfl (one_cons rfl (one_cons rfl (one_cons (Row.one (Own.row ho)) one_nil))) rfl ?_
    refine Sq.litW slw116 rfl rfl (by decide) .plain rfl (rows := [[Value.int .i64 p, Value.int .i64 l, ov]]) rfl (fun r hr => by rw [List.mem_singleton.1 hr]; exact ⟨rfl, one_cons rfl (one_cons rfl (one_cons (Row.one (Own.row ho)) one_nil))⟩) (fun b25 w26 e27 hlo28 hw29 hk30 => ?_)
    have hs35 := Below.size e27
    replace E := E.trans e27
    replace hSb := hSb.ext e27
    replace hGb := hGb.ext e27
    replace hTb := hTb.ext e27
    replace hW := hW.ext e27
    replace hSt := hSt.ext e27
    replace hSeen := hSeen.ext e27
    replace ho := ho.ext e27
    refine Sq.appS slw116 hW (by omega) (by rw [rows3_length]; omega) (r := [Value.int .i64 p, Value.int .i64 l, ov]) hk30 ⟨rfl, one_cons rfl (one_cons rfl (one_cons (Row.one (Own.row ho)) one_nil))⟩ .plain rfl rfl rfl (fun v31 w32 hW34 g33 _ _ => ?_)
    have hs36 := World.grownBy.size g33
    replace E := E.wid hW g33 (by omega)
    replace hSb := hSb.wid hW g33 (by decide)
    replace hGb := hGb.wid hW g33 (by decide)
    replace hTb := hTb.wid hW g33 (by decide)
    replace hSt := hSt.wid hW g33 (by decide)
    replace hSeen := hSeen.wid hW g33 (by decide)
    replace ho := ho.wid hW g33 (by decide)
    replace hW : Wid w32 B 118 3 v31 (rows3 (rs ++ [(p, l, ov)])) := by rw [rows3_snoc]; exact hW34
    refine Sq.store one116 .plain rfl rfl (Wid.one hW) hTb (by simp) (fun w37 g38 hB39 => ?_)
    have hs40 := World.grownBy.size g38
    replace E := E.grown g38 (fun k hk => by injection hk with hk; subst hk; omega)
    replace hSb := hSb.grown g38 (by intro h; injection h with h; omega)
    replace hGb := hGb.grown g38 (by intro h; injection h with h; omega)
    replace hW := hW.stored g38 hTb (by decide)
    replace hSt := hSt.stored g38 hTb (by decide)
    replace hSeen := hSeen.stored g38 hTb (by decide)
    replace ho := ho.stored g38 hTb (by decide)
    replace hTb := hB39
    refine Sq.nil ?_
    refine Eq.next ?_
    refine Cq.seq ?_
    refine Cq.region ?_
    refine Sq.move .plain rfl rfl ?_
    refine Sq.assign .plain rfl rfl ?_
    refine Sq.nil ?_
    refine Eq.next ?_
    refine Cq.ret ?_
    refine Eq.ret1 rfl rfl ?_
    have hq2 := hq
    have hn2 : nodeOf f s v0 ∉ (ws.map (nodeOf f s)) := by rw [← hq]; exact hnin
    refine ⟨by rw [hbv]; simp [hkk, hnin], ?_⟩
    rw [wadd_F hn2]
    rw [hms, if_neg (by omega), addNode_F hnin] at hSeen
    exact ⟨sv, _, _, hSb, by rw [List.map_append, List.map_cons, List.map_nil, ← hq]; exact hSeen, hTb, hW, hSt.snoc hl (by rw [← hq]; show Row _ _ _ ([q].map (Value.int .i64)); rw [← hx1]; exact Own.row ho) hv0, hGb, E, by omega, by omega, by omega, by omega⟩
  refine Sq.nil ?_
  refine Eq.next ?_
  refine Cq.els rfl ?_
  refine Cq.skip ?_
  refine Eq.next ?_
  refine Cq.seq ?_
  refine Cq.region ?_
  have hnin : q ∈ (ws.map (nodeOf f s)) := Classical.byContradiction fun h => hfr (by rw [hxs, if_neg (by rintro (h' | h'); omega; exact h h')]; show (0 : Int) < 1; decide)
  refine Sq.move .plain rfl rfl ?_
  refine Sq.assign .plain rfl rfl ?_
  refine Sq.nil ?_
  refine Eq.next ?_
  refine Cq.ret ?_
  refine Eq.ret1 rfl rfl ?_
  have hn2 : nodeOf f s v0 ∈ (ws.map (nodeOf f s)) := by rw [← hq]; exact hnin
  refine ⟨by rw [hbv]; simp [hkk, hnin], ?_⟩
  rw [wadd_T hn2]
  rw [hms, if_neg (by omega), addNode_T hnin] at hSeen
  exact ⟨sv, _, _, hSb, hSeen, hTb, hW, hSt, hGb, E, by omega, by omega, by omega, by omega⟩
end Go.Proofs.Ytdejmfkpohgamaa
set_option linter.unusedSimpArgs false
set_option linter.unusedVariables false
namespace Go.Proofs.Ytdejmfkpohgamaa
open Go.RowKit
set_option maxRecDepth 100000 in
theorem firstPath_c (w0 : World) (nI : Int) (n : Nat) (s : Int) (L : List Int) (sv0 lv fv gv : Value) (f : Int → Int → Int) (G : Int → Bool) (D : Int → Prop) (hnI : nI = n) (hs0 : Ints w0 3 sv0 [s]) (hx : Ints w0 3 lv L) (hLl : L.length ≤ 100) (hL : ∀ x ∈ L, 0 ≤ x ∧ x < 6) (hD0 : D s) (hD : ∀ q, D q → ∀ x ∈ L, D (f q x)) (hDn : ∀ q, D q → 0 ≤ q ∧ q < n) (hn : n ≤ 150) (hclo : NClo Try.prog w0 3 fv D f) (hgo : GClo Try.prog w0 gv D G) : Ret Try.prog 95 #[Value.int .i64 nI, sv0, lv, fv, gv] w0 (fun v w => v = .tuple #[.string (txt ((firstOf f s L G).getD [])), .bool (firstOf f s L G).isSome] ∧ Ext w0 w) := by
  have E := Ext.refl w0
  have hgo2 := hgo
  obtain ⟨kg, fg, cg, hgv0, hFg0, hgoal0⟩ := hgo2
  obtain ⟨kf, fnf, cf, hfv0, hFn, hcall⟩ := hclo
  have hbw := bfsw_range (f := f) (s := s) (L := L) hD0 hD hDn
  refine Ret.of (args := [Value.int .i64 nI, sv0, lv, fv, gv]) Try.func95 rfl rfl rfl ?_
  rintro _ rfl
  show Cq _ _ _ _ [(0, Value.int .i64 nI), (1, sv0), (2, lv), (3, fv), (4, gv)] _
  refine Cq.seq ?_
  refine Cq.region ?_
  refine Sq.box1 .plain rfl rfl (by rw [hgv0]; rfl) (fun b1 w2 e3 hB4 hlo5 => ?_)
  have hd6 := Nat.le_trans (Below.size E) hlo5
  have hs7 := Below.size e3
  replace E := E.trans e3
  refine Sq.assign .plain rfl rfl ?_
  refine Sq.assign .plain rfl rfl ?_
  refine Sq.nil ?_
  refine Eq.next ?_
  refine Cq.seq ?_
  refine Cq.region ?_
  refine Sq.move .plain rfl rfl ?_
  refine Sq.make sl24 .plain rfl rfl rfl rfl (by omega) (fun b8 w9 e10 hlo11 hB12 => ?_)
  replace hB12 := hB12 w2.heap.size (Nat.le_refl _)
  have hs13 := Below.size e10
  replace E := E.trans e10
  replace hB4 := hB4.ext e10
  refine Sq.alloc1 zero24 rfl .plain rfl (fun b14 w15 e16 hB17 hlo18 => ?_)
  have hd19 := Nat.le_trans (Below.size E) hlo18
  have hd20 := Nat.lt_of_lt_of_le hB4.lt hlo18
  have hs21 := Below.size e16
  replace E := E.trans e16
  replace hB4 := hB4.ext e16
  replace hB12 := hB12.ext e16
  refine Sq.store one24 .plain rfl rfl (Row.one (Own.row hB12)) hB17 (by simp) (fun w22 g23 hB24 => ?_)
  have hs25 := World.grownBy.size g23
  replace E := E.grown g23 (fun k hk => by injection hk with hk; subst hk; omega)
  replace hB4 := hB4.grown g23 (by intro h; injection h with h; omega)
  replace hB12 := hB12.stored g23 hB17 (by decide)
  replace hB17 := hB24
  refine Sq.nil ?_
  refine Eq.next ?_
  refine Cq.seq ?_
  refine Cq.region ?_
  refine Sq.alloc1 zero116 rfl .plain rfl (fun b26 w27 e28 hB29 hlo30 => ?_)
  have hd31 := Nat.le_trans (Below.size E) hlo30
  have hd32 := Nat.lt_of_lt_of_le hB4.lt hlo30
  have hd33 := Nat.lt_of_lt_of_le hB17.lt hlo30
  have hs34 := Below.size e28
  replace E := E.trans e28
  replace hB4 := hB4.ext e28
  replace hB12 := hB12.ext e28
  replace hB17 := hB17.ext e28
  refine Sq.nil ?_
  refine Eq.next ?_
  refine Cq.seq ?_
  refine Cq.region ?_
  refine Sq.makeFunc .plain rfl rfl ?_
  refine Sq.assign .plain rfl rfl ?_
  refine Sq.nil ?_
  refine Eq.next ?_
  refine Cq.seq ?_
  refine Cq.seq ?_
  refine Cq.region ?_
  refine Sq.move .plain rfl rfl ?_
  refine Sq.move .plain rfl rfl ?_
  have hM : SMem w0 w27 3 4 24 118 116 73 w2.heap.size b14 b26 b1 gv n f s [] := ⟨_, _, [], hB17, Own.seen0 (seen_n (by omega) hB12), hB29, Wid.nil _ _ _ _, Trail.nil _ _ _ _, hB4, E, by omega, by omega, by omega, by omega⟩
  refine Sq.callC fn116 .plain rfl rfl rfl (visit_c _ _ _ _ _ _ _ _ _ f s _ D G hgo hM _ _ s [] rfl (hs0.ext E) (.inl ⟨rfl, rfl⟩) (by simp) hD0 (hDn _ hD0) (by simp)) ?_
  rintro _ w35 ⟨rfl, hM'⟩
  clear hM
  have hM := hM'
  clear hM'
  replace E := SMem.base hM
  have hs37 := Below.size E
  refine Sq.partB (fun hg0 => ?_) (fun hg0 => ?_)
  · refine Sq.nil ?_
    refine Eq.next ?_
    refine Cq.thn rfl ?_
    refine Cq.seq ?_
    refine Cq.region ?_
    refine Sq.assign .plain rfl rfl ?_
    refine Sq.assign .plain rfl rfl ?_
    refine Sq.nil ?_
    refine Eq.next ?_
    refine Cq.ret ?_
    refine Eq.pastRet ?_
    refine Eq.ret2 rfl rfl rfl ?_
    have e1 := first_here (f := f) (L := L) (by simpa using hg0 : G s = true)
    exact ⟨by rw [e1]; rfl, E⟩
  refine Sq.nil ?_
  refine Eq.next ?_
  refine Cq.els rfl ?_
  refine Cq.skip ?_
  refine Eq.next ?_
  refine Cq.seq ?_
  refine Cq.seq ?_
  refine Cq.region ?_
  refine Sq.assign .plain rfl rfl ?_
  refine Sq.nil ?_
  refine Eq.next ?_
  refine Cq.block ?_
  have hw0 : wadd f s [] [] = bfsw f s L 0 := wadd_F (by simp)
  rw [hw0] at hM
  refine Cq.loop (fun nn w ls => ∃ (i : Int), ls = [(2, lv), (3, fv), (13, Value.pointer (some ⟨b26, 0, none⟩)), (14, Value.func (.func 116) #[] #[Value.pointer (some ⟨b14, 0, none⟩), Value.pointer (some ⟨b1, 0, none⟩), Value.pointer (some ⟨b26, 0, none⟩)]), (15, Value.int .i64 i)] ∧ (0 ≤ i ∧ i ≤ (List.length (bfsw f s L i.toNat) : Int)) ∧ SMem w0 w 3 4 24 118 116 73 w2.heap.size b14 b26 b1 gv n f s (bfsw f s L i.toNat) ∧ (∀ v ∈ (bfsw f s L i.toNat), G (nodeOf f s v) = false) ∧ Ext w0 w ∧ nn = (151 - i).toNat) _ _ ⟨0, rfl, ⟨by omega, by show (0 : Int) ≤ ((1 : Nat) : Int); omega⟩, hM, (fun v hv => by rw [show v = [] by simpa [bfsw] using hv]; simpa [nodeOf] using hg0), E, rfl⟩ (.cons rfl (.cons rfl (.cons rfl (.cons rfl (.cons rfl (.nil)))))) ?_
  rintro nn wl1 ls ⟨i, rfl, hi, hM, hG, E, rfl⟩
  have hs38 := Below.size E
  have hbl := hbw i.toNat
  have hbl1 := hbw (i.toNat + 1)
  refine Cq.seq ?_
  refine Cq.seq ?_
  refine Cq.region ?_
  refine Sq.move .plain rfl rfl ?_
  have M39 := hM
  obtain ⟨svM39, tvM39, rsM39, _, _, hTM39, hWM39, hSM39, _⟩ := M39
  refine Sq.loadB one116 .plain rfl rfl hTM39 rfl ?_
  refine Sq.lenWid hWM39 .plain rfl und116 rfl ?_
  rw [rows3_length, hSM39.len]
  refine Sq.lss .plain rfl rfl rfl ?_
  refine Sq.part (fun c40 => ?_) (fun c40 => ?_)
  · refine Sq.nil ?_
    refine Eq.next ?_
    refine Cq.thn rfl ?_
    refine Cq.skip ?_
    refine Eq.next ?_
    refine Cq.seq ?_
    refine Cq.block ?_
    refine Cq.seq ?_
    refine Cq.region ?_
    refine Sq.move .plain rfl rfl ?_
    refine Sq.lenInts (hx.ext E) .plain rfl und56 rfl ?_
    refine Sq.move .plain rfl rfl ?_
    refine Sq.nil ?_
    refine Eq.next ?_
    refine Cq.block ?_
    obtain ⟨u, hu⟩ : ∃ u, (bfsw f s L i.toNat)[i.toNat]? = some u := ⟨_, List.getElem?_eq_getElem (by omega)⟩
    have hDu : D (nodeOf f s u) := nodeOf_in hD0 hD _ _ (List.mem_of_getElem? hu)
    have hul := bfsw_lets (f := f) (s := s) (i := i.toNat) hL u (List.mem_of_getElem? hu)
    refine Cq.loop (fun nn w ls => ∃ (k : Int), ls = [(2, lv), (3, fv), (13, Value.pointer (some ⟨b26, 0, none⟩)), (14, Value.func (.func 116) #[] #[Value.pointer (some ⟨b14, 0, none⟩), Value.pointer (some ⟨b1, 0, none⟩), Value.pointer (some ⟨b26, 0, none⟩)]), (15, Value.int .i64 i), (33, lv), (34, Value.int .i64 (List.length L : Int)), (35, Value.int .i64 k)] ∧ (0 ≤ k ∧ k ≤ L.length) ∧ SMem w0 w 3 4 24 118 116 73 w2.heap.size b14 b26 b1 gv n f s (wmid f s L i.toNat u k.toNat) ∧ (∀ v ∈ (wmid f s L i.toNat u k.toNat), G (nodeOf f s v) = false) ∧ Ext w0 w ∧ nn = ((L.length : Int) - k).toNat) _ _ ⟨0, rfl, by omega, hM, hG, E, rfl⟩ (.cons rfl (.cons rfl (.cons rfl (.cons rfl (.cons rfl (.cons rfl (.cons rfl (.cons rfl (.nil))))))))) ?_
    rintro nn wl2 ls ⟨k, rfl, hk, hM, hG, E, rfl⟩
    have hs41 := Below.size E
    have hmh := (wmid_last (f := f) (s := s) (L := L) (k := k.toNat) hu).length_le
    have hum : (wmid f s L i.toNat u k.toNat)[i.toNat]? = some u := by
      obtain ⟨t, ht⟩ := wmid_more (f := f) (s := s) (L := L) i.toNat u k.toNat
      rw [← ht, List.getElem?_append_left (List.getElem?_eq_some_iff.1 hu).1]; exact hu
    refine Cq.seq ?_
    refine Cq.region ?_
    refine Sq.lss .plain rfl rfl rfl ?_
    refine Sq.part (fun c42 => ?_) (fun c42 => ?_)
    · refine Sq.nil ?_
      refine Eq.next ?_
      refine Cq.seq ?_
      refine Cq.thn rfl ?_
      refine Cq.skip ?_
      refine Eq.next ?_
      refine Cq.seq ?_
      refine Cq.block ?_
      refine Cq.seq ?_
      refine Cq.region ?_
      refine Sq.idxInts sl56 one3 (hx.ext E) .plain rfl rfl rfl .plain rfl rfl (by omega) (by omega) ?_
      refine Sq.assign .plain rfl rfl ?_
      refine Sq.nil ?_
      refine Eq.next ?_
      refine Cq.seq ?_
      refine Cq.region ?_
      refine Sq.assign .plain rfl rfl ?_
      refine Sq.nil ?_
      refine Eq.next ?_
      refine Cq.seq ?_
      refine Cq.seq ?_
      refine Cq.region ?_
      have M43 := hM
      obtain ⟨svM43, tvM43, rsM43, _, _, hTM43, hWM43, hSM43, _⟩ := M43
      obtain ⟨pp, ll, fvv, hr, hlk, hfv⟩ := hSM43.row _ _ hum
      have hlt := (List.getElem?_eq_some_iff.1 hr).1
      refine Sq.loadB one116 .plain rfl rfl hTM43 rfl ?_
      refine Sq.move .plain rfl rfl ?_
      obtain ⟨gq44, kq44, hvq44, hlq44, haq44, hbq44, hcq44⟩ := Wid.triple hWM43 (i := i) (by omega) hr
      refine Sq.val .plain rfl rfl (Still.ixV slw116 hvq44 rfl rfl (by omega)) ?_
      refine Sq.fieldAddr fld118_2 .plain rfl rfl ?_
      refine Sq.val .plain rfl rfl (Still.load one56 rfl hcq44) ?_
      refine Sq.lenInts hfv .plain rfl und56 rfl ?_
      refine Sq.move .plain rfl rfl ?_
      refine Sq.nil ?_
      refine Eq.next ?_
      refine Cq.block ?_
      have hXm : (L.getD k.toNat 0) ∈ L := getD_mem (by omega)
      have hXr := hL _ hXm
      have hlu : ∀ x ∈ u ++ [(L.getD k.toNat 0)], 0 ≤ x ∧ x < 6 := by
        intro x hx
        rcases List.mem_append.1 hx with h | h
        · exact hul x h
        · rw [List.mem_singleton.1 h]; exact hXr
      have hul2 : u.length ≤ 150 := by have := bfsw_lenw hu; omega
      have hone : (List.length ([(nodeOf f s u)] : List Int) : Int) = 1 := rfl
      refine Cq.loop (fun nn w ls => ∃ (j : Int), ∃ (rv : Value), ls = [(2, lv), (3, fv), (13, Value.pointer (some ⟨b26, 0, none⟩)), (14, Value.func (.func 116) #[] #[Value.pointer (some ⟨b14, 0, none⟩), Value.pointer (some ⟨b1, 0, none⟩), Value.pointer (some ⟨b26, 0, none⟩)]), (15, Value.int .i64 i), (17, Value.int .i64 (L.getD k.toNat 0)), (18, rv), (33, lv), (34, Value.int .i64 (List.length L : Int)), (35, Value.int .i64 k), (43, fvv), (44, Value.int .i64 ((List.length ([(nodeOf f s u)] : List Int) : Int))), (45, Value.int .i64 j)] ∧ (0 ≤ j ∧ j ≤ 1) ∧ (j = 0 → rv = .slice none 0 0) ∧ (j = 1 → Ints w 3 rv [f (nodeOf f s u) (L.getD k.toNat 0)]) ∧ Ext w0 w ∧ Ints w 3 fvv [(nodeOf f s u)] ∧ SMem w0 w 3 4 24 118 116 73 w2.heap.size b14 b26 b1 gv n f s (wmid f s L i.toNat u k.toNat) ∧ nn = (1 - j).toNat) _ _ ⟨0, _, rfl, by omega, fun _ => rfl, fun h => absurd h (by decide), E, hfv, hM, rfl⟩ (.cons rfl (.cons rfl (.cons rfl (.cons rfl (.cons rfl (.cons rfl (.cons rfl (.cons rfl (.cons rfl (.cons rfl (.cons rfl (.cons rfl (.cons rfl (.nil)))))))))))))) ?_
      rintro nn wl3 ls ⟨j, rv, rfl, hj, hrv, hrr, E, hfv, hM, rfl⟩
      have hs45 := Below.size E
      refine Cq.seq ?_
      refine Cq.region ?_
      refine Sq.lss .plain rfl rfl rfl ?_
      refine Sq.part (fun c46 => ?_) (fun c46 => ?_)
      · refine Sq.nil ?_
        refine Eq.next ?_
        refine Cq.seq ?_
        refine Cq.thn rfl ?_
        refine Cq.skip ?_
        refine Eq.next ?_
        refine Cq.seq ?_
        refine Cq.block ?_
        refine Cq.seq ?_
        refine Cq.region ?_
        have hj0 : j = 0 := by omega
        obtain rfl := hrv hj0
        have hj1 : ([(nodeOf f s u)] : List Int).getD j.toNat 0 = (nodeOf f s u) := by rw [hj0]; rfl
        refine Sq.idxInts sl56 one3 hfv .plain rfl rfl rfl .plain rfl rfl (by omega) (by simp only [List.length_singleton]; omega) ?_
        rw [hj1]
        refine Sq.assign .plain rfl rfl ?_
        refine Sq.nil ?_
        refine Eq.next ?_
        refine Cq.region ?_
        refine Sq.move .plain rfl rfl ?_
        refine Sq.move .plain rfl rfl ?_
        refine Sq.move .plain rfl rfl ?_
        refine Sq.move .plain rfl rfl ?_
        refine Sq.callC hFn .plain rfl (by rw [← hfv0]; rfl) rfl (hcall _ _ _ E hDu hXr) ?_
        rintro vw47 w47 ⟨ho48, e49⟩
        have hs50 := Below.size e49
        replace E := E.trans e49
        replace hfv := hfv.ext e49
        replace hM := hM.ext e49
        refine Sq.assign .plain rfl rfl ?_
        refine Sq.nil ?_
        refine Eq.end ?_
        refine Eq.next ?_
        refine Cq.region ?_
        refine Sq.add .plain rfl rfl rfl (by omega) ?_
        refine Sq.move .plain rfl rfl ?_
        refine Sq.nil ?_
        refine Eq.round _ _ ⟨j + 1, _, rfl, by omega, fun h => absurd h (by omega), fun _ => Own.row ho48, E, hfv, hM, rfl⟩ (by omega) (.cons rfl (.cons rfl (.cons rfl (.cons rfl (.cons rfl (.cons rfl (.cons rfl (.cons rfl (.cons rfl (.cons rfl (.cons rfl (.cons rfl (.cons rfl (.nil))))))))))))))
      refine Sq.nil ?_
      refine Eq.next ?_
      refine Cq.seq ?_
      refine Cq.els rfl ?_
      refine Cq.exit ?_
      refine Eq.past ?_
      refine Eq.past ?_
      refine Eq.hit ?_
      refine Eq.next ?_
      refine Cq.seq ?_
      refine Cq.region ?_
      refine Sq.move .plain rfl rfl ?_
      refine Sq.move .plain rfl rfl ?_
      refine Sq.move .plain rfl rfl ?_
      refine Sq.move .plain rfl rfl ?_
      refine Sq.callC fn116 .plain rfl rfl rfl (visit_c _ _ _ _ _ _ _ _ _ f s _ D G hgo hM i (L.getD k.toNat 0) _ (u ++ [(L.getD k.toNat 0)]) (nodeOf_snoc ..).symm (hrr (by omega)) (.inr ⟨u, rfl, hi.1, hum⟩) hlu (hD _ hDu _ hXm) (hDn _ (hD _ hDu _ hXm)) (by omega)) ?_
      rintro _ w51 ⟨rfl, hM'⟩
      clear hM
      have hM := hM'
      clear hM'
      replace E := SMem.base hM
      have hs53 := Below.size E
      refine Sq.partB (fun hfd => ?_) (fun hfd => ?_)
      · refine Sq.nil ?_
        refine Eq.next ?_
        refine Cq.thn rfl ?_
        refine Cq.seq ?_
        refine Cq.region ?_
        have hnew : nodeOf f s (u ++ [(L.getD k.toNat 0)]) ∉ (wmid f s L i.toNat u k.toNat).map (nodeOf f s) ∧ G (nodeOf f s (u ++ [(L.getD k.toNat 0)])) = true := by rw [nodeOf_snoc]; simpa using hfd
        rw [wadd_F hnew.1] at hM
        have M54 := hM
        obtain ⟨svM54, tvM54, rsM54, _, _, hTM54, hWM54, hSM54, _⟩ := M54
        refine Sq.loadB one116 .plain rfl rfl hTM54 rfl ?_
        refine Sq.call fn117 .plain rfl rfl (pathWord_c _ _ _ _ f s _ hWM54 hSM54 (u ++ [(L.getD k.toNat 0)]) (by rw [List.length_append, List.length_singleton, Nat.add_sub_cancel, List.getElem?_append_right (Nat.le_refl _), Nat.sub_self]; rfl) (by rw [List.length_append, List.length_singleton]; omega) (by rw [List.length_append, List.length_singleton]; omega)) ?_
        rintro _ w55 ⟨rfl, e56⟩
        have hs57 := Below.size e56
        replace E := E.trans e56
        refine Sq.assign .plain rfl rfl ?_
        refine Sq.assign .plain rfl rfl ?_
        refine Sq.nil ?_
        refine Eq.next ?_
        refine Cq.ret ?_
        refine Eq.outRet ?_
        refine Eq.pastRet ?_
        refine Eq.pastRet ?_
        refine Eq.outRet ?_
        refine Eq.outRet ?_
        refine Eq.pastRet ?_
        refine Eq.pastRet ?_
        refine Eq.outRet ?_
        refine Eq.pastRet ?_
        refine Eq.ret2 rfl rfl rfl ?_
        have e1 := first_found hu (by omega) (by omega) hG hnew.1 hnew.2
        exact ⟨by rw [e1]; rfl, E⟩
      refine Sq.nil ?_
      refine Eq.next ?_
      refine Cq.els rfl ?_
      refine Cq.skip ?_
      refine Eq.end ?_
      refine Eq.next ?_
      refine Cq.region ?_
      refine Sq.add .plain rfl rfl rfl (by omega) ?_
      refine Sq.move .plain rfl rfl ?_
      refine Sq.nil ?_
      have e2 := toNat_succ hk.1
      have e5 := wmid_succ (f := f) (s := s) (i := i.toNat) (u := u) (k := k.toNat) (L := L) (by omega)
      refine Eq.round _ _ ⟨k + 1, rfl, by omega, by rw [e2, e5]; exact hM, by rw [e2, e5]; exact wadd_miss hG (by rw [nodeOf_snoc]; exact hfd), E, rfl⟩ (by omega) (.cons rfl (.cons rfl (.cons rfl (.cons rfl (.cons rfl (.cons rfl (.cons rfl (.cons rfl (.nil)))))))))
    refine Sq.nil ?_
    refine Eq.next ?_
    refine Cq.seq ?_
    refine Cq.els rfl ?_
    refine Cq.exit ?_
    refine Eq.past ?_
    refine Eq.past ?_
    refine Eq.hit ?_
    refine Eq.end ?_
    refine Eq.next ?_
    refine Cq.region ?_
    refine Sq.move .plain rfl rfl ?_
    refine Sq.add .plain rfl rfl rfl (by omega) ?_
    refine Sq.assign .plain rfl rfl ?_
    refine Sq.nil ?_
    have e1 := toNat_succ hi.1
    have e3 := wmid_done (k := k.toNat) (by omega) hu
    have e4 := (bfsw_prefix1 (f := f) (s := s) (L := L) i.toNat).length_le
    refine Eq.round _ _ ⟨i + 1, rfl, by rw [e1]; omega, by rw [e1, ← e3]; exact hM, by rw [e1, ← e3]; exact hG, E, rfl⟩ (by omega) (.cons rfl (.cons rfl (.cons rfl (.cons rfl (.cons rfl (.nil))))))
  refine Sq.nil ?_
  refine Eq.next ?_
  refine Cq.els rfl ?_
  refine Cq.exit ?_
  refine Eq.past ?_
  refine Eq.past ?_
  refine Eq.hit ?_
  refine Eq.next ?_
  refine Cq.seq ?_
  refine Cq.region ?_
  refine Sq.assign .plain rfl rfl ?_
  refine Sq.assign .plain rfl rfl ?_
  refine Sq.nil ?_
  refine Eq.next ?_
  refine Cq.ret ?_
  refine Eq.ret2 rfl rfl rfl ?_
  have e1 := first_missed (f := f) (s := s) (L := L) (G := G) (i := i.toNat) (by omega) (by omega) hG
  exact ⟨by rw [e1]; rfl, E⟩
end Go.Proofs.Ytdejmfkpohgamaa
set_option linter.unusedSimpArgs false
set_option linter.unusedVariables false
namespace Go.Proofs.Ytdejmfkpohgamaa
open Go.RowKit
set_option maxRecDepth 100000 in
theorem ff1_c (w0 : World) (q x : Int) (a : A) (bt b : Nat) (xs : List Int) (hB : Blk w0 bt 57 [Value.slice (some ⟨b, 0, none⟩) a.next.length a.next.length]) (hT : Blk w0 b 62 (xs.map (Value.int .i64))) (hTab : Tab a xs) (hq : 0 ≤ q ∧ q < a.next.length) (hx : 0 ≤ x ∧ x < 6) : Ret Try.prog 96 #[Value.int .i64 q, Value.int .i64 x, Value.slice none 0 0, Value.pointer (some ⟨bt, 0, none⟩)] w0 (fun v w => Own w w0.heap.size 3 v [Value.int .i64 (goA a q x)] ∧ Ext w0 w) := by
  have E := Ext.refl w0
  refine Ret.of (args := [Value.int .i64 q, Value.int .i64 x, Value.slice none 0 0, Value.pointer (some ⟨bt, 0, none⟩)]) Try.func96 rfl rfl rfl ?_
  rintro _ rfl
  show Cq _ _ _ _ [(0, Value.int .i64 q), (1, Value.int .i64 x), (2, Value.slice none 0 0), (3, Value.pointer (some ⟨bt, 0, none⟩))] _
  refine Cq.seq ?_
  refine Cq.region ?_
  refine Sq.assign .plain rfl rfl ?_
  refine Sq.nil ?_
  refine Eq.next ?_
  refine Cq.seq ?_
  refine Cq.region ?_
  refine Sq.move .plain rfl rfl ?_
  refine Sq.loadB one57 .plain rfl rfl hB rfl ?_
  refine Sq.move .plain rfl rfl ?_
  refine Sq.move .plain rfl rfl ?_
  refine Sq.val .plain rfl rfl (Still.ixS slk57 rfl rfl (by omega) (by omega)) ?_
  refine Sq.val .plain rfl rfl (Still.ixA ar62 rfl rfl (by omega) (by omega)) ?_
  refine Sq.val .plain rfl rfl (Still.loadB one3 rfl hT (by rw [Nat.zero_add, List.getElem?_map, hTab.2 q x (by first | omega | assumption) (by omega)]; rfl)) ?_
  refine Sq.app1 sl56 (Own.nil w0 (w0.heap.size) 3) (by omega) (by simp) .plain rfl rfl rfl rfl rfl rfl rfl (fun v1 w2 ho4 g3 _ => ?_)
  have hs5 := g3.size
  replace E := E.owned (Own.nil w0 (w0.heap.size) 3) g3 (by omega)
  refine Sq.assign .plain rfl rfl ?_
  refine Sq.nil ?_
  refine Eq.next ?_
  refine Cq.ret ?_
  refine Eq.ret1 rfl rfl ?_
  exact ⟨by simpa using ho4, E⟩
set_option maxRecDepth 100000 in
theorem la1_c (w0 : World) (q x : Int) (a : A) (bt b : Nat) (xs : List Int) (hB : Blk w0 bt 57 [Value.slice (some ⟨b, 0, none⟩) a.next.length a.next.length]) (hT : Blk w0 b 62 (xs.map (Value.int .i64))) (hTab : Tab a xs) (hq : 0 ≤ q ∧ q < a.next.length) (hx : 0 ≤ x ∧ x < 6) : Ret Try.prog 99 #[Value.int .i64 q, Value.int .i64 x, Value.slice none 0 0, Value.pointer (some ⟨bt, 0, none⟩)] w0 (fun v w => Own w w0.heap.size 3 v [Value.int .i64 (goA a q x)] ∧ Ext w0 w) := by
  have E := Ext.refl w0
  refine Ret.of (args := [Value.int .i64 q, Value.int .i64 x, Value.slice none 0 0, Value.pointer (some ⟨bt, 0, none⟩)]) Try.func99 rfl rfl rfl ?_
  rintro _ rfl
  show Cq _ _ _ _ [(0, Value.int .i64 q), (1, Value.int .i64 x), (2, Value.slice none 0 0), (3, Value.pointer (some ⟨bt, 0, none⟩))] _
  refine Cq.seq ?_
  refine Cq.region ?_
  refine Sq.assign .plain rfl rfl ?_
  refine Sq.nil ?_
  refine Eq.next ?_
  refine Cq.seq ?_
  refine Cq.region ?_
  refine Sq.move .plain rfl rfl ?_
  refine Sq.loadB one57 .plain rfl rfl hB rfl ?_
  refine Sq.move .plain rfl rfl ?_
  refine Sq.move .plain rfl rfl ?_
  refine Sq.val .plain rfl rfl (Still.ixS slk57 rfl rfl (by omega) (by omega)) ?_
  refine Sq.val .plain rfl rfl (Still.ixA ar62 rfl rfl (by omega) (by omega)) ?_
  refine Sq.val .plain rfl rfl (Still.loadB one3 rfl hT (by rw [Nat.zero_add, List.getElem?_map, hTab.2 q x (by first | omega | assumption) (by omega)]; rfl)) ?_
  refine Sq.app1 sl56 (Own.nil w0 (w0.heap.size) 3) (by omega) (by simp) .plain rfl rfl rfl rfl rfl rfl rfl (fun v1 w2 ho4 g3 _ => ?_)
  have hs5 := g3.size
  replace E := E.owned (Own.nil w0 (w0.heap.size) 3) g3 (by omega)
  refine Sq.assign .plain rfl rfl ?_
  refine Sq.nil ?_
  refine Eq.next ?_
  refine Cq.ret ?_
  refine Eq.ret1 rfl rfl ?_
  exact ⟨by simpa using ho4, E⟩
set_option maxRecDepth 100000 in
theorem fa1_c (w0 : World) (q : Int) (a : A) (nx ac : Value) (b : Nat) (hB : Blk w0 b 26 [Value.int .i64 a.al, nx, ac]) (hac : Bools w0 4 ac a.acc) (hq : 0 ≤ q ∧ q < a.acc.length) : Ret Try.prog 64 #[Value.int .i64 q, Value.pointer (some ⟨b, 0, none⟩)] w0 (fun v w => v = .bool (accA a q) ∧ w0 = w) := by
  refine Ret.of (args := [Value.int .i64 q, Value.pointer (some ⟨b, 0, none⟩)]) Try.func64 rfl rfl rfl ?_
  rintro _ rfl
  show Cq _ _ _ _ [(0, Value.int .i64 q), (1, Value.pointer (some ⟨b, 0, none⟩))] _
  refine Cq.seq ?_
  refine Cq.region ?_
  refine Sq.assign .plain rfl rfl ?_
  refine Sq.nil ?_
  refine Eq.next ?_
  refine Cq.seq ?_
  refine Cq.region ?_
  refine Sq.fieldAddr fld26_2 .plain rfl rfl ?_
  refine Sq.loadB one24 .plain rfl rfl hB rfl ?_
  refine Sq.move .plain rfl rfl ?_
  refine Sq.idxBools sl24 one4 hac .plain rfl rfl rfl .plain rfl rfl (by omega) (by omega) ?_
  refine Sq.assign .plain rfl rfl ?_
  refine Sq.nil ?_
  refine Eq.next ?_
  refine Cq.ret ?_
  refine Eq.ret1 rfl rfl ?_
  exact ⟨rfl, rfl⟩
set_option maxRecDepth 100000 in
theorem la2_c (w0 : World) (q : Int) (a : A) (nx ac : Value) (b : Nat) (hB : Blk w0 b 26 [Value.int .i64 a.al, nx, ac]) (hac : Bools w0 4 ac a.acc) (hq : 0 ≤ q ∧ q < a.acc.length) : Ret Try.prog 100 #[Value.int .i64 q, Value.pointer (some ⟨b, 0, none⟩)] w0 (fun v w => v = .bool (accA a q) ∧ w0 = w) := by
  refine Ret.of (args := [Value.int .i64 q, Value.pointer (some ⟨b, 0, none⟩)]) Try.func100 rfl rfl rfl ?_
  rintro _ rfl
  show Cq _ _ _ _ [(0, Value.int .i64 q), (1, Value.pointer (some ⟨b, 0, none⟩))] _
  refine Cq.seq ?_
  refine Cq.region ?_
  refine Sq.assign .plain rfl rfl ?_
  refine Sq.nil ?_
  refine Eq.next ?_
  refine Cq.seq ?_
  refine Cq.region ?_
  refine Sq.fieldAddr fld26_2 .plain rfl rfl ?_
  refine Sq.loadB one24 .plain rfl rfl hB rfl ?_
  refine Sq.move .plain rfl rfl ?_
  refine Sq.idxBools sl24 one4 hac .plain rfl rfl rfl .plain rfl rfl (by omega) (by omega) ?_
  refine Sq.assign .plain rfl rfl ?_
  refine Sq.nil ?_
  refine Eq.next ?_
  refine Cq.ret ?_
  refine Eq.ret1 rfl rfl ?_
  exact ⟨rfl, rfl⟩
set_option maxRecDepth 100000 in
theorem firstFrom_c (w0 : World) (a : A) (nx ac : Value) (hnx : Rows w0 56 3 nx a.next) (hac : Bools w0 4 ac a.acc) (hv : validA a = true) (gv : Value) (G : Int → Bool) (hgo : GClo Try.prog w0 gv (fun q => 0 ≤ q ∧ q < (a.next.length : Int)) G) : Ret Try.prog 63 #[Value.agg #[Value.int .i64 a.al, nx, ac], gv] w0 (fun v w => v = resW (firstA a 0 G) ∧ Ext w0 w) := by
  have E := Ext.refl w0
  have hal := (validA_spec.1 hv).1
  refine Ret.of (args := [Value.agg #[Value.int .i64 a.al, nx, ac], gv]) Try.func63 rfl rfl rfl ?_
  rintro _ rfl
  show Cq _ _ _ _ [(0, Value.agg #[Value.int .i64 a.al, nx, ac]), (1, gv)] _
  refine Cq.seq ?_
  refine Cq.region ?_
  refine Sq.box .plain rfl rfl (fun b1 w2 e3 hB4 hlo5 => ?_)
  have hd6 := Nat.le_trans (Below.size E) hlo5
  have hs7 := Below.size e3
  replace E := E.trans e3
  refine Sq.assign .plain rfl rfl ?_
  refine Sq.assign .plain rfl rfl ?_
  refine Sq.nil ?_
  refine Eq.next ?_
  refine Cq.seq ?_
  refine Cq.region ?_
  refine Sq.loadAgg agg26 .plain rfl rfl hB4 rfl ?_
  have hd16 := hB4.lt
  refine Sq.call fn48 .plain rfl rfl (tableOf_c _ a _ _ (hnx.ext E) (hac.ext E) hv) ?_
  rintro _ w9 ⟨⟨b11, xs12, rfl, hlo13, hT14, hTab15⟩, e10⟩
  have hs17 := Below.size E
  have hs18 := Below.size e10
  replace E := E.trans e10
  replace hB4 := hB4.ext e10
  refine Sq.alloc1 zero57 rfl .plain rfl (fun b19 w20 e21 hB22 hlo23 => ?_)
  have hd24 := Nat.le_trans (Below.size E) hlo23
  have hd25 := Nat.lt_of_lt_of_le hB4.lt hlo23
  have hd26 := Nat.lt_of_lt_of_le hT14.lt hlo23
  have hs27 := Below.size e21
  replace E := E.trans e21
  replace hB4 := hB4.ext e21
  replace hT14 := hT14.ext e21
  refine Sq.store one57 .plain rfl rfl rfl hB22 (by simp) (fun w28 g29 hB30 => ?_)
  have hs31 := World.grownBy.size g29
  replace E := E.grown g29 (fun k hk => by injection hk with hk; subst hk; omega)
  replace hB4 := hB4.grown g29 (by intro h; injection h with h; omega)
  replace hT14 := hT14.grown g29 (by intro h; injection h with h; omega)
  replace hB22 := hB30
  refine Sq.nil ?_
  refine Eq.next ?_
  refine Cq.seq ?_
  refine Cq.drawS 11 (fun w' => Blk w' b1 26 [Value.int .i64 a.al, nx, ac] ∧ Blk w' b19 57 [Value.slice (some ⟨b11, 0, none⟩) a.next.length a.next.length] ∧ Blk w' b11 62 (xs12.map (Value.int .i64)) ∧ Ext w0 w') mixed (⟨hB4, hB22, hT14, E⟩) (fun w32 e33 hS => ?_)
  clear hS
  have hs34 := Below.size e33
  replace E := E.trans e33
  replace hB4 := hB4.ext e33
  replace hT14 := hT14.ext e33
  replace hB22 := hB22.ext e33
  refine Gq.st 0 rfl (by kernel_rfl) rfl .plain rfl (fun _ _ _ h => h) ⟨hB4, hB22, hT14, E⟩ (fun w' x => Still.loadB one57 rfl x.2.1 rfl) ?_
  refine Gq.st 1 rfl (by kernel_rfl) rfl .plain rfl (fun _ _ _ h => h) ⟨hB4, hB22, hT14, E⟩ (fun w' x => Still.len und57 rfl) ?_
  refine Gq.st 3 rfl (by kernel_rfl) rfl .plain rfl (fun _ _ _ h => h) ⟨hB4, hB22, hT14, E⟩ (fun w' x => Still.fieldAddr fld26_0 rfl) ?_
  refine Gq.st 4 rfl (by kernel_rfl) rfl .plain rfl (fun _ _ _ h => h) ⟨hB4, hB22, hT14, E⟩ (fun w' x => Still.loadB one3 rfl x.1 rfl) ?_
  refine Gq.st 6 rfl (by kernel_rfl) rfl .plain rfl (fun _ _ _ h => h) ⟨hB4, hB22, hT14, E⟩ (fun w' x => Still.makeFunc rfl) ?_
  refine Gq.st 7 rfl (by kernel_rfl) rfl .plain rfl (fun _ _ _ h => h) ⟨hB4, hB22, hT14, E⟩ (fun w' x => Still.move rfl) ?_
  refine Gq.two 2 5 rfl rfl (by kernel_rfl) ?_ ?_
  · refine Sq.lit sl56 rfl rfl .plain rfl rfl (one_cons rfl one_nil) (fun b35 w36 e37 hlo38 ho39 _ => ?_)
    replace ho39 := ho39 w32.heap.size (Nat.le_refl _)
    have hs41 := Below.size e37
    replace E := E.trans e37
    replace hB4 := hB4.ext e37
    replace hT14 := hT14.ext e37
    replace hB22 := hB22.ext e37
    refine Sq.nil ?_
    refine Eq.goes (fun _ => ⟨hB4, hB22, hT14, E⟩) ?_
    refine Gq.one 5 rfl (by kernel_rfl) ?_
    have hd46 := hB4.lt
    have hd47 := hT14.lt
    have hd48 := hB22.lt
    refine Sq.call fn50 .plain rfl rfl (lettersOf_c a.al (by omega) _) ?_
    rintro v42 w43 ⟨hl45, e44⟩
    have hs49 := Below.size E
    have hs50 := Below.size e44
    replace E := E.trans e44
    replace hB4 := hB4.ext e44
    replace hT14 := hT14.ext e44
    replace hB22 := hB22.ext e44
    replace ho39 := ho39.ext e44
    refine Sq.nil ?_
    refine Eq.goes (fun _ => ⟨hB4, hB22, hT14, E⟩) ?_
    refine Gq.one 8 rfl (by kernel_rfl) ?_
    have hd53 := hB4.lt
    have hd54 := hT14.lt
    have hd55 := hB22.lt
    have hvs := validA_spec.1 hv
    have hlet := letters_len6 a.al
    refine Sq.call fn95 .plain rfl rfl (firstPath_c _ (List.length a.next : Int) a.next.length 0 (letters a.al) _ _ _ _ (goA a) G (fun q => 0 ≤ q ∧ q < (a.next.length : Int)) rfl (Own.row ho39) (Own.row hl45) (by omega) (fun x hx => ⟨(mem_letters hx).1, (mem_letters hx).2.1⟩) (zero_in hv) (fun q hq x hx => goA_in hv hq ⟨(mem_letters hx).1, (mem_letters hx).2.1⟩) (fun q hq => hq) (by omega) ⟨96, _, [Value.pointer (some ⟨b19, 0, none⟩)], rfl, fn96, fun w q x hx hq hxx => ff1_c w q x a _ _ _ (hB22.ext hx) (hT14.ext hx) hTab15 hq hxx⟩ (GClo.up hgo E)) ?_
    rintro _ w51 ⟨rfl, e52⟩
    have hs56 := Below.size E
    have hs57 := Below.size e52
    replace E := E.trans e52
    replace hB4 := hB4.ext e52
    replace hT14 := hT14.ext e52
    replace hB22 := hB22.ext e52
    refine Sq.nil ?_
    refine Eq.goes (fun _ => ⟨hB4, hB22, hT14, E⟩) ?_
    refine Gq.st 9 rfl (by kernel_rfl) rfl .plain rfl (fun _ _ _ h => h) ⟨hB4, hB22, hT14, E⟩ (fun w' x => Still.extract rfl rfl) ?_
    refine Gq.st 10 rfl (by kernel_rfl) rfl .plain rfl (fun _ _ _ h => h) ⟨hB4, hB22, hT14, E⟩ (fun w' x => Still.extract rfl rfl) ?_
    refine Gq.one 11 rfl (by kernel_rfl) ?_
    refine Sq.assign .plain rfl rfl ?_
    refine Sq.nil ?_
    refine Eq.goes (fun h => absurd h (by decide)) ?_
    refine Gq.one 12 rfl (by kernel_rfl) ?_
    refine Sq.assign .plain rfl rfl ?_
    refine Sq.nil ?_
    refine Eq.goes (fun h => absurd h (by decide)) ?_
    refine Gq.done (by kernel_rfl) ?_
    refine Eq.next ?_
    refine Cq.ret ?_
    refine Eq.ret2 rfl rfl rfl ?_
    exact ⟨rfl, E⟩
  have hd62 := hB4.lt
  have hd63 := hT14.lt
  have hd64 := hB22.lt
  refine Sq.call fn50 .plain rfl rfl (lettersOf_c a.al (by omega) _) ?_
  rintro v58 w59 ⟨hl61, e60⟩
  have hs65 := Below.size E
  have hs66 := Below.size e60
  replace E := E.trans e60
  replace hB4 := hB4.ext e60
  replace hT14 := hT14.ext e60
  replace hB22 := hB22.ext e60
  refine Sq.nil ?_
  refine Eq.goes (fun _ => ⟨hB4, hB22, hT14, E⟩) ?_
  refine Gq.one 2 rfl (by kernel_rfl) ?_
  refine Sq.lit sl56 rfl rfl .plain rfl rfl (one_cons rfl one_nil) (fun b67 w68 e69 hlo70 ho71 _ => ?_)
  replace ho71 := ho71 w59.heap.size (Nat.le_refl _)
  have hs73 := Below.size e69
  replace E := E.trans e69
  replace hB4 := hB4.ext e69
  replace hT14 := hT14.ext e69
  replace hB22 := hB22.ext e69
  replace hl61 := hl61.ext e69
  refine Sq.nil ?_
  refine Eq.goes (fun _ => ⟨hB4, hB22, hT14, E⟩) ?_
  refine Gq.one 8 rfl (by kernel_rfl) ?_
  have hd76 := hB4.lt
  have hd77 := hT14.lt
  have hd78 := hB22.lt
  have hvs := validA_spec.1 hv
  have hlet := letters_len6 a.al
  refine Sq.call fn95 .plain rfl rfl (firstPath_c _ (List.length a.next : Int) a.next.length 0 (letters a.al) _ _ _ _ (goA a) G (fun q => 0 ≤ q ∧ q < (a.next.length : Int)) rfl (Own.row ho71) (Own.row hl61) (by omega) (fun x hx => ⟨(mem_letters hx).1, (mem_letters hx).2.1⟩) (zero_in hv) (fun q hq x hx => goA_in hv hq ⟨(mem_letters hx).1, (mem_letters hx).2.1⟩) (fun q hq => hq) (by omega) ⟨96, _, [Value.pointer (some ⟨b19, 0, none⟩)], rfl, fn96, fun w q x hx hq hxx => ff1_c w q x a _ _ _ (hB22.ext hx) (hT14.ext hx) hTab15 hq hxx⟩ (GClo.up hgo E)) ?_
  rintro _ w74 ⟨rfl, e75⟩
  have hs79 := Below.size E
  have hs80 := Below.size e75
  replace E := E.trans e75
  replace hB4 := hB4.ext e75
  replace hT14 := hT14.ext e75
  replace hB22 := hB22.ext e75
  refine Sq.nil ?_
  refine Eq.goes (fun _ => ⟨hB4, hB22, hT14, E⟩) ?_
  refine Gq.st 9 rfl (by kernel_rfl) rfl .plain rfl (fun _ _ _ h => h) ⟨hB4, hB22, hT14, E⟩ (fun w' x => Still.extract rfl rfl) ?_
  refine Gq.st 10 rfl (by kernel_rfl) rfl .plain rfl (fun _ _ _ h => h) ⟨hB4, hB22, hT14, E⟩ (fun w' x => Still.extract rfl rfl) ?_
  refine Gq.one 11 rfl (by kernel_rfl) ?_
  refine Sq.assign .plain rfl rfl ?_
  refine Sq.nil ?_
  refine Eq.goes (fun h => absurd h (by decide)) ?_
  refine Gq.one 12 rfl (by kernel_rfl) ?_
  refine Sq.assign .plain rfl rfl ?_
  refine Sq.nil ?_
  refine Eq.goes (fun h => absurd h (by decide)) ?_
  refine Gq.done (by kernel_rfl) ?_
  refine Eq.next ?_
  refine Cq.ret ?_
  refine Eq.ret2 rfl rfl rfl ?_
  exact ⟨rfl, E⟩
set_option maxRecDepth 100000 in
theorem leads_c (w0 : World) (a : A) (nx ac : Value) (hnx : Rows w0 56 3 nx a.next) (hac : Bools w0 4 ac a.acc) (hv : validA a = true) (s : Int) (hs : 0 ≤ s ∧ s < a.next.length) : Ret Try.prog 72 #[Value.agg #[Value.int .i64 a.al, nx, ac], Value.int .i64 s] w0 (fun v w => v = .bool (firstA a s (accA a)).isSome ∧ Ext w0 w) := by
  have E := Ext.refl w0
  have hal := (validA_spec.1 hv).1
  refine Ret.of (args := [Value.agg #[Value.int .i64 a.al, nx, ac], Value.int .i64 s]) Try.func72 rfl rfl rfl ?_
  rintro _ rfl
  show Cq _ _ _ _ [(0, Value.agg #[Value.int .i64 a.al, nx, ac]), (1, Value.int .i64 s)] _
  refine Cq.seq ?_
  refine Cq.region ?_
  refine Sq.box .plain rfl rfl (fun b1 w2 e3 hB4 hlo5 => ?_)
  have hd6 := Nat.le_trans (Below.size E) hlo5
  have hs7 := Below.size e3
  replace E := E.trans e3
  refine Sq.assign .plain rfl rfl ?_
  refine Sq.nil ?_
  refine Eq.next ?_
  refine Cq.seq ?_
  refine Cq.region ?_
  refine Sq.loadAgg agg26 .plain rfl rfl hB4 rfl ?_
  have hd16 := hB4.lt
  refine Sq.call fn48 .plain rfl rfl (tableOf_c _ a _ _ (hnx.ext E) (hac.ext E) hv) ?_
  rintro _ w9 ⟨⟨b11, xs12, rfl, hlo13, hT14, hTab15⟩, e10⟩
  have hs17 := Below.size E
  have hs18 := Below.size e10
  replace E := E.trans e10
  replace hB4 := hB4.ext e10
  refine Sq.alloc1 zero57 rfl .plain rfl (fun b19 w20 e21 hB22 hlo23 => ?_)
  have hd24 := Nat.le_trans (Below.size E) hlo23
  have hd25 := Nat.lt_of_lt_of_le hB4.lt hlo23
  have hd26 := Nat.lt_of_lt_of_le hT14.lt hlo23
  have hs27 := Below.size e21
  replace E := E.trans e21
  replace hB4 := hB4.ext e21
  replace hT14 := hT14.ext e21
  refine Sq.store one57 .plain rfl rfl rfl hB22 (by simp) (fun w28 g29 hB30 => ?_)
  have hs31 := World.grownBy.size g29
  replace E := E.grown g29 (fun k hk => by injection hk with hk; subst hk; omega)
  replace hB4 := hB4.grown g29 (by intro h; injection h with h; omega)
  replace hT14 := hT14.grown g29 (by intro h; injection h with h; omega)
  replace hB22 := hB30
  refine Sq.nil ?_
  refine Eq.next ?_
  refine Cq.seq ?_
  refine Cq.drawS 14 (fun w' => Blk w' b1 26 [Value.int .i64 a.al, nx, ac] ∧ Blk w' b19 57 [Value.slice (some ⟨b11, 0, none⟩) a.next.length a.next.length] ∧ Blk w' b11 62 (xs12.map (Value.int .i64)) ∧ Ext w0 w') mixed (⟨hB4, hB22, hT14, E⟩) (fun w32 e33 hS => ?_)
  clear hS
  have hs34 := Below.size e33
  replace E := E.trans e33
  replace hB4 := hB4.ext e33
  replace hT14 := hT14.ext e33
  replace hB22 := hB22.ext e33
  refine Gq.st 0 rfl (by kernel_rfl) rfl .plain rfl (fun _ _ _ h => h) ⟨hB4, hB22, hT14, E⟩ (fun w' x => Still.loadB one57 rfl x.2.1 rfl) ?_
  refine Gq.st 1 rfl (by kernel_rfl) rfl .plain rfl (fun _ _ _ h => h) ⟨hB4, hB22, hT14, E⟩ (fun w' x => Still.len und57 rfl) ?_
  refine Gq.st 2 rfl (by kernel_rfl) rfl .plain rfl (fun _ _ _ h => h) ⟨hB4, hB22, hT14, E⟩ (fun w' x => Still.move rfl) ?_
  refine Gq.st 4 rfl (by kernel_rfl) rfl .plain rfl (fun _ _ _ h => h) ⟨hB4, hB22, hT14, E⟩ (fun w' x => Still.fieldAddr fld26_0 rfl) ?_
  refine Gq.st 5 rfl (by kernel_rfl) rfl .plain rfl (fun _ _ _ h => h) ⟨hB4, hB22, hT14, E⟩ (fun w' x => Still.loadB one3 rfl x.1 rfl) ?_
  refine Gq.st 7 rfl (by kernel_rfl) rfl .plain rfl (fun _ _ _ h => h) ⟨hB4, hB22, hT14, E⟩ (fun w' x => Still.makeFunc rfl) ?_
  refine Gq.st 8 rfl (by kernel_rfl) rfl .plain rfl (fun _ _ _ h => h) ⟨hB4, hB22, hT14, E⟩ (fun w' x => Still.makeFunc rfl) ?_
  refine Gq.two 3 6 rfl rfl (by kernel_rfl) ?_ ?_
  · refine Sq.lit sl56 rfl rfl .plain rfl rfl (one_cons rfl one_nil) (fun b35 w36 e37 hlo38 ho39 _ => ?_)
    replace ho39 := ho39 w32.heap.size (Nat.le_refl _)
    have hs41 := Below.size e37
    replace E := E.trans e37
    replace hB4 := hB4.ext e37
    replace hT14 := hT14.ext e37
    replace hB22 := hB22.ext e37
    refine Sq.nil ?_
    refine Eq.goes (fun _ => ⟨hB4, hB22, hT14, E⟩) ?_
    refine Gq.one 6 rfl (by kernel_rfl) ?_
    have hd46 := hB4.lt
    have hd47 := hT14.lt
    have hd48 := hB22.lt
    refine Sq.call fn50 .plain rfl rfl (lettersOf_c a.al (by omega) _) ?_
    rintro v42 w43 ⟨hl45, e44⟩
    have hs49 := Below.size E
    have hs50 := Below.size e44
    replace E := E.trans e44
    replace hB4 := hB4.ext e44
    replace hT14 := hT14.ext e44
    replace hB22 := hB22.ext e44
    replace ho39 := ho39.ext e44
    refine Sq.nil ?_
    refine Eq.goes (fun _ => ⟨hB4, hB22, hT14, E⟩) ?_
    refine Gq.one 9 rfl (by kernel_rfl) ?_
    have hd53 := hB4.lt
    have hd54 := hT14.lt
    have hd55 := hB22.lt
    have hvs := validA_spec.1 hv
    have hlet := letters_len6 a.al
    refine Sq.call fn95 .plain rfl rfl (firstPath_c _ (List.length a.next : Int) a.next.length s (letters a.al) _ _ _ _ (goA a) (accA a) (fun q => 0 ≤ q ∧ q < (a.next.length : Int)) rfl (Own.row ho39) (Own.row hl45) (by omega) (fun x hx => ⟨(mem_letters hx).1, (mem_letters hx).2.1⟩) hs (fun q hq x hx => goA_in hv hq ⟨(mem_letters hx).1, (mem_letters hx).2.1⟩) (fun q hq => hq) (by omega) ⟨99, _, [Value.pointer (some ⟨b19, 0, none⟩)], rfl, fn99, fun w q x hx hq hxx => la1_c w q x a _ _ _ (hB22.ext hx) (hT14.ext hx) hTab15 hq hxx⟩ ⟨100, _, [Value.pointer (some ⟨b1, 0, none⟩)], rfl, fn100, fun w q hx hq => (la2_c w q a _ _ _ (hB4.ext hx) ((hac.ext E).ext hx) (by have := (validA_spec.1 hv).2; omega)).mono fun v w' h => ⟨h.1, h.2 ▸ Ext.refl w⟩⟩) ?_
    rintro _ w51 ⟨rfl, e52⟩
    have hs56 := Below.size E
    have hs57 := Below.size e52
    replace E := E.trans e52
    replace hB4 := hB4.ext e52
    replace hT14 := hT14.ext e52
    replace hB22 := hB22.ext e52
    refine Sq.nil ?_
    refine Eq.goes (fun _ => ⟨hB4, hB22, hT14, E⟩) ?_
    refine Gq.st 10 rfl (by kernel_rfl) rfl .plain rfl (fun _ _ _ h => h) ⟨hB4, hB22, hT14, E⟩ (fun w' x => Still.move rfl) ?_
    refine Gq.st 11 rfl (by kernel_rfl) rfl .plain rfl (fun _ _ _ h => h) ⟨hB4, hB22, hT14, E⟩ (fun w' x => Still.extract rfl rfl) ?_
    refine Gq.st 12 rfl (by kernel_rfl) rfl .plain rfl (fun _ _ _ h => h) ⟨hB4, hB22, hT14, E⟩ (fun w' x => Still.extract rfl rfl) ?_
    refine Gq.st 13 rfl (by kernel_rfl) rfl .plain rfl (fun _ _ _ h => h) ⟨hB4, hB22, hT14, E⟩ (fun w' x => Still.assign rfl) ?_
    refine Gq.one 14 rfl (by kernel_rfl) ?_
    refine Sq.assign .plain rfl rfl ?_
    refine Sq.nil ?_
    refine Eq.goes (fun h => absurd h (by decide)) ?_
    refine Gq.done (by kernel_rfl) ?_
    refine Eq.next ?_
    refine Cq.seq ?_
    refine Cq.region ?_
    refine Sq.move .plain rfl rfl ?_
    refine Sq.assign .plain rfl rfl ?_
    refine Sq.nil ?_
    refine Eq.next ?_
    refine Cq.ret ?_
    refine Eq.ret1 rfl rfl ?_
    exact ⟨rfl, E⟩
  have hd62 := hB4.lt
  have hd63 := hT14.lt
  have hd64 := hB22.lt
  refine Sq.call fn50 .plain rfl rfl (lettersOf_c a.al (by omega) _) ?_
  rintro v58 w59 ⟨hl61, e60⟩
  have hs65 := Below.size E
  have hs66 := Below.size e60
  replace E := E.trans e60
  replace hB4 := hB4.ext e60
  replace hT14 := hT14.ext e60
  replace hB22 := hB22.ext e60
  refine Sq.nil ?_
  refine Eq.goes (fun _ => ⟨hB4, hB22, hT14, E⟩) ?_
  refine Gq.one 3 rfl (by kernel_rfl) ?_
  refine Sq.lit sl56 rfl rfl .plain rfl rfl (one_cons rfl one_nil) (fun b67 w68 e69 hlo70 ho71 _ => ?_)
  replace ho71 := ho71 w59.heap.size (Nat.le_refl _)
  have hs73 := Below.size e69
  replace E := E.trans e69
  replace hB4 := hB4.ext e69
  replace hT14 := hT14.ext e69
  replace hB22 := hB22.ext e69
  replace hl61 := hl61.ext e69
  refine Sq.nil ?_
  refine Eq.goes (fun _ => ⟨hB4, hB22, hT14, E⟩) ?_
  refine Gq.one 9 rfl (by kernel_rfl) ?_
  have hd76 := hB4.lt
  have hd77 := hT14.lt
  have hd78 := hB22.lt
  have hvs := validA_spec.1 hv
  have hlet := letters_len6 a.al
  refine Sq.call fn95 .plain rfl rfl (firstPath_c _ (List.length a.next : Int) a.next.length s (letters a.al) _ _ _ _ (goA a) (accA a) (fun q => 0 ≤ q ∧ q < (a.next.length : Int)) rfl (Own.row ho71) (Own.row hl61) (by omega) (fun x hx => ⟨(mem_letters hx).1, (mem_letters hx).2.1⟩) hs (fun q hq x hx => goA_in hv hq ⟨(mem_letters hx).1, (mem_letters hx).2.1⟩) (fun q hq => hq) (by omega) ⟨99, _, [Value.pointer (some ⟨b19, 0, none⟩)], rfl, fn99, fun w q x hx hq hxx => la1_c w q x a _ _ _ (hB22.ext hx) (hT14.ext hx) hTab15 hq hxx⟩ ⟨100, _, [Value.pointer (some ⟨b1, 0, none⟩)], rfl, fn100, fun w q hx hq => (la2_c w q a _ _ _ (hB4.ext hx) ((hac.ext E).ext hx) (by have := (validA_spec.1 hv).2; omega)).mono fun v w' h => ⟨h.1, h.2 ▸ Ext.refl w⟩⟩) ?_
  rintro _ w74 ⟨rfl, e75⟩
  have hs79 := Below.size E
  have hs80 := Below.size e75
  replace E := E.trans e75
  replace hB4 := hB4.ext e75
  replace hT14 := hT14.ext e75
  replace hB22 := hB22.ext e75
  refine Sq.nil ?_
  refine Eq.goes (fun _ => ⟨hB4, hB22, hT14, E⟩) ?_
  refine Gq.st 10 rfl (by kernel_rfl) rfl .plain rfl (fun _ _ _ h => h) ⟨hB4, hB22, hT14, E⟩ (fun w' x => Still.move rfl) ?_
  refine Gq.st 11 rfl (by kernel_rfl) rfl .plain rfl (fun _ _ _ h => h) ⟨hB4, hB22, hT14, E⟩ (fun w' x => Still.extract rfl rfl) ?_
  refine Gq.st 12 rfl (by kernel_rfl) rfl .plain rfl (fun _ _ _ h => h) ⟨hB4, hB22, hT14, E⟩ (fun w' x => Still.extract rfl rfl) ?_
  refine Gq.st 13 rfl (by kernel_rfl) rfl .plain rfl (fun _ _ _ h => h) ⟨hB4, hB22, hT14, E⟩ (fun w' x => Still.assign rfl) ?_
  refine Gq.one 14 rfl (by kernel_rfl) ?_
  refine Sq.assign .plain rfl rfl ?_
  refine Sq.nil ?_
  refine Eq.goes (fun h => absurd h (by decide)) ?_
  refine Gq.done (by kernel_rfl) ?_
  refine Eq.next ?_
  refine Cq.seq ?_
  refine Cq.region ?_
  refine Sq.move .plain rfl rfl ?_
  refine Sq.assign .plain rfl rfl ?_
  refine Sq.nil ?_
  refine Eq.next ?_
  refine Cq.ret ?_
  refine Eq.ret1 rfl rfl ?_
  exact ⟨rfl, E⟩
end Go.Proofs.Ytdejmfkpohgamaa
set_option linter.unusedSimpArgs false
set_option linter.unusedVariables false
namespace Go.Proofs.Ytdejmfkpohgamaa
open Go.RowKit
set_option maxRecDepth 100000 in
theorem fAcc_c (w0 : World) (a : A) (nx ac : Value) (hnx : Rows w0 56 3 nx a.next) (hac : Bools w0 4 ac a.acc) : Ret Try.prog 23 #[Value.agg #[Value.int .i64 a.al, nx, ac]] w0 (fun v w => v = resW (fAcc a) ∧ Ext w0 w) := by
  have E := Ext.refl w0
  refine Ret.of (args := [Value.agg #[Value.int .i64 a.al, nx, ac]]) Try.func23 rfl rfl rfl ?_
  rintro _ rfl
  show Cq _ _ _ _ [(0, Value.agg #[Value.int .i64 a.al, nx, ac])] _
  refine Cq.seq ?_
  refine Cq.region ?_
  refine Sq.box .plain rfl rfl (fun b1 w2 e3 hB4 hlo5 => ?_)
  have hd6 := Nat.le_trans (Below.size E) hlo5
  have hs7 := Below.size e3
  replace E := E.trans e3
  refine Sq.assign .plain rfl rfl ?_
  refine Sq.assign .plain rfl rfl ?_
  refine Sq.nil ?_
  refine Eq.next ?_
  refine Cq.seq ?_
  refine Cq.seq ?_
  refine Cq.region ?_
  refine Sq.loadAgg agg26 .plain rfl rfl hB4 rfl ?_
  have hd11 := hB4.lt
  refine Sq.call fn22 .plain rfl rfl (valid_c _ a _ _ (hnx.ext E) (hac.ext E)) ?_
  rintro _ w9 ⟨rfl, e10⟩
  have hs12 := Below.size E
  have hs13 := Below.size e10
  replace E := E.trans e10
  replace hB4 := hB4.ext e10
  refine Sq.partB (fun hv => ?_) (fun hv => ?_)
  · refine Sq.notT .plain rfl rfl ?_
    refine Sq.nil ?_
    refine Eq.next ?_
    refine Cq.els rfl ?_
    refine Cq.skip ?_
    refine Eq.next ?_
    refine Cq.seq ?_
    refine Cq.region ?_
    refine Sq.loadAgg agg26 .plain rfl rfl hB4 rfl ?_
    refine Sq.makeFunc .plain rfl rfl ?_
    have hd17 := hB4.lt
    refine Sq.call fn63 .plain rfl rfl (firstFrom_c _ a _ _ (hnx.ext E) (hac.ext E) hv _ (accA a) ⟨64, _, [Value.pointer (some ⟨b1, 0, none⟩)], rfl, fn64, fun w q hx hq => (fa1_c w q a _ _ _ (hB4.ext hx) ((hac.ext E).ext hx) (by have := (validA_spec.1 hv).2; omega)).mono fun v w' h => ⟨h.1, h.2 ▸ Ext.refl w⟩⟩) ?_
    rintro _ w15 ⟨rfl, e16⟩
    have hs18 := Below.size E
    have hs19 := Below.size e16
    replace E := E.trans e16
    refine Sq.extract .plain rfl rfl rfl ?_
    refine Sq.extract .plain rfl rfl rfl ?_
    refine Sq.assign .plain rfl rfl ?_
    refine Sq.assign .plain rfl rfl ?_
    refine Sq.nil ?_
    refine Eq.next ?_
    refine Cq.ret ?_
    refine Eq.ret2 rfl rfl rfl ?_
    exact ⟨by rw [fAcc, if_pos hv]; rfl, E⟩
  refine Sq.notF .plain rfl rfl ?_
  refine Sq.nil ?_
  refine Eq.next ?_
  refine Cq.thn rfl ?_
  refine Cq.seq ?_
  refine Cq.region ?_
  refine Sq.assign .plain rfl rfl ?_
  refine Sq.assign .plain rfl rfl ?_
  refine Sq.nil ?_
  refine Eq.next ?_
  refine Cq.ret ?_
  refine Eq.pastRet ?_
  refine Eq.ret2 rfl rfl rfl ?_
  exact ⟨by rw [fAcc, if_neg (by rw [hv]; decide)]; rfl, E⟩
end Go.Proofs.Ytdejmfkpohgamaa
set_option linter.unusedSimpArgs false
set_option linter.unusedVariables false
namespace Go.Proofs.Ytdejmfkpohgamaa
open Go.RowKit
set_option maxHeartbeats 1000000 in
set_option maxRecDepth 100000 in
theorem lProdSelf (w0 : World) (e : TypeId) (a0 : Option Addr) (c0 : Nat) (cs : List UInt8) (hc : Bytes w0 e (.slice a0 cs.length c0) cs) (hcap : cs.length ≤ c0) : Ret Try.prog 8 #[Value.slice a0 cs.length c0] w0 (fun v w => v = .bool true ∧ Ext w0 w) := by
  have E := Ext.refl w0
  refine Ret.of (args := [Value.slice a0 cs.length c0]) Try.func8 rfl rfl rfl ?_
  rintro _ rfl
  show Cq _ _ _ _ [(0, Value.slice a0 cs.length c0)] _
  refine Cq.seq ?_
  refine Cq.region ?_
  refine Sq.assign .plain rfl rfl ?_
  refine Sq.nil ?_
  refine Eq.next ?_
  refine Cq.seq ?_
  refine Cq.seq ?_
  refine Cq.region ?_
  refine Sq.move .plain rfl rfl ?_
  refine Sq.lenBytes (hc.ext E) .plain rfl und22 rfl ?_
  refine Sq.gtr .plain rfl rfl rfl ?_
  refine Sq.part (fun c1 => ?_) (fun c1 => ?_)
  · refine Sq.nil ?_
    refine Eq.next ?_
    refine Cq.thn rfl ?_
    refine Cq.seq ?_
    refine Cq.region ?_
    refine Sq.assign .plain rfl rfl ?_
    refine Sq.nil ?_
    refine Eq.next ?_
    refine Cq.ret ?_
    refine Eq.pastRet ?_
    refine Eq.ret1 rfl rfl ?_
    exact ⟨rfl, E⟩
  refine Sq.nil ?_
  refine Eq.next ?_
  refine Cq.els rfl ?_
  refine Cq.skip ?_
  refine Eq.next ?_
  refine Cq.seq ?_
  refine Cq.region ?_
  refine Sq.move .plain rfl rfl ?_
  refine Sq.call fn15 .plain rfl rfl (drawProd_c _ _ _ _ _ (hc.ext E) hcap) ?_
  rintro v2 w3 ⟨⟨u5, v6, k7, aX8, aY9, rfl, ⟨nxX10, acX11, rfl, hnX12, haX13⟩, ⟨nxY14, acY15, rfl, hnY16, haY17⟩, hsmX18, hsmY19, hk20⟩, e4⟩
  have hs21 := Below.size E
  have hs22 := Below.size e4
  replace E := E.trans e4
  refine Sq.move .plain rfl rfl ?_
  refine Sq.extract .plain rfl rfl rfl ?_
  refine Sq.extract .plain rfl rfl rfl ?_
  refine Sq.extract .plain rfl rfl rfl ?_
  refine Sq.alloc zero26 .plain rfl (fun b23 w24 e25 hB26 hlo27 => ?_)
  have hd28 := Nat.le_trans (Below.size E) hlo27
  have hs29 := Below.size e25
  replace E := E.trans e25
  replace hnX12 := hnX12.ext e25
  replace haX13 := haX13.ext e25
  replace hnY16 := hnY16.ext e25
  replace haY17 := haY17.ext e25
  refine Sq.alloc zero26 .plain rfl (fun b30 w31 e32 hB33 hlo34 => ?_)
  have hd35 := Nat.le_trans (Below.size E) hlo34
  have hd36 := Nat.lt_of_lt_of_le hB26.lt hlo34
  have hs37 := Below.size e32
  replace E := E.trans e32
  replace hnX12 := hnX12.ext e32
  replace haX13 := haX13.ext e32
  replace hnY16 := hnY16.ext e32
  replace haY17 := haY17.ext e32
  replace hB26 := hB26.ext e32
  refine Sq.storeAgg agg26 .plain rfl rfl (one_cons rfl (one_cons (Rows.one hnX12) (one_cons (Row.one haX13) one_nil))) hB26 rfl rfl (fun w38 g39 hB40 => ?_)
  have hs41 := World.grownBy.size g39
  replace E := E.grown g39 (fun k hk => by injection hk with hk; subst hk; omega)
  replace hnX12 := hnX12.stored g39 hB26 (by decide) (by decide)
  replace haX13 := haX13.stored g39 hB26 (by decide)
  replace hnY16 := hnY16.stored g39 hB26 (by decide) (by decide)
  replace haY17 := haY17.stored g39 hB26 (by decide)
  replace hB33 := hB33.grown g39 (by intro h; injection h with h; omega)
  replace hB26 := hB40
  refine Sq.storeAgg agg26 .plain rfl rfl (one_cons rfl (one_cons (Rows.one hnY16) (one_cons (Row.one haY17) one_nil))) hB33 rfl rfl (fun w42 g43 hB44 => ?_)
  have hs45 := World.grownBy.size g43
  replace E := E.grown g43 (fun k hk => by injection hk with hk; subst hk; omega)
  replace hnX12 := hnX12.stored g43 hB33 (by decide) (by decide)
  replace haX13 := haX13.stored g43 hB33 (by decide)
  replace hnY16 := hnY16.stored g43 hB33 (by decide) (by decide)
  replace haY17 := haY17.stored g43 hB33 (by decide)
  replace hB26 := hB26.grown g43 (by intro h; injection h with h; omega)
  replace hB33 := hB44
  refine Sq.assign .plain rfl rfl ?_
  refine Sq.nil ?_
  refine Eq.next ?_
  refine Cq.seq ?_
  refine Cq.region ?_
  refine Sq.loadAgg agg26 .plain rfl rfl hB26 rfl ?_
  refine Sq.loadAgg agg26 .plain rfl rfl hB33 rfl ?_
  refine Sq.move .plain rfl rfl ?_
  rcases Bool.eq_false_or_eq_true (prodOk aX8 aY9 k7) with hC | hC
  · obtain ⟨hv, hv', hk, hl12⟩ := prodOk_spec.1 hC
    refine Sq.call fn16 .plain rfl rfl (prod_c_T _ aX8 aY9 _ _ _ _ hnX12 haX13 hnY16 haY17 k7 hC) ?_
    rintro _ w46 ⟨⟨_, rfl, nx48, ac49, rfl, hn50, ha51⟩, e47⟩
    have hs52 := Below.size E
    have hs53 := Below.size e47
    replace E := E.trans e47
    replace hnX12 := hnX12.ext e47
    replace haX13 := haX13.ext e47
    replace hnY16 := hnY16.ext e47
    replace haY17 := haY17.ext e47
    replace hB26 := hB26.ext e47
    replace hB33 := hB33.ext e47
    refine Sq.move .plain rfl rfl ?_
    refine Sq.extract .plain rfl rfl rfl ?_
    refine Sq.extract .plain rfl rfl rfl ?_
    refine Sq.alloc zero26 .plain rfl (fun b54 w55 e56 hB57 hlo58 => ?_)
    have hd59 := Nat.le_trans (Below.size E) hlo58
    have hd60 := Nat.lt_of_lt_of_le hB26.lt hlo58
    have hd61 := Nat.lt_of_lt_of_le hB33.lt hlo58
    have hs62 := Below.size e56
    replace E := E.trans e56
    replace hnX12 := hnX12.ext e56
    replace haX13 := haX13.ext e56
    replace hnY16 := hnY16.ext e56
    replace haY17 := haY17.ext e56
    replace hB26 := hB26.ext e56
    replace hB33 := hB33.ext e56
    replace hn50 := hn50.ext e56
    replace ha51 := ha51.ext e56
    refine Sq.storeAgg agg26 .plain rfl rfl (one_cons rfl (one_cons (Rows.one (OwnRows.rows hn50)) (one_cons (Row.one (Own.row ha51)) one_nil))) hB57 rfl rfl (fun w63 g64 hB65 => ?_)
    have hs66 := World.grownBy.size g64
    replace E := E.grown g64 (fun k hk => by injection hk with hk; subst hk; omega)
    replace hnX12 := hnX12.stored g64 hB57 (by decide) (by decide)
    replace haX13 := haX13.stored g64 hB57 (by decide)
    replace hnY16 := hnY16.stored g64 hB57 (by decide) (by decide)
    replace haY17 := haY17.stored g64 hB57 (by decide)
    replace hB26 := hB26.grown g64 (by intro h; injection h with h; omega)
    replace hB33 := hB33.grown g64 (by intro h; injection h with h; omega)
    replace hn50 := hn50.stored g64 hB57 (by decide) (by decide)
    replace ha51 := ha51.stored g64 hB57 (by decide)
    replace hB57 := hB65
    refine Sq.assign .plain rfl rfl ?_
    refine Sq.nil ?_
    refine Eq.next ?_
    refine Cq.seq ?_
    refine Cq.region ?_
    refine Sq.loadAgg agg26 .plain rfl rfl hB26 rfl ?_
    refine Sq.loadAgg agg26 .plain rfl rfl hB33 rfl ?_
    refine Sq.move .plain rfl rfl ?_
    refine Sq.call fn17 .plain rfl rfl (sProd_c_T _ aX8 aY9 _ _ _ _ hnX12 haX13 hnY16 haY17 k7 hC) ?_
    rintro _ w67 ⟨⟨_, rfl, nx69, ac70, rfl, hn71, ha72⟩, e68⟩
    have hs73 := Below.size E
    have hs74 := Below.size e68
    replace E := E.trans e68
    replace hnX12 := hnX12.ext e68
    replace haX13 := haX13.ext e68
    replace hB26 := hB26.ext e68
    replace hB33 := hB33.ext e68
    replace hn50 := hn50.ext e68
    replace ha51 := ha51.ext e68
    replace hB57 := hB57.ext e68
    refine Sq.move .plain rfl rfl ?_
    refine Sq.extract .plain rfl rfl rfl ?_
    refine Sq.extract .plain rfl rfl rfl ?_
    refine Sq.alloc zero26 .plain rfl (fun b75 w76 e77 hB78 hlo79 => ?_)
    have hd80 := Nat.le_trans (Below.size E) hlo79
    have hd81 := Nat.lt_of_lt_of_le hB26.lt hlo79
    have hd82 := Nat.lt_of_lt_of_le hB33.lt hlo79
    have hd83 := Nat.lt_of_lt_of_le hB57.lt hlo79
    have hs84 := Below.size e77
    replace E := E.trans e77
    replace hnX12 := hnX12.ext e77
    replace haX13 := haX13.ext e77
    replace hB26 := hB26.ext e77
    replace hB33 := hB33.ext e77
    replace hn50 := hn50.ext e77
    replace ha51 := ha51.ext e77
    replace hB57 := hB57.ext e77
    replace hn71 := hn71.ext e77
    replace ha72 := ha72.ext e77
    refine Sq.storeAgg agg26 .plain rfl rfl (one_cons rfl (one_cons (Rows.one (OwnRows.rows hn71)) (one_cons (Row.one (Own.row ha72)) one_nil))) hB78 rfl rfl (fun w85 g86 hB87 => ?_)
    have hs88 := World.grownBy.size g86
    replace E := E.grown g86 (fun k hk => by injection hk with hk; subst hk; omega)
    replace hnX12 := hnX12.stored g86 hB78 (by decide) (by decide)
    replace haX13 := haX13.stored g86 hB78 (by decide)
    replace hB26 := hB26.grown g86 (by intro h; injection h with h; omega)
    replace hB33 := hB33.grown g86 (by intro h; injection h with h; omega)
    replace hn50 := hn50.stored g86 hB78 (by decide) (by decide)
    replace ha51 := ha51.stored g86 hB78 (by decide)
    replace hB57 := hB57.grown g86 (by intro h; injection h with h; omega)
    replace hn71 := hn71.stored g86 hB78 (by decide) (by decide)
    replace ha72 := ha72.stored g86 hB78 (by decide)
    replace hB78 := hB87
    refine Sq.assign .plain rfl rfl ?_
    refine Sq.nil ?_
    refine Eq.next ?_
    refine Cq.seq ?_
    refine Cq.seq ?_
    refine Cq.region ?_
    refine Sq.loadAgg agg26 .plain rfl rfl hB57 rfl ?_
    refine Sq.loadAgg agg26 .plain rfl rfl hB78 rfl ?_
    have hd92 := hB26.lt
    have hd93 := hB33.lt
    have hd94 := hB57.lt
    have hd95 := hB78.lt
    refine Sq.call fn18 .plain rfl rfl (agAutomata_c _ (prodA aX8 aY9 k7) (prodA aX8 aY9 k7) _ _ _ _ (OwnRows.rows hn50) (Own.row ha51) (OwnRows.rows hn71) (Own.row ha72) (by first | exact fit_zero | exact fit_of_valid (by first | assumption | exact extend_valid hv hk | exact compl_valid' (extend_valid hv hk) | exact trim_valid hv | exact prod_valid (prod_self_ok hv (by decide)) | exact prod_valid hC | exact prod_valid (prodOk_kind hC (by decide))) | assumption)) ?_
    rintro _ w90 ⟨rfl, e91⟩
    have hs96 := Below.size E
    have hs97 := Below.size e91
    replace E := E.trans e91
    replace hnX12 := hnX12.ext e91
    replace haX13 := haX13.ext e91
    replace hB26 := hB26.ext e91
    replace hB33 := hB33.ext e91
    replace hn50 := hn50.ext e91
    replace ha51 := ha51.ext e91
    replace hB57 := hB57.ext e91
    replace hn71 := hn71.ext e91
    replace ha72 := ha72.ext e91
    replace hB78 := hB78.ext e91
    refine Sq.beT (by exact eqA_refl _) ?_
    refine Sq.notT .plain rfl rfl ?_
    refine Sq.move .plain rfl rfl ?_
    refine Sq.move (.met rfl rfl rfl) rfl rfl ?_
    refine Sq.move (.met rfl rfl rfl) rfl rfl ?_
    refine Sq.neqB und4 (.met rfl rfl rfl) rfl rfl rfl ?_
    refine Sq.pickF .plain rfl rfl rfl ?_
    refine Sq.move .plain rfl rfl ?_
    refine Sq.loadAgg agg26 (.met rfl rfl rfl) rfl rfl hB26 rfl ?_
    have hd101 := hB26.lt
    have hd102 := hB33.lt
    have hd103 := hB57.lt
    have hd104 := hB78.lt
    refine Sq.call fn22 (.met rfl rfl rfl) rfl rfl (valid_c _ aX8 _ _ hnX12 haX13) ?_
    rintro _ w99 ⟨rfl, e100⟩
    have hs105 := Below.size E
    have hs106 := Below.size e100
    replace E := E.trans e100
    replace hnX12 := hnX12.ext e100
    replace haX13 := haX13.ext e100
    replace hB26 := hB26.ext e100
    replace hB33 := hB33.ext e100
    replace hn50 := hn50.ext e100
    replace ha51 := ha51.ext e100
    replace hB57 := hB57.ext e100
    replace hn71 := hn71.ext e100
    replace ha72 := ha72.ext e100
    replace hB78 := hB78.ext e100
    refine Sq.partB (fun hv => ?_) (fun hv => ?_)
    · refine Sq.notT (.met rfl rfl rfl) rfl rfl ?_
      refine Sq.pickF .plain rfl rfl rfl ?_
      refine Sq.nil ?_
      refine Eq.next ?_
      refine Cq.els rfl ?_
      refine Cq.skip ?_
      refine Eq.next ?_
      refine Cq.seq ?_
      refine Cq.region ?_
      refine Sq.loadAgg agg26 .plain rfl rfl hB26 rfl ?_
      refine Sq.call fn19 .plain rfl rfl (trimA_c_T _ aX8 _ _ hnX12 haX13 (by exact hv)) ?_
      rintro _ w108 ⟨⟨_, rfl, nx110, ac111, rfl, hn112, ha113⟩, e109⟩
      have hs114 := Below.size E
      have hs115 := Below.size e109
      replace E := E.trans e109
      replace hnX12 := hnX12.ext e109
      replace haX13 := haX13.ext e109
      replace hB26 := hB26.ext e109
      replace hB33 := hB33.ext e109
      replace hB57 := hB57.ext e109
      replace hB78 := hB78.ext e109
      refine Sq.move .plain rfl rfl ?_
      refine Sq.extract .plain rfl rfl rfl ?_
      refine Sq.extract .plain rfl rfl rfl ?_
      refine Sq.alloc zero26 .plain rfl (fun b116 w117 e118 hB119 hlo120 => ?_)
      have hd121 := Nat.le_trans (Below.size E) hlo120
      have hd122 := Nat.lt_of_lt_of_le hB26.lt hlo120
      have hd123 := Nat.lt_of_lt_of_le hB33.lt hlo120
      have hd124 := Nat.lt_of_lt_of_le hB57.lt hlo120
      have hd125 := Nat.lt_of_lt_of_le hB78.lt hlo120
      have hs126 := Below.size e118
      replace E := E.trans e118
      replace hnX12 := hnX12.ext e118
      replace haX13 := haX13.ext e118
      replace hB26 := hB26.ext e118
      replace hB33 := hB33.ext e118
      replace hB57 := hB57.ext e118
      replace hB78 := hB78.ext e118
      replace hn112 := hn112.ext e118
      replace ha113 := ha113.ext e118
      refine Sq.storeAgg agg26 .plain rfl rfl (one_cons rfl (one_cons (Rows.one (OwnRows.rows hn112)) (one_cons (Row.one (Own.row ha113)) one_nil))) hB119 rfl rfl (fun w127 g128 hB129 => ?_)
      have hs130 := World.grownBy.size g128
      replace E := E.grown g128 (fun k hk => by injection hk with hk; subst hk; omega)
      replace hnX12 := hnX12.stored g128 hB119 (by decide) (by decide)
      replace haX13 := haX13.stored g128 hB119 (by decide)
      replace hB26 := hB26.grown g128 (by intro h; injection h with h; omega)
      replace hB33 := hB33.grown g128 (by intro h; injection h with h; omega)
      replace hB57 := hB57.grown g128 (by intro h; injection h with h; omega)
      replace hB78 := hB78.grown g128 (by intro h; injection h with h; omega)
      replace hn112 := hn112.stored g128 hB119 (by decide) (by decide)
      replace ha113 := ha113.stored g128 hB119 (by decide)
      replace hB119 := hB129
      refine Sq.assign .plain rfl rfl ?_
      refine Sq.nil ?_
      refine Eq.next ?_
      refine Cq.seq ?_
      refine Cq.region ?_
      refine Sq.loadAgg agg26 .plain rfl rfl hB26 rfl ?_
      refine Sq.loadAgg agg26 .plain rfl rfl hB26 rfl ?_
      refine Sq.call fn16 .plain rfl rfl (prod_c_T _ aX8 aX8 _ _ _ _ hnX12 haX13 hnX12 haX13 0 (by exact prod_self_ok hv (by decide))) ?_
      rintro _ w131 ⟨⟨_, rfl, nx133, ac134, rfl, hn135, ha136⟩, e132⟩
      have hs137 := Below.size E
      have hs138 := Below.size e132
      replace E := E.trans e132
      replace hnX12 := hnX12.ext e132
      replace haX13 := haX13.ext e132
      replace hB26 := hB26.ext e132
      replace hB33 := hB33.ext e132
      replace hB57 := hB57.ext e132
      replace hB78 := hB78.ext e132
      replace hn112 := hn112.ext e132
      replace ha113 := ha113.ext e132
      replace hB119 := hB119.ext e132
      refine Sq.move .plain rfl rfl ?_
      refine Sq.extract .plain rfl rfl rfl ?_
      refine Sq.extract .plain rfl rfl rfl ?_
      refine Sq.alloc zero26 .plain rfl (fun b139 w140 e141 hB142 hlo143 => ?_)
      have hd144 := Nat.le_trans (Below.size E) hlo143
      have hd145 := Nat.lt_of_lt_of_le hB26.lt hlo143
      have hd146 := Nat.lt_of_lt_of_le hB33.lt hlo143
      have hd147 := Nat.lt_of_lt_of_le hB57.lt hlo143
      have hd148 := Nat.lt_of_lt_of_le hB78.lt hlo143
      have hd149 := Nat.lt_of_lt_of_le hB119.lt hlo143
      have hs150 := Below.size e141
      replace E := E.trans e141
      replace hnX12 := hnX12.ext e141
      replace haX13 := haX13.ext e141
      replace hB26 := hB26.ext e141
      replace hB33 := hB33.ext e141
      replace hB57 := hB57.ext e141
      replace hB78 := hB78.ext e141
      replace hn112 := hn112.ext e141
      replace ha113 := ha113.ext e141
      replace hB119 := hB119.ext e141
      replace hn135 := hn135.ext e141
      replace ha136 := ha136.ext e141
      refine Sq.storeAgg agg26 .plain rfl rfl (one_cons rfl (one_cons (Rows.one (OwnRows.rows hn135)) (one_cons (Row.one (Own.row ha136)) one_nil))) hB142 rfl rfl (fun w151 g152 hB153 => ?_)
      have hs154 := World.grownBy.size g152
      replace E := E.grown g152 (fun k hk => by injection hk with hk; subst hk; omega)
      replace hnX12 := hnX12.stored g152 hB142 (by decide) (by decide)
      replace haX13 := haX13.stored g152 hB142 (by decide)
      replace hB26 := hB26.grown g152 (by intro h; injection h with h; omega)
      replace hB33 := hB33.grown g152 (by intro h; injection h with h; omega)
      replace hB57 := hB57.grown g152 (by intro h; injection h with h; omega)
      replace hB78 := hB78.grown g152 (by intro h; injection h with h; omega)
      replace hn112 := hn112.stored g152 hB142 (by decide) (by decide)
      replace ha113 := ha113.stored g152 hB142 (by decide)
      replace hB119 := hB119.grown g152 (by intro h; injection h with h; omega)
      replace hn135 := hn135.stored g152 hB142 (by decide) (by decide)
      replace ha136 := ha136.stored g152 hB142 (by decide)
      replace hB142 := hB153
      refine Sq.assign .plain rfl rfl ?_
      refine Sq.nil ?_
      refine Eq.next ?_
      refine Cq.seq ?_
      refine Cq.region ?_
      refine Sq.loadAgg agg26 .plain rfl rfl hB26 rfl ?_
      refine Sq.loadAgg agg26 .plain rfl rfl hB26 rfl ?_
      refine Sq.call fn16 .plain rfl rfl (prod_c_T _ aX8 aX8 _ _ _ _ hnX12 haX13 hnX12 haX13 1 (by exact prod_self_ok hv (by decide))) ?_
      rintro _ w155 ⟨⟨_, rfl, nx157, ac158, rfl, hn159, ha160⟩, e156⟩
      have hs161 := Below.size E
      have hs162 := Below.size e156
      replace E := E.trans e156
      replace hnX12 := hnX12.ext e156
      replace haX13 := haX13.ext e156
      replace hB26 := hB26.ext e156
      replace hB33 := hB33.ext e156
      replace hB57 := hB57.ext e156
      replace hB78 := hB78.ext e156
      replace hn112 := hn112.ext e156
      replace ha113 := ha113.ext e156
      replace hB119 := hB119.ext e156
      replace hn135 := hn135.ext e156
      replace ha136 := ha136.ext e156
      replace hB142 := hB142.ext e156
      refine Sq.move .plain rfl rfl ?_
      refine Sq.extract .plain rfl rfl rfl ?_
      refine Sq.extract .plain rfl rfl rfl ?_
      refine Sq.alloc zero26 .plain rfl (fun b163 w164 e165 hB166 hlo167 => ?_)
      have hd168 := Nat.le_trans (Below.size E) hlo167
      have hd169 := Nat.lt_of_lt_of_le hB26.lt hlo167
      have hd170 := Nat.lt_of_lt_of_le hB33.lt hlo167
      have hd171 := Nat.lt_of_lt_of_le hB57.lt hlo167
      have hd172 := Nat.lt_of_lt_of_le hB78.lt hlo167
      have hd173 := Nat.lt_of_lt_of_le hB119.lt hlo167
      have hd174 := Nat.lt_of_lt_of_le hB142.lt hlo167
      have hs175 := Below.size e165
      replace E := E.trans e165
      replace hnX12 := hnX12.ext e165
      replace haX13 := haX13.ext e165
      replace hB26 := hB26.ext e165
      replace hB33 := hB33.ext e165
      replace hB57 := hB57.ext e165
      replace hB78 := hB78.ext e165
      replace hn112 := hn112.ext e165
      replace ha113 := ha113.ext e165
      replace hB119 := hB119.ext e165
      replace hn135 := hn135.ext e165
      replace ha136 := ha136.ext e165
      replace hB142 := hB142.ext e165
      replace hn159 := hn159.ext e165
      replace ha160 := ha160.ext e165
      refine Sq.storeAgg agg26 .plain rfl rfl (one_cons rfl (one_cons (Rows.one (OwnRows.rows hn159)) (one_cons (Row.one (Own.row ha160)) one_nil))) hB166 rfl rfl (fun w176 g177 hB178 => ?_)
      have hs179 := World.grownBy.size g177
      replace E := E.grown g177 (fun k hk => by injection hk with hk; subst hk; omega)
      replace hnX12 := hnX12.stored g177 hB166 (by decide) (by decide)
      replace haX13 := haX13.stored g177 hB166 (by decide)
      replace hB26 := hB26.grown g177 (by intro h; injection h with h; omega)
      replace hB33 := hB33.grown g177 (by intro h; injection h with h; omega)
      replace hB57 := hB57.grown g177 (by intro h; injection h with h; omega)
      replace hB78 := hB78.grown g177 (by intro h; injection h with h; omega)
      replace hn112 := hn112.stored g177 hB166 (by decide) (by decide)
      replace ha113 := ha113.stored g177 hB166 (by decide)
      replace hB119 := hB119.grown g177 (by intro h; injection h with h; omega)
      replace hn135 := hn135.stored g177 hB166 (by decide) (by decide)
      replace ha136 := ha136.stored g177 hB166 (by decide)
      replace hB142 := hB142.grown g177 (by intro h; injection h with h; omega)
      replace hn159 := hn159.stored g177 hB166 (by decide) (by decide)
      replace ha160 := ha160.stored g177 hB166 (by decide)
      replace hB166 := hB178
      refine Sq.assign .plain rfl rfl ?_
      refine Sq.nil ?_
      refine Eq.next ?_
      refine Cq.seq ?_
      refine Cq.region ?_
      refine Sq.loadAgg agg26 .plain rfl rfl hB26 rfl ?_
      refine Sq.loadAgg agg26 .plain rfl rfl hB26 rfl ?_
      refine Sq.call fn16 .plain rfl rfl (prod_c_T _ aX8 aX8 _ _ _ _ hnX12 haX13 hnX12 haX13 2 (by exact prod_self_ok hv (by decide))) ?_
      rintro _ w180 ⟨⟨_, rfl, nx182, ac183, rfl, hn184, ha185⟩, e181⟩
      have hs186 := Below.size E
      have hs187 := Below.size e181
      replace E := E.trans e181
      replace hB26 := hB26.ext e181
      replace hB33 := hB33.ext e181
      replace hB57 := hB57.ext e181
      replace hB78 := hB78.ext e181
      replace hn112 := hn112.ext e181
      replace ha113 := ha113.ext e181
      replace hB119 := hB119.ext e181
      replace hn135 := hn135.ext e181
      replace ha136 := ha136.ext e181
      replace hB142 := hB142.ext e181
      replace hn159 := hn159.ext e181
      replace ha160 := ha160.ext e181
      replace hB166 := hB166.ext e181
      refine Sq.move .plain rfl rfl ?_
      refine Sq.extract .plain rfl rfl rfl ?_
      refine Sq.extract .plain rfl rfl rfl ?_
      refine Sq.alloc zero26 .plain rfl (fun b188 w189 e190 hB191 hlo192 => ?_)
      have hd193 := Nat.le_trans (Below.size E) hlo192
      have hd194 := Nat.lt_of_lt_of_le hB26.lt hlo192
      have hd195 := Nat.lt_of_lt_of_le hB33.lt hlo192
      have hd196 := Nat.lt_of_lt_of_le hB57.lt hlo192
      have hd197 := Nat.lt_of_lt_of_le hB78.lt hlo192
      have hd198 := Nat.lt_of_lt_of_le hB119.lt hlo192
      have hd199 := Nat.lt_of_lt_of_le hB142.lt hlo192
      have hd200 := Nat.lt_of_lt_of_le hB166.lt hlo192
      have hs201 := Below.size e190
      replace E := E.trans e190
      replace hB26 := hB26.ext e190
      replace hB33 := hB33.ext e190
      replace hB57 := hB57.ext e190
      replace hB78 := hB78.ext e190
      replace hn112 := hn112.ext e190
      replace ha113 := ha113.ext e190
      replace hB119 := hB119.ext e190
      replace hn135 := hn135.ext e190
      replace ha136 := ha136.ext e190
      replace hB142 := hB142.ext e190
      replace hn159 := hn159.ext e190
      replace ha160 := ha160.ext e190
      replace hB166 := hB166.ext e190
      replace hn184 := hn184.ext e190
      replace ha185 := ha185.ext e190
      refine Sq.storeAgg agg26 .plain rfl rfl (one_cons rfl (one_cons (Rows.one (OwnRows.rows hn184)) (one_cons (Row.one (Own.row ha185)) one_nil))) hB191 rfl rfl (fun w202 g203 hB204 => ?_)
      have hs205 := World.grownBy.size g203
      replace E := E.grown g203 (fun k hk => by injection hk with hk; subst hk; omega)
      replace hB26 := hB26.grown g203 (by intro h; injection h with h; omega)
      replace hB33 := hB33.grown g203 (by intro h; injection h with h; omega)
      replace hB57 := hB57.grown g203 (by intro h; injection h with h; omega)
      replace hB78 := hB78.grown g203 (by intro h; injection h with h; omega)
      replace hn112 := hn112.stored g203 hB191 (by decide) (by decide)
      replace ha113 := ha113.stored g203 hB191 (by decide)
      replace hB119 := hB119.grown g203 (by intro h; injection h with h; omega)
      replace hn135 := hn135.stored g203 hB191 (by decide) (by decide)
      replace ha136 := ha136.stored g203 hB191 (by decide)
      replace hB142 := hB142.grown g203 (by intro h; injection h with h; omega)
      replace hn159 := hn159.stored g203 hB191 (by decide) (by decide)
      replace ha160 := ha160.stored g203 hB191 (by decide)
      replace hB166 := hB166.grown g203 (by intro h; injection h with h; omega)
      replace hn184 := hn184.stored g203 hB191 (by decide) (by decide)
      replace ha185 := ha185.stored g203 hB191 (by decide)
      replace hB191 := hB204
      refine Sq.assign .plain rfl rfl ?_
      refine Sq.nil ?_
      refine Eq.next ?_
      refine Cq.seq ?_
      refine Cq.region ?_
      refine Sq.loadAgg agg26 .plain rfl rfl hB191 rfl ?_
      have hd209 := hB26.lt
      have hd210 := hB33.lt
      have hd211 := hB57.lt
      have hd212 := hB78.lt
      have hd213 := hB119.lt
      have hd214 := hB142.lt
      have hd215 := hB166.lt
      have hd216 := hB191.lt
      refine Sq.call fn23 .plain rfl rfl (fAcc_c _ (prodA aX8 aX8 2) _ _ (OwnRows.rows hn184) (Own.row ha185)) ?_
      rintro _ w207 ⟨rfl, e208⟩
      have hs217 := Below.size E
      have hs218 := Below.size e208
      replace E := E.trans e208
      replace hB26 := hB26.ext e208
      replace hB33 := hB33.ext e208
      replace hB57 := hB57.ext e208
      replace hB78 := hB78.ext e208
      replace hn112 := hn112.ext e208
      replace ha113 := ha113.ext e208
      replace hB119 := hB119.ext e208
      replace hn135 := hn135.ext e208
      replace ha136 := ha136.ext e208
      replace hB142 := hB142.ext e208
      replace hn159 := hn159.ext e208
      replace ha160 := ha160.ext e208
      replace hB166 := hB166.ext e208
      replace hB191 := hB191.ext e208
      refine Sq.move .plain rfl rfl ?_
      refine Sq.extract .plain rfl rfl rfl ?_
      refine Sq.extract .plain rfl rfl rfl ?_
      refine Sq.assign .plain rfl rfl ?_
      refine Sq.assign .plain rfl rfl ?_
      refine Sq.nil ?_
      refine Eq.next ?_
      refine Cq.seq ?_
      refine Cq.region ?_
      refine Sq.move .plain rfl rfl ?_
      refine Sq.move .plain rfl rfl ?_
      refine Sq.move (.met rfl rfl rfl) rfl rfl ?_
      refine Sq.pickT .plain rfl rfl rfl ?_
      refine Sq.move .plain rfl rfl ?_
      refine Sq.move (.met rfl rfl rfl) rfl rfl ?_
      refine Sq.pickT .plain rfl rfl rfl ?_
      refine Sq.move .plain rfl rfl ?_
      refine Sq.move (.met rfl rfl rfl) rfl rfl ?_
      refine Sq.beF (prod_empty hv) ?_
      refine Sq.notF (.met rfl rfl rfl) rfl rfl ?_
      refine Sq.pickT .plain rfl rfl rfl ?_
      refine Sq.move .plain rfl rfl ?_
      refine Sq.loadAgg agg26 (.met rfl rfl rfl) rfl rfl hB142 rfl ?_
      refine Sq.loadAgg agg26 (.met rfl rfl rfl) rfl rfl hB119 rfl ?_
      have hd222 := hB26.lt
      have hd223 := hB33.lt
      have hd224 := hB57.lt
      have hd225 := hB78.lt
      have hd226 := hB119.lt
      have hd227 := hB142.lt
      have hd228 := hB166.lt
      have hd229 := hB191.lt
      refine Sq.call fn18 (.met rfl rfl rfl) rfl rfl (agAutomata_c _ (prodA aX8 aX8 0) (trim aX8) _ _ _ _ (OwnRows.rows hn135) (Own.row ha136) (OwnRows.rows hn112) (Own.row ha113) (by first | exact fit_zero | exact fit_of_valid (by first | assumption | exact extend_valid hv hk | exact compl_valid' (extend_valid hv hk) | exact trim_valid hv | exact prod_valid (prod_self_ok hv (by decide)) | exact prod_valid hC | exact prod_valid (prodOk_kind hC (by decide))) | assumption)) ?_
      rintro _ w220 ⟨rfl, e221⟩
      have hs230 := Below.size E
      have hs231 := Below.size e221
      replace E := E.trans e221
      replace hB26 := hB26.ext e221
      replace hB33 := hB33.ext e221
      replace hB57 := hB57.ext e221
      replace hB78 := hB78.ext e221
      replace hn112 := hn112.ext e221
      replace ha113 := ha113.ext e221
      replace hB119 := hB119.ext e221
      replace hB142 := hB142.ext e221
      replace hn159 := hn159.ext e221
      replace ha160 := ha160.ext e221
      replace hB166 := hB166.ext e221
      replace hB191 := hB191.ext e221
      refine Sq.beT (by rw [prod_both hv]; exact eqA_refl _) ?_
      refine Sq.pickT .plain rfl rfl rfl ?_
      refine Sq.move .plain rfl rfl ?_
      refine Sq.loadAgg agg26 (.met rfl rfl rfl) rfl rfl hB166 rfl ?_
      refine Sq.loadAgg agg26 (.met rfl rfl rfl) rfl rfl hB119 rfl ?_
      have hd235 := hB26.lt
      have hd236 := hB33.lt
      have hd237 := hB57.lt
      have hd238 := hB78.lt
      have hd239 := hB119.lt
      have hd240 := hB142.lt
      have hd241 := hB166.lt
      have hd242 := hB191.lt
      refine Sq.call fn18 (.met rfl rfl rfl) rfl rfl (agAutomata_c _ (prodA aX8 aX8 1) (trim aX8) _ _ _ _ (OwnRows.rows hn159) (Own.row ha160) (OwnRows.rows hn112) (Own.row ha113) (by first | exact fit_zero | exact fit_of_valid (by first | assumption | exact extend_valid hv hk | exact compl_valid' (extend_valid hv hk) | exact trim_valid hv | exact prod_valid (prod_self_ok hv (by decide)) | exact prod_valid hC | exact prod_valid (prodOk_kind hC (by decide))) | assumption)) ?_
      rintro _ w233 ⟨rfl, e234⟩
      have hs243 := Below.size E
      have hs244 := Below.size e234
      replace E := E.trans e234
      refine Sq.beT (by rw [prod_either hv]; exact eqA_refl _) ?_
      refine Sq.pickT .plain rfl rfl rfl ?_
      refine Sq.assign .plain rfl rfl ?_
      refine Sq.nil ?_
      refine Eq.next ?_
      refine Cq.ret ?_
      refine Eq.ret1 rfl rfl ?_
      exact ⟨rfl, E⟩
    refine Sq.notF (.met rfl rfl rfl) rfl rfl ?_
    refine Sq.pickF .plain rfl rfl rfl ?_
    refine Sq.nil ?_
    refine Eq.next ?_
    refine Cq.thn rfl ?_
    refine Cq.seq ?_
    refine Cq.region ?_
    refine Sq.loadAgg agg26 .plain rfl rfl hB57 rfl ?_
    refine Sq.loadAgg agg26 .plain rfl rfl hB78 rfl ?_
    have hd248 := hB26.lt
    have hd249 := hB33.lt
    have hd250 := hB57.lt
    have hd251 := hB78.lt
    refine Sq.call fn18 .plain rfl rfl (agAutomata_c _ (prodA aX8 aY9 k7) (prodA aX8 aY9 k7) _ _ _ _ (OwnRows.rows hn50) (Own.row ha51) (OwnRows.rows hn71) (Own.row ha72) (by first | exact fit_zero | exact fit_of_valid (by first | assumption | exact extend_valid hv hk | exact compl_valid' (extend_valid hv hk) | exact trim_valid hv | exact prod_valid (prod_self_ok hv (by decide)) | exact prod_valid hC | exact prod_valid (prodOk_kind hC (by decide))) | assumption)) ?_
    rintro _ w246 ⟨rfl, e247⟩
    have hs252 := Below.size E
    have hs253 := Below.size e247
    replace E := E.trans e247
    refine Sq.beT (by exact eqA_refl _) ?_
    refine Sq.move .plain rfl rfl ?_
    refine Sq.move (.met rfl rfl rfl) rfl rfl ?_
    refine Sq.move (.met rfl rfl rfl) rfl rfl ?_
    refine Sq.eqlB und4 (.met rfl rfl rfl) rfl rfl rfl ?_
    refine Sq.pickT .plain rfl rfl rfl ?_
    refine Sq.assign .plain rfl rfl ?_
    refine Sq.nil ?_
    refine Eq.next ?_
    refine Cq.ret ?_
    refine Eq.pastRet ?_
    refine Eq.ret1 rfl rfl ?_
    exact ⟨rfl, E⟩
  refine Sq.call fn16 .plain rfl rfl (prod_c_F _ aX8 aY9 _ _ _ _ hnX12 haX13 hnY16 haY17 k7 hC) ?_
  rintro _ w254 ⟨⟨_, rfl, nx256, ac257, rfl, hn258, ha259⟩, e255⟩
  have hs260 := Below.size E
  have hs261 := Below.size e255
  replace E := E.trans e255
  replace hnX12 := hnX12.ext e255
  replace haX13 := haX13.ext e255
  replace hnY16 := hnY16.ext e255
  replace haY17 := haY17.ext e255
  replace hB26 := hB26.ext e255
  replace hB33 := hB33.ext e255
  refine Sq.move .plain rfl rfl ?_
  refine Sq.extract .plain rfl rfl rfl ?_
  refine Sq.extract .plain rfl rfl rfl ?_
  refine Sq.alloc zero26 .plain rfl (fun b262 w263 e264 hB265 hlo266 => ?_)
  have hd267 := Nat.le_trans (Below.size E) hlo266
  have hd268 := Nat.lt_of_lt_of_le hB26.lt hlo266
  have hd269 := Nat.lt_of_lt_of_le hB33.lt hlo266
  have hs270 := Below.size e264
  replace E := E.trans e264
  replace hnX12 := hnX12.ext e264
  replace haX13 := haX13.ext e264
  replace hnY16 := hnY16.ext e264
  replace haY17 := haY17.ext e264
  replace hB26 := hB26.ext e264
  replace hB33 := hB33.ext e264
  replace hn258 := hn258.ext e264
  replace ha259 := ha259.ext e264
  refine Sq.storeAgg agg26 .plain rfl rfl (one_cons rfl (one_cons (Rows.one (OwnRows.rows hn258)) (one_cons (Row.one (Own.row ha259)) one_nil))) hB265 rfl rfl (fun w271 g272 hB273 => ?_)
  have hs274 := World.grownBy.size g272
  replace E := E.grown g272 (fun k hk => by injection hk with hk; subst hk; omega)
  replace hnX12 := hnX12.stored g272 hB265 (by decide) (by decide)
  replace haX13 := haX13.stored g272 hB265 (by decide)
  replace hnY16 := hnY16.stored g272 hB265 (by decide) (by decide)
  replace haY17 := haY17.stored g272 hB265 (by decide)
  replace hB26 := hB26.grown g272 (by intro h; injection h with h; omega)
  replace hB33 := hB33.grown g272 (by intro h; injection h with h; omega)
  replace hn258 := hn258.stored g272 hB265 (by decide) (by decide)
  replace ha259 := ha259.stored g272 hB265 (by decide)
  replace hB265 := hB273
  refine Sq.assign .plain rfl rfl ?_
  refine Sq.nil ?_
  refine Eq.next ?_
  refine Cq.seq ?_
  refine Cq.region ?_
  refine Sq.loadAgg agg26 .plain rfl rfl hB26 rfl ?_
  refine Sq.loadAgg agg26 .plain rfl rfl hB33 rfl ?_
  refine Sq.move .plain rfl rfl ?_
  refine Sq.call fn17 .plain rfl rfl (sProd_c_F _ aX8 aY9 _ _ _ _ hnX12 haX13 hnY16 haY17 k7 hC) ?_
  rintro _ w275 ⟨⟨_, rfl, nx277, ac278, rfl, hn279, ha280⟩, e276⟩
  have hs281 := Below.size E
  have hs282 := Below.size e276
  replace E := E.trans e276
  replace hnX12 := hnX12.ext e276
  replace haX13 := haX13.ext e276
  replace hB26 := hB26.ext e276
  replace hB33 := hB33.ext e276
  replace hn258 := hn258.ext e276
  replace ha259 := ha259.ext e276
  replace hB265 := hB265.ext e276
  refine Sq.move .plain rfl rfl ?_
  refine Sq.extract .plain rfl rfl rfl ?_
  refine Sq.extract .plain rfl rfl rfl ?_
  refine Sq.alloc zero26 .plain rfl (fun b283 w284 e285 hB286 hlo287 => ?_)
  have hd288 := Nat.le_trans (Below.size E) hlo287
  have hd289 := Nat.lt_of_lt_of_le hB26.lt hlo287
  have hd290 := Nat.lt_of_lt_of_le hB33.lt hlo287
  have hd291 := Nat.lt_of_lt_of_le hB265.lt hlo287
  have hs292 := Below.size e285
  replace E := E.trans e285
  replace hnX12 := hnX12.ext e285
  replace haX13 := haX13.ext e285
  replace hB26 := hB26.ext e285
  replace hB33 := hB33.ext e285
  replace hn258 := hn258.ext e285
  replace ha259 := ha259.ext e285
  replace hB265 := hB265.ext e285
  replace hn279 := hn279.ext e285
  replace ha280 := ha280.ext e285
  refine Sq.storeAgg agg26 .plain rfl rfl (one_cons rfl (one_cons (Rows.one (OwnRows.rows hn279)) (one_cons (Row.one (Own.row ha280)) one_nil))) hB286 rfl rfl (fun w293 g294 hB295 => ?_)
  have hs296 := World.grownBy.size g294
  replace E := E.grown g294 (fun k hk => by injection hk with hk; subst hk; omega)
  replace hnX12 := hnX12.stored g294 hB286 (by decide) (by decide)
  replace haX13 := haX13.stored g294 hB286 (by decide)
  replace hB26 := hB26.grown g294 (by intro h; injection h with h; omega)
  replace hB33 := hB33.grown g294 (by intro h; injection h with h; omega)
  replace hn258 := hn258.stored g294 hB286 (by decide) (by decide)
  replace ha259 := ha259.stored g294 hB286 (by decide)
  replace hB265 := hB265.grown g294 (by intro h; injection h with h; omega)
  replace hn279 := hn279.stored g294 hB286 (by decide) (by decide)
  replace ha280 := ha280.stored g294 hB286 (by decide)
  replace hB286 := hB295
  refine Sq.assign .plain rfl rfl ?_
  refine Sq.nil ?_
  refine Eq.next ?_
  refine Cq.seq ?_
  refine Cq.seq ?_
  refine Cq.region ?_
  refine Sq.loadAgg agg26 .plain rfl rfl hB265 rfl ?_
  refine Sq.loadAgg agg26 .plain rfl rfl hB286 rfl ?_
  have hd300 := hB26.lt
  have hd301 := hB33.lt
  have hd302 := hB265.lt
  have hd303 := hB286.lt
  refine Sq.call fn18 .plain rfl rfl (agAutomata_c _ zeroA zeroA _ _ _ _ (OwnRows.rows hn258) (Own.row ha259) (OwnRows.rows hn279) (Own.row ha280) (by first | exact fit_zero | exact fit_of_valid (by first | assumption | exact extend_valid hv hk | exact compl_valid' (extend_valid hv hk) | exact trim_valid hv | exact prod_valid (prod_self_ok hv (by decide)) | exact prod_valid hC | exact prod_valid (prodOk_kind hC (by decide))) | assumption)) ?_
  rintro _ w298 ⟨rfl, e299⟩
  have hs304 := Below.size E
  have hs305 := Below.size e299
  replace E := E.trans e299
  replace hnX12 := hnX12.ext e299
  replace haX13 := haX13.ext e299
  replace hB26 := hB26.ext e299
  replace hB33 := hB33.ext e299
  replace hn258 := hn258.ext e299
  replace ha259 := ha259.ext e299
  replace hB265 := hB265.ext e299
  replace hn279 := hn279.ext e299
  replace ha280 := ha280.ext e299
  replace hB286 := hB286.ext e299
  refine Sq.beT (by exact eqA_refl _) ?_
  refine Sq.notT .plain rfl rfl ?_
  refine Sq.move .plain rfl rfl ?_
  refine Sq.move (.met rfl rfl rfl) rfl rfl ?_
  refine Sq.move (.met rfl rfl rfl) rfl rfl ?_
  refine Sq.neqB und4 (.met rfl rfl rfl) rfl rfl rfl ?_
  refine Sq.pickF .plain rfl rfl rfl ?_
  refine Sq.move .plain rfl rfl ?_
  refine Sq.loadAgg agg26 (.met rfl rfl rfl) rfl rfl hB26 rfl ?_
  have hd309 := hB26.lt
  have hd310 := hB33.lt
  have hd311 := hB265.lt
  have hd312 := hB286.lt
  refine Sq.call fn22 (.met rfl rfl rfl) rfl rfl (valid_c _ aX8 _ _ hnX12 haX13) ?_
  rintro _ w307 ⟨rfl, e308⟩
  have hs313 := Below.size E
  have hs314 := Below.size e308
  replace E := E.trans e308
  replace hnX12 := hnX12.ext e308
  replace haX13 := haX13.ext e308
  replace hB26 := hB26.ext e308
  replace hB33 := hB33.ext e308
  replace hn258 := hn258.ext e308
  replace ha259 := ha259.ext e308
  replace hB265 := hB265.ext e308
  replace hn279 := hn279.ext e308
  replace ha280 := ha280.ext e308
  replace hB286 := hB286.ext e308
  refine Sq.partB (fun hv => ?_) (fun hv => ?_)
  · refine Sq.notT (.met rfl rfl rfl) rfl rfl ?_
    refine Sq.pickF .plain rfl rfl rfl ?_
    refine Sq.nil ?_
    refine Eq.next ?_
    refine Cq.els rfl ?_
    refine Cq.skip ?_
    refine Eq.next ?_
    refine Cq.seq ?_
    refine Cq.region ?_
    refine Sq.loadAgg agg26 .plain rfl rfl hB26 rfl ?_
    refine Sq.call fn19 .plain rfl rfl (trimA_c_T _ aX8 _ _ hnX12 haX13 (by exact hv)) ?_
    rintro _ w316 ⟨⟨_, rfl, nx318, ac319, rfl, hn320, ha321⟩, e317⟩
    have hs322 := Below.size E
    have hs323 := Below.size e317
    replace E := E.trans e317
    replace hnX12 := hnX12.ext e317
    replace haX13 := haX13.ext e317
    replace hB26 := hB26.ext e317
    replace hB33 := hB33.ext e317
    replace hB265 := hB265.ext e317
    replace hB286 := hB286.ext e317
    refine Sq.move .plain rfl rfl ?_
    refine Sq.extract .plain rfl rfl rfl ?_
    refine Sq.extract .plain rfl rfl rfl ?_
    refine Sq.alloc zero26 .plain rfl (fun b324 w325 e326 hB327 hlo328 => ?_)
    have hd329 := Nat.le_trans (Below.size E) hlo328
    have hd330 := Nat.lt_of_lt_of_le hB26.lt hlo328
    have hd331 := Nat.lt_of_lt_of_le hB33.lt hlo328
    have hd332 := Nat.lt_of_lt_of_le hB265.lt hlo328
    have hd333 := Nat.lt_of_lt_of_le hB286.lt hlo328
    have hs334 := Below.size e326
    replace E := E.trans e326
    replace hnX12 := hnX12.ext e326
    replace haX13 := haX13.ext e326
    replace hB26 := hB26.ext e326
    replace hB33 := hB33.ext e326
    replace hB265 := hB265.ext e326
    replace hB286 := hB286.ext e326
    replace hn320 := hn320.ext e326
    replace ha321 := ha321.ext e326
    refine Sq.storeAgg agg26 .plain rfl rfl (one_cons rfl (one_cons (Rows.one (OwnRows.rows hn320)) (one_cons (Row.one (Own.row ha321)) one_nil))) hB327 rfl rfl (fun w335 g336 hB337 => ?_)
    have hs338 := World.grownBy.size g336
    replace E := E.grown g336 (fun k hk => by injection hk with hk; subst hk; omega)
    replace hnX12 := hnX12.stored g336 hB327 (by decide) (by decide)
    replace haX13 := haX13.stored g336 hB327 (by decide)
    replace hB26 := hB26.grown g336 (by intro h; injection h with h; omega)
    replace hB33 := hB33.grown g336 (by intro h; injection h with h; omega)
    replace hB265 := hB265.grown g336 (by intro h; injection h with h; omega)
    replace hB286 := hB286.grown g336 (by intro h; injection h with h; omega)
    replace hn320 := hn320.stored g336 hB327 (by decide) (by decide)
    replace ha321 := ha321.stored g336 hB327 (by decide)
    replace hB327 := hB337
    refine Sq.assign .plain rfl rfl ?_
    refine Sq.nil ?_
    refine Eq.next ?_
    refine Cq.seq ?_
    refine Cq.region ?_
    refine Sq.loadAgg agg26 .plain rfl rfl hB26 rfl ?_
    refine Sq.loadAgg agg26 .plain rfl rfl hB26 rfl ?_
    refine Sq.call fn16 .plain rfl rfl (prod_c_T _ aX8 aX8 _ _ _ _ hnX12 haX13 hnX12 haX13 0 (by exact prod_self_ok hv (by decide))) ?_
    rintro _ w339 ⟨⟨_, rfl, nx341, ac342, rfl, hn343, ha344⟩, e340⟩
    have hs345 := Below.size E
    have hs346 := Below.size e340
    replace E := E.trans e340
    replace hnX12 := hnX12.ext e340
    replace haX13 := haX13.ext e340
    replace hB26 := hB26.ext e340
    replace hB33 := hB33.ext e340
    replace hB265 := hB265.ext e340
    replace hB286 := hB286.ext e340
    replace hn320 := hn320.ext e340
    replace ha321 := ha321.ext e340
    replace hB327 := hB327.ext e340
    refine Sq.move .plain rfl rfl ?_
    refine Sq.extract .plain rfl rfl rfl ?_
    refine Sq.extract .plain rfl rfl rfl ?_
    refine Sq.alloc zero26 .plain rfl (fun b347 w348 e349 hB350 hlo351 => ?_)
    have hd352 := Nat.le_trans (Below.size E) hlo351
    have hd353 := Nat.lt_of_lt_of_le hB26.lt hlo351
    have hd354 := Nat.lt_of_lt_of_le hB33.lt hlo351
    have hd355 := Nat.lt_of_lt_of_le hB265.lt hlo351
    have hd356 := Nat.lt_of_lt_of_le hB286.lt hlo351
    have hd357 := Nat.lt_of_lt_of_le hB327.lt hlo351
    have hs358 := Below.size e349
    replace E := E.trans e349
    replace hnX12 := hnX12.ext e349
    replace haX13 := haX13.ext e349
    replace hB26 := hB26.ext e349
    replace hB33 := hB33.ext e349
    replace hB265 := hB265.ext e349
    replace hB286 := hB286.ext e349
    replace hn320 := hn320.ext e349
    replace ha321 := ha321.ext e349
    replace hB327 := hB327.ext e349
    replace hn343 := hn343.ext e349
    replace ha344 := ha344.ext e349
    refine Sq.storeAgg agg26 .plain rfl rfl (one_cons rfl (one_cons (Rows.one (OwnRows.rows hn343)) (one_cons (Row.one (Own.row ha344)) one_nil))) hB350 rfl rfl (fun w359 g360 hB361 => ?_)
    have hs362 := World.grownBy.size g360
    replace E := E.grown g360 (fun k hk => by injection hk with hk; subst hk; omega)
    replace hnX12 := hnX12.stored g360 hB350 (by decide) (by decide)
    replace haX13 := haX13.stored g360 hB350 (by decide)
    replace hB26 := hB26.grown g360 (by intro h; injection h with h; omega)
    replace hB33 := hB33.grown g360 (by intro h; injection h with h; omega)
    replace hB265 := hB265.grown g360 (by intro h; injection h with h; omega)
    replace hB286 := hB286.grown g360 (by intro h; injection h with h; omega)
    replace hn320 := hn320.stored g360 hB350 (by decide) (by decide)
    replace ha321 := ha321.stored g360 hB350 (by decide)
    replace hB327 := hB327.grown g360 (by intro h; injection h with h; omega)
    replace hn343 := hn343.stored g360 hB350 (by decide) (by decide)
    replace ha344 := ha344.stored g360 hB350 (by decide)
    replace hB350 := hB361
    refine Sq.assign .plain rfl rfl ?_
    refine Sq.nil ?_
    refine Eq.next ?_
    refine Cq.seq ?_
    refine Cq.region ?_
    refine Sq.loadAgg agg26 .plain rfl rfl hB26 rfl ?_
    refine Sq.loadAgg agg26 .plain rfl rfl hB26 rfl ?_
    refine Sq.call fn16 .plain rfl rfl (prod_c_T _ aX8 aX8 _ _ _ _ hnX12 haX13 hnX12 haX13 1 (by exact prod_self_ok hv (by decide))) ?_
    rintro _ w363 ⟨⟨_, rfl, nx365, ac366, rfl, hn367, ha368⟩, e364⟩
    have hs369 := Below.size E
    have hs370 := Below.size e364
    replace E := E.trans e364
    replace hnX12 := hnX12.ext e364
    replace haX13 := haX13.ext e364
    replace hB26 := hB26.ext e364
    replace hB33 := hB33.ext e364
    replace hB265 := hB265.ext e364
    replace hB286 := hB286.ext e364
    replace hn320 := hn320.ext e364
    replace ha321 := ha321.ext e364
    replace hB327 := hB327.ext e364
    replace hn343 := hn343.ext e364
    replace ha344 := ha344.ext e364
    replace hB350 := hB350.ext e364
    refine Sq.move .plain rfl rfl ?_
    refine Sq.extract .plain rfl rfl rfl ?_
    refine Sq.extract .plain rfl rfl rfl ?_
    refine Sq.alloc zero26 .plain rfl (fun b371 w372 e373 hB374 hlo375 => ?_)
    have hd376 := Nat.le_trans (Below.size E) hlo375
    have hd377 := Nat.lt_of_lt_of_le hB26.lt hlo375
    have hd378 := Nat.lt_of_lt_of_le hB33.lt hlo375
    have hd379 := Nat.lt_of_lt_of_le hB265.lt hlo375
    have hd380 := Nat.lt_of_lt_of_le hB286.lt hlo375
    have hd381 := Nat.lt_of_lt_of_le hB327.lt hlo375
    have hd382 := Nat.lt_of_lt_of_le hB350.lt hlo375
    have hs383 := Below.size e373
    replace E := E.trans e373
    replace hnX12 := hnX12.ext e373
    replace haX13 := haX13.ext e373
    replace hB26 := hB26.ext e373
    replace hB33 := hB33.ext e373
    replace hB265 := hB265.ext e373
    replace hB286 := hB286.ext e373
    replace hn320 := hn320.ext e373
    replace ha321 := ha321.ext e373
    replace hB327 := hB327.ext e373
    replace hn343 := hn343.ext e373
    replace ha344 := ha344.ext e373
    replace hB350 := hB350.ext e373
    replace hn367 := hn367.ext e373
    replace ha368 := ha368.ext e373
    refine Sq.storeAgg agg26 .plain rfl rfl (one_cons rfl (one_cons (Rows.one (OwnRows.rows hn367)) (one_cons (Row.one (Own.row ha368)) one_nil))) hB374 rfl rfl (fun w384 g385 hB386 => ?_)
    have hs387 := World.grownBy.size g385
    replace E := E.grown g385 (fun k hk => by injection hk with hk; subst hk; omega)
    replace hnX12 := hnX12.stored g385 hB374 (by decide) (by decide)
    replace haX13 := haX13.stored g385 hB374 (by decide)
    replace hB26 := hB26.grown g385 (by intro h; injection h with h; omega)
    replace hB33 := hB33.grown g385 (by intro h; injection h with h; omega)
    replace hB265 := hB265.grown g385 (by intro h; injection h with h; omega)
    replace hB286 := hB286.grown g385 (by intro h; injection h with h; omega)
    replace hn320 := hn320.stored g385 hB374 (by decide) (by decide)
    replace ha321 := ha321.stored g385 hB374 (by decide)
    replace hB327 := hB327.grown g385 (by intro h; injection h with h; omega)
    replace hn343 := hn343.stored g385 hB374 (by decide) (by decide)
    replace ha344 := ha344.stored g385 hB374 (by decide)
    replace hB350 := hB350.grown g385 (by intro h; injection h with h; omega)
    replace hn367 := hn367.stored g385 hB374 (by decide) (by decide)
    replace ha368 := ha368.stored g385 hB374 (by decide)
    replace hB374 := hB386
    refine Sq.assign .plain rfl rfl ?_
    refine Sq.nil ?_
    refine Eq.next ?_
    refine Cq.seq ?_
    refine Cq.region ?_
    refine Sq.loadAgg agg26 .plain rfl rfl hB26 rfl ?_
    refine Sq.loadAgg agg26 .plain rfl rfl hB26 rfl ?_
    refine Sq.call fn16 .plain rfl rfl (prod_c_T _ aX8 aX8 _ _ _ _ hnX12 haX13 hnX12 haX13 2 (by exact prod_self_ok hv (by decide))) ?_
    rintro _ w388 ⟨⟨_, rfl, nx390, ac391, rfl, hn392, ha393⟩, e389⟩
    have hs394 := Below.size E
    have hs395 := Below.size e389
    replace E := E.trans e389
    replace hB26 := hB26.ext e389
    replace hB33 := hB33.ext e389
    replace hB265 := hB265.ext e389
    replace hB286 := hB286.ext e389
    replace hn320 := hn320.ext e389
    replace ha321 := ha321.ext e389
    replace hB327 := hB327.ext e389
    replace hn343 := hn343.ext e389
    replace ha344 := ha344.ext e389
    replace hB350 := hB350.ext e389
    replace hn367 := hn367.ext e389
    replace ha368 := ha368.ext e389
    replace hB374 := hB374.ext e389
    refine Sq.move .plain rfl rfl ?_
    refine Sq.extract .plain rfl rfl rfl ?_
    refine Sq.extract .plain rfl rfl rfl ?_
    refine Sq.alloc zero26 .plain rfl (fun b396 w397 e398 hB399 hlo400 => ?_)
    have hd401 := Nat.le_trans (Below.size E) hlo400
    have hd402 := Nat.lt_of_lt_of_le hB26.lt hlo400
    have hd403 := Nat.lt_of_lt_of_le hB33.lt hlo400
    have hd404 := Nat.lt_of_lt_of_le hB265.lt hlo400
    have hd405 := Nat.lt_of_lt_of_le hB286.lt hlo400
    have hd406 := Nat.lt_of_lt_of_le hB327.lt hlo400
    have hd407 := Nat.lt_of_lt_of_le hB350.lt hlo400
    have hd408 := Nat.lt_of_lt_of_le hB374.lt hlo400
    have hs409 := Below.size e398
    replace E := E.trans e398
    replace hB26 := hB26.ext e398
    replace hB33 := hB33.ext e398
    replace hB265 := hB265.ext e398
    replace hB286 := hB286.ext e398
    replace hn320 := hn320.ext e398
    replace ha321 := ha321.ext e398
    replace hB327 := hB327.ext e398
    replace hn343 := hn343.ext e398
    replace ha344 := ha344.ext e398
    replace hB350 := hB350.ext e398
    replace hn367 := hn367.ext e398
    replace ha368 := ha368.ext e398
    replace hB374 := hB374.ext e398
    replace hn392 := hn392.ext e398
    replace ha393 := ha393.ext e398
    refine Sq.storeAgg agg26 .plain rfl rfl (one_cons rfl (one_cons (Rows.one (OwnRows.rows hn392)) (one_cons (Row.one (Own.row ha393)) one_nil))) hB399 rfl rfl (fun w410 g411 hB412 => ?_)
    have hs413 := World.grownBy.size g411
    replace E := E.grown g411 (fun k hk => by injection hk with hk; subst hk; omega)
    replace hB26 := hB26.grown g411 (by intro h; injection h with h; omega)
    replace hB33 := hB33.grown g411 (by intro h; injection h with h; omega)
    replace hB265 := hB265.grown g411 (by intro h; injection h with h; omega)
    replace hB286 := hB286.grown g411 (by intro h; injection h with h; omega)
    replace hn320 := hn320.stored g411 hB399 (by decide) (by decide)
    replace ha321 := ha321.stored g411 hB399 (by decide)
    replace hB327 := hB327.grown g411 (by intro h; injection h with h; omega)
    replace hn343 := hn343.stored g411 hB399 (by decide) (by decide)
    replace ha344 := ha344.stored g411 hB399 (by decide)
    replace hB350 := hB350.grown g411 (by intro h; injection h with h; omega)
    replace hn367 := hn367.stored g411 hB399 (by decide) (by decide)
    replace ha368 := ha368.stored g411 hB399 (by decide)
    replace hB374 := hB374.grown g411 (by intro h; injection h with h; omega)
    replace hn392 := hn392.stored g411 hB399 (by decide) (by decide)
    replace ha393 := ha393.stored g411 hB399 (by decide)
    replace hB399 := hB412
    refine Sq.assign .plain rfl rfl ?_
    refine Sq.nil ?_
    refine Eq.next ?_
    refine Cq.seq ?_
    refine Cq.region ?_
    refine Sq.loadAgg agg26 .plain rfl rfl hB399 rfl ?_
    have hd417 := hB26.lt
    have hd418 := hB33.lt
    have hd419 := hB265.lt
    have hd420 := hB286.lt
    have hd421 := hB327.lt
    have hd422 := hB350.lt
    have hd423 := hB374.lt
    have hd424 := hB399.lt
    refine Sq.call fn23 .plain rfl rfl (fAcc_c _ (prodA aX8 aX8 2) _ _ (OwnRows.rows hn392) (Own.row ha393)) ?_
    rintro _ w415 ⟨rfl, e416⟩
    have hs425 := Below.size E
    have hs426 := Below.size e416
    replace E := E.trans e416
    replace hB26 := hB26.ext e416
    replace hB33 := hB33.ext e416
    replace hB265 := hB265.ext e416
    replace hB286 := hB286.ext e416
    replace hn320 := hn320.ext e416
    replace ha321 := ha321.ext e416
    replace hB327 := hB327.ext e416
    replace hn343 := hn343.ext e416
    replace ha344 := ha344.ext e416
    replace hB350 := hB350.ext e416
    replace hn367 := hn367.ext e416
    replace ha368 := ha368.ext e416
    replace hB374 := hB374.ext e416
    replace hB399 := hB399.ext e416
    refine Sq.move .plain rfl rfl ?_
    refine Sq.extract .plain rfl rfl rfl ?_
    refine Sq.extract .plain rfl rfl rfl ?_
    refine Sq.assign .plain rfl rfl ?_
    refine Sq.assign .plain rfl rfl ?_
    refine Sq.nil ?_
    refine Eq.next ?_
    refine Cq.seq ?_
    refine Cq.region ?_
    refine Sq.move .plain rfl rfl ?_
    refine Sq.move .plain rfl rfl ?_
    refine Sq.move (.met rfl rfl rfl) rfl rfl ?_
    refine Sq.pickT .plain rfl rfl rfl ?_
    refine Sq.move .plain rfl rfl ?_
    refine Sq.move (.met rfl rfl rfl) rfl rfl ?_
    refine Sq.pickT .plain rfl rfl rfl ?_
    refine Sq.move .plain rfl rfl ?_
    refine Sq.move (.met rfl rfl rfl) rfl rfl ?_
    refine Sq.beF (prod_empty hv) ?_
    refine Sq.notF (.met rfl rfl rfl) rfl rfl ?_
    refine Sq.pickT .plain rfl rfl rfl ?_
    refine Sq.move .plain rfl rfl ?_
    refine Sq.loadAgg agg26 (.met rfl rfl rfl) rfl rfl hB350 rfl ?_
    refine Sq.loadAgg agg26 (.met rfl rfl rfl) rfl rfl hB327 rfl ?_
    have hd430 := hB26.lt
    have hd431 := hB33.lt
    have hd432 := hB265.lt
    have hd433 := hB286.lt
    have hd434 := hB327.lt
    have hd435 := hB350.lt
    have hd436 := hB374.lt
    have hd437 := hB399.lt
    refine Sq.call fn18 (.met rfl rfl rfl) rfl rfl (agAutomata_c _ (prodA aX8 aX8 0) (trim aX8) _ _ _ _ (OwnRows.rows hn343) (Own.row ha344) (OwnRows.rows hn320) (Own.row ha321) (by first | exact fit_zero | exact fit_of_valid (by first | assumption | exact extend_valid hv hk | exact compl_valid' (extend_valid hv hk) | exact trim_valid hv | exact prod_valid (prod_self_ok hv (by decide)) | exact prod_valid hC | exact prod_valid (prodOk_kind hC (by decide))) | assumption)) ?_
    rintro _ w428 ⟨rfl, e429⟩
    have hs438 := Below.size E
    have hs439 := Below.size e429
    replace E := E.trans e429
    replace hB26 := hB26.ext e429
    replace hB33 := hB33.ext e429
    replace hB265 := hB265.ext e429
    replace hB286 := hB286.ext e429
    replace hn320 := hn320.ext e429
    replace ha321 := ha321.ext e429
    replace hB327 := hB327.ext e429
    replace hB350 := hB350.ext e429
    replace hn367 := hn367.ext e429
    replace ha368 := ha368.ext e429
    replace hB374 := hB374.ext e429
    replace hB399 := hB399.ext e429
    refine Sq.beT (by rw [prod_both hv]; exact eqA_refl _) ?_
    refine Sq.pickT .plain rfl rfl rfl ?_
    refine Sq.move .plain rfl rfl ?_
    refine Sq.loadAgg agg26 (.met rfl rfl rfl) rfl rfl hB374 rfl ?_
    refine Sq.loadAgg agg26 (.met rfl rfl rfl) rfl rfl hB327 rfl ?_
    have hd443 := hB26.lt
    have hd444 := hB33.lt
    have hd445 := hB265.lt
    have hd446 := hB286.lt
    have hd447 := hB327.lt
    have hd448 := hB350.lt
    have hd449 := hB374.lt
    have hd450 := hB399.lt
    refine Sq.call fn18 (.met rfl rfl rfl) rfl rfl (agAutomata_c _ (prodA aX8 aX8 1) (trim aX8) _ _ _ _ (OwnRows.rows hn367) (Own.row ha368) (OwnRows.rows hn320) (Own.row ha321) (by first | exact fit_zero | exact fit_of_valid (by first | assumption | exact extend_valid hv hk | exact compl_valid' (extend_valid hv hk) | exact trim_valid hv | exact prod_valid (prod_self_ok hv (by decide)) | exact prod_valid hC | exact prod_valid (prodOk_kind hC (by decide))) | assumption)) ?_
    rintro _ w441 ⟨rfl, e442⟩
    have hs451 := Below.size E
    have hs452 := Below.size e442
    replace E := E.trans e442
    refine Sq.beT (by rw [prod_either hv]; exact eqA_refl _) ?_
    refine Sq.pickT .plain rfl rfl rfl ?_
    refine Sq.assign .plain rfl rfl ?_
    refine Sq.nil ?_
    refine Eq.next ?_
    refine Cq.ret ?_
    refine Eq.ret1 rfl rfl ?_
    exact ⟨rfl, E⟩
  refine Sq.notF (.met rfl rfl rfl) rfl rfl ?_
  refine Sq.pickF .plain rfl rfl rfl ?_
  refine Sq.nil ?_
  refine Eq.next ?_
  refine Cq.thn rfl ?_
  refine Cq.seq ?_
  refine Cq.region ?_
  refine Sq.loadAgg agg26 .plain rfl rfl hB265 rfl ?_
  refine Sq.loadAgg agg26 .plain rfl rfl hB286 rfl ?_
  have hd456 := hB26.lt
  have hd457 := hB33.lt
  have hd458 := hB265.lt
  have hd459 := hB286.lt
  refine Sq.call fn18 .plain rfl rfl (agAutomata_c _ zeroA zeroA _ _ _ _ (OwnRows.rows hn258) (Own.row ha259) (OwnRows.rows hn279) (Own.row ha280) (by first | exact fit_zero | exact fit_of_valid (by first | assumption | exact extend_valid hv hk | exact compl_valid' (extend_valid hv hk) | exact trim_valid hv | exact prod_valid (prod_self_ok hv (by decide)) | exact prod_valid hC | exact prod_valid (prodOk_kind hC (by decide))) | assumption)) ?_
  rintro _ w454 ⟨rfl, e455⟩
  have hs460 := Below.size E
  have hs461 := Below.size e455
  replace E := E.trans e455
  refine Sq.beT (by exact eqA_refl _) ?_
  refine Sq.move .plain rfl rfl ?_
  refine Sq.move (.met rfl rfl rfl) rfl rfl ?_
  refine Sq.move (.met rfl rfl rfl) rfl rfl ?_
  refine Sq.eqlB und4 (.met rfl rfl rfl) rfl rfl rfl ?_
  refine Sq.pickT .plain rfl rfl rfl ?_
  refine Sq.assign .plain rfl rfl ?_
  refine Sq.nil ?_
  refine Eq.next ?_
  refine Cq.ret ?_
  refine Eq.pastRet ?_
  refine Eq.ret1 rfl rfl ?_
  exact ⟨rfl, E⟩
end Go.Proofs.Ytdejmfkpohgamaa
set_option linter.unusedSimpArgs false
set_option linter.unusedVariables false
namespace Go.Proofs.Ytdejmfkpohgamaa
open Go.RowKit
set_option maxRecDepth 100000 in
theorem safety_c (w0 : World) (a : A) (nx ac : Value) (hnx : Rows w0 56 3 nx a.next) (hac : Bools w0 4 ac a.acc) : Ret Try.prog 28 #[Value.agg #[Value.int .i64 a.al, nx, ac]] w0 (fun v w => (∃ u, v = .tuple #[u, .bool (validA a)] ∧ OwnA w w0.heap.size u (if validA a then safe a else zeroA)) ∧ Ext w0 w) := by
  have E := Ext.refl w0
  refine Ret.of (args := [Value.agg #[Value.int .i64 a.al, nx, ac]]) Try.func28 rfl rfl rfl ?_
  rintro _ rfl
  show Cq _ _ _ _ [(0, Value.agg #[Value.int .i64 a.al, nx, ac])] _
  refine Cq.seq ?_
  refine Cq.region ?_
  refine Sq.box .plain rfl rfl (fun b1 w2 e3 hB4 hlo5 => ?_)
  have hd6 := Nat.le_trans (Below.size E) hlo5
  have hs7 := Below.size e3
  replace E := E.trans e3
  refine Sq.alloc zero26 .plain rfl (fun b8 w9 e10 hB11 hlo12 => ?_)
  have hd13 := Nat.le_trans (Below.size E) hlo12
  have hd14 := Nat.lt_of_lt_of_le hB4.lt hlo12
  have hs15 := Below.size e10
  replace E := E.trans e10
  replace hB4 := hB4.ext e10
  refine Sq.assign .plain rfl rfl ?_
  refine Sq.nil ?_
  refine Eq.next ?_
  refine Cq.seq ?_
  refine Cq.seq ?_
  refine Cq.region ?_
  refine Sq.loadAgg agg26 .plain rfl rfl hB4 rfl ?_
  have hd19 := hB4.lt
  have hd20 := hB11.lt
  refine Sq.call fn22 .plain rfl rfl (valid_c _ a _ _ (hnx.ext E) (hac.ext E)) ?_
  rintro _ w17 ⟨rfl, e18⟩
  have hs21 := Below.size E
  have hs22 := Below.size e18
  replace E := E.trans e18
  replace hB4 := hB4.ext e18
  replace hB11 := hB11.ext e18
  refine Sq.partB (fun hv => ?_) (fun hv => ?_)
  · refine Sq.notT .plain rfl rfl ?_
    refine Sq.nil ?_
    refine Eq.next ?_
    refine Cq.els rfl ?_
    refine Cq.skip ?_
    refine Eq.next ?_
    refine Cq.seq ?_
    refine Cq.region ?_
    refine Sq.loadAgg agg26 .plain rfl rfl hB4 rfl ?_
    have hd30 := hB4.lt
    have hd31 := hB11.lt
    refine Sq.call fn62 .plain rfl rfl (copyA_c _ a _ _ (hnx.ext E) (hac.ext E) (fit_of_valid hv)) ?_
    rintro _ w24 ⟨⟨nx26, ac27, rfl, hn28, ha29⟩, e25⟩
    have hs32 := Below.size E
    have hs33 := Below.size e25
    replace E := E.trans e25
    replace hB4 := hB4.ext e25
    replace hB11 := hB11.ext e25
    refine Sq.alloc zero26 .plain rfl (fun b34 w35 e36 hB37 hlo38 => ?_)
    have hd39 := Nat.le_trans (Below.size E) hlo38
    have hd40 := Nat.lt_of_lt_of_le hB4.lt hlo38
    have hd41 := Nat.lt_of_lt_of_le hB11.lt hlo38
    have hs42 := Below.size e36
    replace E := E.trans e36
    replace hB4 := hB4.ext e36
    replace hB11 := hB11.ext e36
    replace hn28 := hn28.ext e36
    replace ha29 := ha29.ext e36
    refine Sq.storeAgg agg26 .plain rfl rfl (one_cons rfl (one_cons (Rows.one (OwnRows.rows hn28)) (one_cons (Row.one (Own.row ha29)) one_nil))) hB37 rfl rfl (fun w43 g44 hB45 => ?_)
    have hs46 := World.grownBy.size g44
    replace E := E.grown g44 (fun k hk => by injection hk with hk; subst hk; omega)
    replace hB4 := hB4.grown g44 (by intro h; injection h with h; omega)
    replace hB11 := hB11.grown g44 (by intro h; injection h with h; omega)
    replace hn28 := hn28.stored g44 hB37 (by decide) (by decide)
    replace ha29 := ha29.stored g44 hB37 (by decide)
    replace hB37 := hB45
    refine Sq.nil ?_
    refine Eq.next ?_
    refine Cq.seq ?_
    refine Cq.seq ?_
    refine Cq.region ?_
    refine Sq.fieldAddr fld26_1 .plain rfl rfl ?_
    refine Sq.loadB one23 .plain rfl rfl hB37 rfl ?_
    refine Sq.lenRows (OwnRows.rows hn28) .plain rfl und23 rfl ?_
    refine Sq.move .plain rfl rfl ?_
    refine Sq.nil ?_
    refine Eq.next ?_
    refine Cq.block ?_
    have hvs := validA_spec.1 hv
    have hv1 := hvs.2.1
    have hv2 := hvs.2.2.1
    refine Cq.loop (fun nn w ls => ∃ (i : Int), ∃ (xss : List (List Int)), ls = [(1, Value.pointer (some ⟨b1, 0, none⟩)), (2, Value.pointer (some ⟨b8, 0, none⟩)), (4, Value.pointer (some ⟨b34, 0, none⟩)), (15, nx26), (16, Value.int .i64 (List.length a.next : Int)), (17, Value.int .i64 i)] ∧ (0 ≤ i ∧ i ≤ a.next.length) ∧ OwnRows w w0.heap.size w.heap.size 56 3 nx26 xss ∧ SafeAt a i.toNat 0 xss ∧ Ext w0 w ∧ Blk w b1 26 [Value.int .i64 a.al, nx, ac] ∧ Blk w b8 26 [Value.int .i64 0, Value.slice none 0 0, Value.slice none 0 0] ∧ Blk w b34 26 [Value.int .i64 a.al, nx26, ac27] ∧ Own w w17.heap.size 4 ac27 (a.acc.map Value.bool) ∧ nn = ((a.next.length : Int) - i).toNat) _ _ ⟨0, _, rfl, by omega, OwnRows.mono (OwnRows.now hn28) (by omega), SafeAt.zero a, E, hB4, hB11, hB37, ha29, rfl⟩ (.cons rfl (.cons rfl (.cons rfl (.cons rfl (.cons rfl (.cons rfl (.nil))))))) ?_
    rintro nn wl1 ls ⟨i, xss, rfl, hi, hn28, hsf, E, hB4, hB11, hB37, ha29, rfl⟩
    have hs47 := Below.size E
    have hxl := hsf.1
    have hr6 := valid_row6 hv (k := i.toNat)
    refine Cq.seq ?_
    refine Cq.region ?_
    refine Sq.lss .plain rfl rfl rfl ?_
    refine Sq.part (fun c48 => ?_) (fun c48 => ?_)
    · refine Sq.nil ?_
      refine Eq.next ?_
      refine Cq.seq ?_
      refine Cq.thn rfl ?_
      refine Cq.skip ?_
      refine Eq.next ?_
      refine Cq.seq ?_
      refine Cq.block ?_
      refine Cq.seq ?_
      refine Cq.region ?_
      refine Sq.move .plain rfl rfl ?_
      obtain ⟨pA, rA, hpA, _⟩ := Rows.at (OwnRows.rows hn28) (i := i) (by omega) (by omega)
      refine Sq.val .plain rfl rfl (Still.at' sl23 hpA rfl rfl) ?_
      refine Sq.val .plain rfl rfl (Still.loadA one56 rfl hpA.1) ?_
      refine Sq.assign .plain rfl rfl ?_
      refine Sq.assign .plain rfl rfl ?_
      refine Sq.nil ?_
      refine Eq.next ?_
      refine Cq.seq ?_
      refine Cq.region ?_
      refine Sq.move .plain rfl rfl ?_
      have hrA0 := (OwnRows.rowAt hn28 hpA).1
      have hlen0 := (hsf.2 i.toNat (by omega)).1
      refine Sq.lenInts (Own.row hrA0) .plain rfl und56 rfl ?_
      refine Sq.move .plain rfl rfl ?_
      refine Sq.nil ?_
      refine Eq.next ?_
      refine Cq.block ?_
      refine Cq.loop (fun nn w ls => ∃ (j : Int), ∃ (yss : List (List Int)), ls = [(1, Value.pointer (some ⟨b1, 0, none⟩)), (2, Value.pointer (some ⟨b8, 0, none⟩)), (4, Value.pointer (some ⟨b34, 0, none⟩)), (15, nx26), (16, Value.int .i64 (List.length a.next : Int)), (17, Value.int .i64 i), (5, Value.int .i64 i), (6, rA), (23, Value.int .i64 ((List.length (xss.getD i.toNat []) : Int))), (24, Value.int .i64 j)] ∧ (0 ≤ j ∧ j ≤ (a.next.getD i.toNat []).length) ∧ wl1.heap.size ≤ w.heap.size ∧ OwnRows w w0.heap.size w.heap.size 56 3 nx26 yss ∧ At w 56 nx26 i pA rA ∧ SafeAt a i.toNat j.toNat yss ∧ Ext w0 w ∧ Blk w b1 26 [Value.int .i64 a.al, nx, ac] ∧ Blk w b8 26 [Value.int .i64 0, Value.slice none 0 0, Value.slice none 0 0] ∧ Blk w b34 26 [Value.int .i64 a.al, nx26, ac27] ∧ Own w w17.heap.size 4 ac27 (a.acc.map Value.bool) ∧ nn = (((a.next.getD i.toNat []).length : Int) - j).toNat) _ _ ⟨0, _, rfl, by omega, by omega, OwnRows.now hn28, hpA, hsf, E, hB4, hB11, hB37, ha29, rfl⟩ (.cons rfl (.cons rfl (.cons rfl (.cons rfl (.cons rfl (.cons rfl (.cons rfl (.cons rfl (.cons rfl (.cons rfl (.nil))))))))))) ?_
      rintro nn wl2 ls ⟨j, yss, rfl, hj, hsz, hn28, hpA, hsf2, E, hB4, hB11, hB37, ha29, rfl⟩
      have hs49 := Below.size E
      have hly := (hsf2.2 i.toNat (by omega)).1
      refine Cq.seq ?_
      refine Cq.region ?_
      refine Sq.lss .plain rfl rfl rfl ?_
      refine Sq.part (fun c50 => ?_) (fun c50 => ?_)
      · refine Sq.nil ?_
        refine Eq.next ?_
        refine Cq.seq ?_
        refine Cq.thn rfl ?_
        refine Cq.skip ?_
        refine Eq.next ?_
        refine Cq.seq ?_
        refine Cq.block ?_
        refine Cq.seq ?_
        refine Cq.region ?_
        refine Sq.move .plain rfl rfl ?_
        refine Sq.assign .plain rfl rfl ?_
        refine Sq.nil ?_
        refine Eq.next ?_
        refine Cq.seq ?_
        refine Cq.region ?_
        refine Sq.fieldAddr fld26_2 .plain rfl rfl ?_
        refine Sq.loadB one24 .plain rfl rfl hB4 rfl ?_
        refine Sq.move .plain rfl rfl ?_
        refine Sq.idxBools sl24 one4 (hac.ext E) .plain rfl rfl rfl .plain rfl rfl (by omega) (by omega) ?_
        refine Sq.partB (fun hac => ?_) (fun hac => ?_)
        · refine Sq.notT .plain rfl rfl ?_
          refine Sq.nil ?_
          refine Eq.next ?_
          refine Cq.els rfl ?_
          refine Cq.skip ?_
          refine Eq.end ?_
          refine Eq.next ?_
          refine Cq.region ?_
          refine Sq.add .plain rfl rfl rfl (by omega) ?_
          refine Sq.move .plain rfl rfl ?_
          refine Sq.nil ?_
          have e1 := toNat_succ hj.1
          refine Eq.round _ _ ⟨j + 1, _, rfl, by omega, by omega, OwnRows.now hn28, hpA, by rw [e1]; exact hsf2.skip hac, E, hB4, hB11, hB37, ha29, rfl⟩ (by omega) (.cons rfl (.cons rfl (.cons rfl (.cons rfl (.cons rfl (.cons rfl (.cons rfl (.cons rfl (.cons rfl (.cons rfl (.nil)))))))))))
        refine Sq.notF .plain rfl rfl ?_
        refine Sq.nil ?_
        refine Eq.next ?_
        refine Cq.thn rfl ?_
        refine Cq.region ?_
        refine Sq.move .plain rfl rfl ?_
        refine Sq.move .plain rfl rfl ?_
        refine Sq.move .plain rfl rfl ?_
        have hr51 := (OwnRows.rowAt hn28 hpA).1
        obtain ⟨p52, hp53o⟩ := Own.at hr51 (i := j) (by omega) (by first | (simp only [List.length_map]; omega) | (simp; omega))
        refine Sq.atO sl56 hp53o .plain rfl rfl rfl ?_
        refine Sq.storeO one3 hr51 hp53o .plain rfl rfl rfl (fun w54 g55 ho56 => ?_)
        have hs57 := World.grownBy.size g55
        rw [← List.map_set] at ho56
        obtain ⟨hX1, hA1⟩ := OwnRows.set hn28 (by decide) hpA ho56 g55
        replace hn28 := hX1
        replace hpA := hA1
        replace E := E.owned hr51 g55 (by omega)
        replace hB4 := hB4.owned hr51 g55 (by decide)
        replace hB11 := hB11.owned hr51 g55 (by decide)
        replace hB37 := hB37.owned hr51 g55 (by decide)
        replace ha29 := ha29.owned hr51 g55 (by decide)
        refine Sq.nil ?_
        refine Eq.end ?_
        refine Eq.next ?_
        refine Cq.region ?_
        refine Sq.add .plain rfl rfl rfl (by omega) ?_
        refine Sq.move .plain rfl rfl ?_
        refine Sq.nil ?_
        have e1 := toNat_succ hj.1
        have e2 := hsf2.step (by omega) (by omega) hac
        rw [Int.toNat_of_nonneg hi.1] at e2
        refine Eq.round _ _ ⟨j + 1, _, rfl, by omega, by omega, OwnRows.now hn28, hpA, by rw [e1]; exact e2, E, hB4, hB11, hB37, ha29, rfl⟩ (by omega) (.cons rfl (.cons rfl (.cons rfl (.cons rfl (.cons rfl (.cons rfl (.cons rfl (.cons rfl (.cons rfl (.cons rfl (.nil)))))))))))
      refine Sq.nil ?_
      refine Eq.next ?_
      refine Cq.seq ?_
      refine Cq.els rfl ?_
      refine Cq.exit ?_
      refine Eq.past ?_
      refine Eq.past ?_
      refine Eq.hit ?_
      refine Eq.end ?_
      refine Eq.next ?_
      refine Cq.region ?_
      refine Sq.add .plain rfl rfl rfl (by omega) ?_
      refine Sq.move .plain rfl rfl ?_
      refine Sq.nil ?_
      have e1 := toNat_succ hi.1
      refine Eq.round _ _ ⟨i + 1, _, rfl, by omega, OwnRows.now hn28, by rw [e1]; exact hsf2.next (.inl (by omega)), E, hB4, hB11, hB37, ha29, rfl⟩ (by omega) (.cons rfl (.cons rfl (.cons rfl (.cons rfl (.cons rfl (.cons rfl (.nil)))))))
    refine Sq.nil ?_
    refine Eq.next ?_
    refine Cq.seq ?_
    refine Cq.els rfl ?_
    refine Cq.exit ?_
    refine Eq.past ?_
    refine Eq.past ?_
    refine Eq.hit ?_
    refine Eq.next ?_
    refine Cq.seq ?_
    refine Cq.region ?_
    refine Sq.loadAgg agg26 .plain rfl rfl hB37 rfl ?_
    refine Sq.storeAgg agg26 .plain rfl rfl (one_cons rfl (one_cons (Rows.one (OwnRows.rows hn28)) (one_cons (Row.one (Own.row ha29)) one_nil))) hB11 rfl rfl (fun w58 g59 hB60 => ?_)
    have hs61 := World.grownBy.size g59
    replace E := E.grown g59 (fun k hk => by injection hk with hk; subst hk; omega)
    replace ha29 := ha29.stored g59 hB11 (by decide)
    replace hn28 := hn28.stored g59 hB11 (by decide) (by decide)
    replace hB11 := hB60
    refine Sq.assign .plain rfl rfl ?_
    refine Sq.nil ?_
    refine Eq.next ?_
    refine Cq.ret ?_
    refine Eq.retCell2 rfl rfl agg26 hB11 rfl rfl ?_
    have e := hsf.done (by omega)
    rw [e] at hn28
    exact ⟨⟨_, by rw [hv], by rw [if_pos hv]; exact ⟨_, _, rfl, OwnRows.now (OwnRows.mono hn28 (by omega)), Own.mono ha29 (by omega)⟩⟩, E⟩
  refine Sq.notF .plain rfl rfl ?_
  refine Sq.nil ?_
  refine Eq.next ?_
  refine Cq.thn rfl ?_
  refine Cq.seq ?_
  refine Cq.region ?_
  refine Sq.build st26 rfl rfl .plain rfl rfl one_nil rfl ?_
  refine Sq.storeAgg agg26 .plain rfl rfl (one_cons rfl (one_cons rfl (one_cons rfl one_nil))) hB11 rfl rfl (fun w62 g63 hB64 => ?_)
  have hs65 := World.grownBy.size g63
  replace E := E.grown g63 (fun k hk => by injection hk with hk; subst hk; omega)
  replace hB11 := hB64
  refine Sq.assign .plain rfl rfl ?_
  refine Sq.nil ?_
  refine Eq.next ?_
  refine Cq.ret ?_
  refine Eq.pastRet ?_
  refine Eq.retCell2 rfl rfl agg26 hB11 rfl rfl ?_
  exact ⟨⟨_, by rw [hv], by rw [if_neg (by simp [hv])]; exact ⟨_, _, rfl, OwnRows.nil _ _ _ _ _, Own.nil _ _ _⟩⟩, E⟩
theorem safety_c_T (w0 : World) (a : A) (nx ac : Value) (hnx : Rows w0 56 3 nx a.next) (hac : Bools w0 4 ac a.acc) (hC : (validA a) = true) : Ret Try.prog 28 #[Value.agg #[Value.int .i64 a.al, nx, ac]] w0 (fun v w => (∃ u, v = .tuple #[u, .bool true] ∧ OwnA w w0.heap.size u (safe a)) ∧ Ext w0 w) :=
  (safety_c w0 a nx ac hnx hac).mono fun v w h => by rw [hC, if_pos rfl] at h; exact h
end Go.Proofs.Ytdejmfkpohgamaa
set_option linter.unusedSimpArgs false
set_option linter.unusedVariables false
namespace Go.Proofs.Ytdejmfkpohgamaa
open Go.RowKit
set_option maxRecDepth 100000 in
theorem isPC_c (w0 : World) (a : A) (nx ac : Value) (hnx : Rows w0 56 3 nx a.next) (hac : Bools w0 4 ac a.acc) : Ret Try.prog 29 #[Value.agg #[Value.int .i64 a.al, nx, ac]] w0 (fun v w => v = .bool (isPC a) ∧ Ext w0 w) := by
  have E := Ext.refl w0
  refine Ret.of (args := [Value.agg #[Value.int .i64 a.al, nx, ac]]) Try.func29 rfl rfl rfl ?_
  rintro _ rfl
  show Cq _ _ _ _ [(0, Value.agg #[Value.int .i64 a.al, nx, ac])] _
  refine Cq.seq ?_
  refine Cq.region ?_
  refine Sq.box .plain rfl rfl (fun b1 w2 e3 hB4 hlo5 => ?_)
  have hd6 := Nat.le_trans (Below.size E) hlo5
  have hs7 := Below.size e3
  replace E := E.trans e3
  refine Sq.assign .plain rfl rfl ?_
  refine Sq.nil ?_
  refine Eq.next ?_
  refine Cq.seq ?_
  refine Cq.seq ?_
  refine Cq.region ?_
  refine Sq.loadAgg agg26 .plain rfl rfl hB4 rfl ?_
  have hd11 := hB4.lt
  refine Sq.call fn22 .plain rfl rfl (valid_c _ a _ _ (hnx.ext E) (hac.ext E)) ?_
  rintro _ w9 ⟨rfl, e10⟩
  have hs12 := Below.size E
  have hs13 := Below.size e10
  replace E := E.trans e10
  replace hB4 := hB4.ext e10
  refine Sq.partB (fun hv => ?_) (fun hv => ?_)
  · refine Sq.notT .plain rfl rfl ?_
    refine Sq.nil ?_
    refine Eq.next ?_
    refine Cq.els rfl ?_
    refine Cq.skip ?_
    refine Eq.next ?_
    refine Cq.seq ?_
    refine Cq.region ?_
    refine Sq.loadAgg agg26 .plain rfl rfl hB4 rfl ?_
    have hd21 := hB4.lt
    refine Sq.call fn59 .plain rfl rfl (trim_c _ a _ _ (hnx.ext E) (hac.ext E) hv) ?_
    rintro _ w15 ⟨⟨nx17, ac18, rfl, hn19, ha20⟩, e16⟩
    have hs22 := Below.size E
    have hs23 := Below.size e16
    replace E := E.trans e16
    replace hB4 := hB4.ext e16
    refine Sq.alloc zero26 .plain rfl (fun b24 w25 e26 hB27 hlo28 => ?_)
    have hd29 := Nat.le_trans (Below.size E) hlo28
    have hd30 := Nat.lt_of_lt_of_le hB4.lt hlo28
    have hs31 := Below.size e26
    replace E := E.trans e26
    replace hn19 := hn19.ext e26
    replace ha20 := ha20.ext e26
    refine Sq.storeAgg agg26 .plain rfl rfl (one_cons rfl (one_cons (Rows.one (OwnRows.rows hn19)) (one_cons (Row.one (Own.row ha20)) one_nil))) hB27 rfl rfl (fun w32 g33 hB34 => ?_)
    have hs35 := World.grownBy.size g33
    replace E := E.grown g33 (fun k hk => by injection hk with hk; subst hk; omega)
    replace hn19 := hn19.stored g33 hB27 (by decide) (by decide)
    replace ha20 := ha20.stored g33 hB27 (by decide)
    replace hB27 := hB34
    refine Sq.nil ?_
    refine Eq.next ?_
    refine Cq.seq ?_
    refine Cq.seq ?_
    refine Cq.region ?_
    refine Sq.fieldAddr fld26_1 .plain rfl rfl ?_
    refine Sq.loadB one23 .plain rfl rfl hB27 rfl ?_
    refine Sq.lenRows (OwnRows.rows hn19) .plain rfl und23 rfl ?_
    refine Sq.move .plain rfl rfl ?_
    refine Sq.nil ?_
    refine Eq.next ?_
    refine Cq.block ?_
    have ht := trim_valid hv
    have hts := validA_spec.1 ht
    have hts1 := hts.2.1
    refine Cq.loop (fun nn w ls => ∃ (i : Int), ls = [(3, Value.pointer (some ⟨b24, 0, none⟩)), (14, nx17), (15, Value.int .i64 ((List.length (trim a).next : Int))), (16, Value.int .i64 i)] ∧ (0 ≤ i ∧ i ≤ (trim a).next.length) ∧ (∀ m, m < i.toNat → m < (trim a).next.length → pcRow (trim a) m = true) ∧ Ext w0 w ∧ Blk w b24 26 [Value.int .i64 ((trim a).al), nx17, ac18] ∧ OwnRows w w9.heap.size w15.heap.size 56 3 nx17 (trim a).next ∧ Own w w9.heap.size 4 ac18 ((trim a).acc.map Value.bool) ∧ nn = (((trim a).next.length : Int) - i).toNat) _ _ ⟨0, rfl, by omega, fun m hm => by omega, E, hB27, hn19, ha20, rfl⟩ (.cons rfl (.cons rfl (.cons rfl (.cons rfl (.nil))))) ?_
    rintro nn wl1 ls ⟨i, rfl, hi, hall, E, hB27, hn19, ha20, rfl⟩
    have hs36 := Below.size E
    refine Cq.seq ?_
    refine Cq.region ?_
    refine Sq.lss .plain rfl rfl rfl ?_
    refine Sq.part (fun c37 => ?_) (fun c37 => ?_)
    · refine Sq.nil ?_
      refine Eq.next ?_
      refine Cq.seq ?_
      refine Cq.thn rfl ?_
      refine Cq.skip ?_
      refine Eq.next ?_
      refine Cq.seq ?_
      refine Cq.block ?_
      refine Cq.seq ?_
      refine Cq.region ?_
      refine Sq.move .plain rfl rfl ?_
      refine Sq.idxRows sl23 one56 (OwnRows.rows hn19) .plain rfl rfl rfl .plain rfl rfl (by omega) (by omega) (fun r38 hr39 => ?_)
      refine Sq.assign .plain rfl rfl ?_
      refine Sq.assign .plain rfl rfl ?_
      refine Sq.nil ?_
      refine Eq.next ?_
      refine Cq.seq ?_
      refine Cq.region ?_
      refine Sq.move .plain rfl rfl ?_
      refine Sq.lenInts hr39 .plain rfl und56 rfl ?_
      refine Sq.move .plain rfl rfl ?_
      refine Sq.nil ?_
      refine Eq.next ?_
      refine Cq.block ?_
      refine Cq.loop (fun nn w ls => ∃ (j : Int), ls = [(3, Value.pointer (some ⟨b24, 0, none⟩)), (4, Value.int .i64 i), (14, nx17), (15, Value.int .i64 ((List.length (trim a).next : Int))), (16, Value.int .i64 i), (21, r38), (22, Value.int .i64 ((List.length ((trim a).next.getD i.toNat []) : Int))), (23, Value.int .i64 j)] ∧ (0 ≤ j ∧ j ≤ ((trim a).next.getD i.toNat []).length) ∧ ((trim a).acc.getD i.toNat false = true ∨ ((((trim a).next.getD i.toNat []).take j.toNat).all fun t => !leads (trim a) t) = true) ∧ Ext w0 w ∧ Blk w b24 26 [Value.int .i64 ((trim a).al), nx17, ac18] ∧ OwnRows w w9.heap.size w15.heap.size 56 3 nx17 (trim a).next ∧ Own w w9.heap.size 4 ac18 ((trim a).acc.map Value.bool) ∧ Ints w 3 r38 ((trim a).next.getD i.toNat []) ∧ nn = ((((trim a).next.getD i.toNat []).length : Int) - j).toNat) _ _ ⟨0, rfl, by omega, .inr rfl, E, hB27, hn19, ha20, hr39, rfl⟩ (.cons rfl (.cons rfl (.cons rfl (.cons rfl (.cons rfl (.cons rfl (.cons rfl (.cons rfl (.nil))))))))) ?_
      rintro nn wl2 ls ⟨j, rfl, hj, hrow, E, hB27, hn19, ha20, hr39, rfl⟩
      have hs40 := Below.size E
      have hal : (trim a).acc.length = (trim a).next.length := hts.2.2.1
      have hrl := valid_row ht (k := i.toNat) (by omega)
      have hl6 := letters_len6 (trim a).al
      have hrb : j < ((trim a).next.getD i.toNat []).length → 0 ≤ (((trim a).next.getD i.toNat []).getD j.toNat 0) ∧ (((trim a).next.getD i.toNat []).getD j.toNat 0) < (trim a).next.length := fun h => ((validA_spec.1 ht).2.2.2 _ (getD_mem (by omega))).2 _ (getD_mem (by omega))
      refine Cq.seq ?_
      refine Cq.region ?_
      refine Sq.lss .plain rfl rfl rfl ?_
      refine Sq.part (fun c41 => ?_) (fun c41 => ?_)
      · refine Sq.nil ?_
        refine Eq.next ?_
        refine Cq.seq ?_
        refine Cq.thn rfl ?_
        refine Cq.skip ?_
        refine Eq.next ?_
        refine Cq.seq ?_
        refine Cq.block ?_
        refine Cq.seq ?_
        refine Cq.region ?_
        refine Sq.idxInts sl56 one3 hr39 .plain rfl rfl rfl .plain rfl rfl (by omega) (by omega) ?_
        refine Sq.assign .plain rfl rfl ?_
        refine Sq.nil ?_
        refine Eq.next ?_
        refine Cq.seq ?_
        refine Cq.region ?_
        refine Sq.fieldAddr fld26_2 .plain rfl rfl ?_
        refine Sq.loadB one24 .plain rfl rfl hB27 rfl ?_
        refine Sq.move .plain rfl rfl ?_
        refine Sq.idxBools sl24 one4 (Own.row ha20) .plain rfl rfl rfl .plain rfl rfl (by omega) (by omega) ?_
        refine Sq.partB (fun hac => ?_) (fun hac => ?_)
        · refine Sq.notT .plain rfl rfl ?_
          refine Sq.move .plain rfl rfl ?_
          refine Sq.off rfl rfl rfl rfl rfl rfl ?_
          refine Sq.off rfl rfl rfl rfl rfl rfl ?_
          refine Sq.off rfl rfl rfl rfl rfl rfl ?_
          refine Sq.pickF .plain rfl rfl rfl ?_
          refine Sq.nil ?_
          refine Eq.next ?_
          refine Cq.els rfl ?_
          refine Cq.skip ?_
          refine Eq.end ?_
          refine Eq.next ?_
          refine Cq.region ?_
          refine Sq.add .plain rfl rfl rfl (by omega) ?_
          refine Sq.move .plain rfl rfl ?_
          refine Sq.nil ?_
          have e2 := toNat_succ hj.1
          refine Eq.round _ _ ⟨j + 1, rfl, by omega, .inl hac, E, hB27, hn19, ha20, hr39, rfl⟩ (by omega) (.cons rfl (.cons rfl (.cons rfl (.cons rfl (.cons rfl (.cons rfl (.cons rfl (.cons rfl (.nil)))))))))
        refine Sq.notF .plain rfl rfl ?_
        refine Sq.move .plain rfl rfl ?_
        refine Sq.loadAgg agg26 (.met rfl rfl rfl) rfl rfl hB27 rfl ?_
        refine Sq.move (.met rfl rfl rfl) rfl rfl ?_
        have hd45 := hB27.lt
        refine Sq.call fn72 (.met rfl rfl rfl) rfl rfl (leads_c _ (trim a) _ _ (OwnRows.rows hn19) (Own.row ha20) ht (((trim a).next.getD i.toNat []).getD j.toNat 0) (by omega)) ?_
        rintro _ w43 ⟨rfl, e44⟩
        have hs46 := Below.size E
        have hs47 := Below.size e44
        replace E := E.trans e44
        replace hB27 := hB27.ext e44
        replace hn19 := hn19.ext e44
        replace ha20 := ha20.ext e44
        replace hr39 := hr39.ext e44
        refine Sq.partB (fun hld => ?_) (fun hld => ?_)
        · refine Sq.pickT .plain rfl rfl rfl ?_
          refine Sq.nil ?_
          refine Eq.next ?_
          refine Cq.thn rfl ?_
          refine Cq.seq ?_
          refine Cq.region ?_
          refine Sq.assign .plain rfl rfl ?_
          refine Sq.nil ?_
          refine Eq.next ?_
          refine Cq.ret ?_
          refine Eq.outRet ?_
          refine Eq.pastRet ?_
          refine Eq.pastRet ?_
          refine Eq.outRet ?_
          refine Eq.outRet ?_
          refine Eq.pastRet ?_
          refine Eq.pastRet ?_
          refine Eq.outRet ?_
          refine Eq.pastRet ?_
          refine Eq.ret1 rfl rfl ?_
          exact ⟨by rw [← pc_trim hv, pc_found (q := i.toNat) (j := j.toNat) (by omega) (by omega) hac hld], E⟩
        refine Sq.pickT .plain rfl rfl rfl ?_
        refine Sq.nil ?_
        refine Eq.next ?_
        refine Cq.els rfl ?_
        refine Cq.skip ?_
        refine Eq.end ?_
        refine Eq.next ?_
        refine Cq.region ?_
        refine Sq.add .plain rfl rfl rfl (by omega) ?_
        refine Sq.move .plain rfl rfl ?_
        refine Sq.nil ?_
        have e2 := toNat_succ hj.1
        refine Eq.round _ _ ⟨j + 1, rfl, by omega, by rw [e2]; rcases hrow with h | h; exact .inl h; exact .inr (all_snoc (d := 0) h (by omega) (by show (!leads (trim a) _) = true; rw [show leads (trim a) _ = false from hld]; rfl)), E, hB27, hn19, ha20, hr39, rfl⟩ (by omega) (.cons rfl (.cons rfl (.cons rfl (.cons rfl (.cons rfl (.cons rfl (.cons rfl (.cons rfl (.nil)))))))))
      refine Sq.nil ?_
      refine Eq.next ?_
      refine Cq.seq ?_
      refine Cq.els rfl ?_
      refine Cq.exit ?_
      refine Eq.past ?_
      refine Eq.past ?_
      refine Eq.hit ?_
      refine Eq.end ?_
      refine Eq.next ?_
      refine Cq.region ?_
      refine Sq.add .plain rfl rfl rfl (by omega) ?_
      refine Sq.move .plain rfl rfl ?_
      refine Sq.nil ?_
      have e1 := toNat_succ hi.1
      have hr1 := pcRow_done (a := (trim a)) (q := i.toNat) (j := j.toNat) (by omega) hrow
      refine Eq.round _ _ ⟨i + 1, rfl, by omega, fun m hm hm2 => by rcases Nat.lt_or_ge m i.toNat with h | h; exact hall m h hm2; rw [show m = i.toNat by omega]; exact hr1, E, hB27, hn19, ha20, rfl⟩ (by omega) (.cons rfl (.cons rfl (.cons rfl (.cons rfl (.nil)))))
    refine Sq.nil ?_
    refine Eq.next ?_
    refine Cq.seq ?_
    refine Cq.els rfl ?_
    refine Cq.exit ?_
    refine Eq.past ?_
    refine Eq.past ?_
    refine Eq.hit ?_
    refine Eq.next ?_
    refine Cq.seq ?_
    refine Cq.region ?_
    refine Sq.assign .plain rfl rfl ?_
    refine Sq.nil ?_
    refine Eq.next ?_
    refine Cq.ret ?_
    refine Eq.ret1 rfl rfl ?_
    exact ⟨by rw [← pc_trim hv, pc_all (k := i.toNat) (by omega) hall], E⟩
  refine Sq.notF .plain rfl rfl ?_
  refine Sq.nil ?_
  refine Eq.next ?_
  refine Cq.thn rfl ?_
  refine Cq.seq ?_
  refine Cq.region ?_
  refine Sq.assign .plain rfl rfl ?_
  refine Sq.nil ?_
  refine Eq.next ?_
  refine Cq.ret ?_
  refine Eq.pastRet ?_
  refine Eq.ret1 rfl rfl ?_
  exact ⟨by rw [isPC_no hv], E⟩
end Go.Proofs.Ytdejmfkpohgamaa
set_option linter.unusedSimpArgs false
set_option linter.unusedVariables false
namespace Go.Proofs.Ytdejmfkpohgamaa
open Go.RowKit
set_option maxHeartbeats 1000000 in
set_option maxRecDepth 100000 in
theorem lProdSafety (w0 : World) (e : TypeId) (a0 : Option Addr) (c0 : Nat) (cs : List UInt8) (hc : Bytes w0 e (.slice a0 cs.length c0) cs) (hcap : cs.length ≤ c0) : Ret Try.prog 10 #[Value.slice a0 cs.length c0] w0 (fun v w => v = .bool true ∧ Ext w0 w) := by
  have E := Ext.refl w0
  refine Ret.of (args := [Value.slice a0 cs.length c0]) Try.func10 rfl rfl rfl ?_
  rintro _ rfl
  show Cq _ _ _ _ [(0, Value.slice a0 cs.length c0)] _
  refine Cq.seq ?_
  refine Cq.region ?_
  refine Sq.assign .plain rfl rfl ?_
  refine Sq.nil ?_
  refine Eq.next ?_
  refine Cq.seq ?_
  refine Cq.seq ?_
  refine Cq.region ?_
  refine Sq.move .plain rfl rfl ?_
  refine Sq.lenBytes (hc.ext E) .plain rfl und22 rfl ?_
  refine Sq.gtr .plain rfl rfl rfl ?_
  refine Sq.part (fun c1 => ?_) (fun c1 => ?_)
  · refine Sq.nil ?_
    refine Eq.next ?_
    refine Cq.thn rfl ?_
    refine Cq.seq ?_
    refine Cq.region ?_
    refine Sq.assign .plain rfl rfl ?_
    refine Sq.nil ?_
    refine Eq.next ?_
    refine Cq.ret ?_
    refine Eq.pastRet ?_
    refine Eq.ret1 rfl rfl ?_
    exact ⟨rfl, E⟩
  refine Sq.nil ?_
  refine Eq.next ?_
  refine Cq.els rfl ?_
  refine Cq.skip ?_
  refine Eq.next ?_
  refine Cq.seq ?_
  refine Cq.region ?_
  refine Sq.move .plain rfl rfl ?_
  refine Sq.call fn15 .plain rfl rfl (drawProd_c _ _ _ _ _ (hc.ext E) hcap) ?_
  rintro v2 w3 ⟨⟨u5, v6, k7, aX8, aY9, rfl, ⟨nxX10, acX11, rfl, hnX12, haX13⟩, ⟨nxY14, acY15, rfl, hnY16, haY17⟩, hsmX18, hsmY19, hk20⟩, e4⟩
  have hs21 := Below.size E
  have hs22 := Below.size e4
  replace E := E.trans e4
  refine Sq.move .plain rfl rfl ?_
  refine Sq.extract .plain rfl rfl rfl ?_
  refine Sq.extract .plain rfl rfl rfl ?_
  refine Sq.extract .plain rfl rfl rfl ?_
  refine Sq.alloc zero26 .plain rfl (fun b23 w24 e25 hB26 hlo27 => ?_)
  have hd28 := Nat.le_trans (Below.size E) hlo27
  have hs29 := Below.size e25
  replace E := E.trans e25
  replace hnX12 := hnX12.ext e25
  replace haX13 := haX13.ext e25
  replace hnY16 := hnY16.ext e25
  replace haY17 := haY17.ext e25
  refine Sq.alloc zero26 .plain rfl (fun b30 w31 e32 hB33 hlo34 => ?_)
  have hd35 := Nat.le_trans (Below.size E) hlo34
  have hd36 := Nat.lt_of_lt_of_le hB26.lt hlo34
  have hs37 := Below.size e32
  replace E := E.trans e32
  replace hnX12 := hnX12.ext e32
  replace haX13 := haX13.ext e32
  replace hnY16 := hnY16.ext e32
  replace haY17 := haY17.ext e32
  replace hB26 := hB26.ext e32
  refine Sq.storeAgg agg26 .plain rfl rfl (one_cons rfl (one_cons (Rows.one hnX12) (one_cons (Row.one haX13) one_nil))) hB26 rfl rfl (fun w38 g39 hB40 => ?_)
  have hs41 := World.grownBy.size g39
  replace E := E.grown g39 (fun k hk => by injection hk with hk; subst hk; omega)
  replace hnX12 := hnX12.stored g39 hB26 (by decide) (by decide)
  replace haX13 := haX13.stored g39 hB26 (by decide)
  replace hnY16 := hnY16.stored g39 hB26 (by decide) (by decide)
  replace haY17 := haY17.stored g39 hB26 (by decide)
  replace hB33 := hB33.grown g39 (by intro h; injection h with h; omega)
  replace hB26 := hB40
  refine Sq.storeAgg agg26 .plain rfl rfl (one_cons rfl (one_cons (Rows.one hnY16) (one_cons (Row.one haY17) one_nil))) hB33 rfl rfl (fun w42 g43 hB44 => ?_)
  have hs45 := World.grownBy.size g43
  replace E := E.grown g43 (fun k hk => by injection hk with hk; subst hk; omega)
  replace hnX12 := hnX12.stored g43 hB33 (by decide) (by decide)
  replace haX13 := haX13.stored g43 hB33 (by decide)
  replace hnY16 := hnY16.stored g43 hB33 (by decide) (by decide)
  replace haY17 := haY17.stored g43 hB33 (by decide)
  replace hB26 := hB26.grown g43 (by intro h; injection h with h; omega)
  replace hB33 := hB44
  refine Sq.assign .plain rfl rfl ?_
  refine Sq.nil ?_
  refine Eq.next ?_
  refine Cq.seq ?_
  refine Cq.region ?_
  refine Sq.loadAgg agg26 .plain rfl rfl hB26 rfl ?_
  refine Sq.loadAgg agg26 .plain rfl rfl hB33 rfl ?_
  refine Sq.move .plain rfl rfl ?_
  rcases Bool.eq_false_or_eq_true (prodOk aX8 aY9 k7) with hC | hC
  · obtain ⟨hv, hv', hk, hl12⟩ := prodOk_spec.1 hC
    refine Sq.call fn16 .plain rfl rfl (prod_c_T _ aX8 aY9 _ _ _ _ hnX12 haX13 hnY16 haY17 k7 hC) ?_
    rintro _ w46 ⟨⟨_, rfl, nx48, ac49, rfl, hn50, ha51⟩, e47⟩
    have hs52 := Below.size E
    have hs53 := Below.size e47
    replace E := E.trans e47
    replace hnX12 := hnX12.ext e47
    replace haX13 := haX13.ext e47
    replace hnY16 := hnY16.ext e47
    replace haY17 := haY17.ext e47
    replace hB26 := hB26.ext e47
    replace hB33 := hB33.ext e47
    refine Sq.move .plain rfl rfl ?_
    refine Sq.extract .plain rfl rfl rfl ?_
    refine Sq.extract .plain rfl rfl rfl ?_
    refine Sq.alloc zero26 .plain rfl (fun b54 w55 e56 hB57 hlo58 => ?_)
    have hd59 := Nat.le_trans (Below.size E) hlo58
    have hd60 := Nat.lt_of_lt_of_le hB26.lt hlo58
    have hd61 := Nat.lt_of_lt_of_le hB33.lt hlo58
    have hs62 := Below.size e56
    replace E := E.trans e56
    replace hnX12 := hnX12.ext e56
    replace haX13 := haX13.ext e56
    replace hnY16 := hnY16.ext e56
    replace haY17 := haY17.ext e56
    replace hB26 := hB26.ext e56
    replace hB33 := hB33.ext e56
    replace hn50 := hn50.ext e56
    replace ha51 := ha51.ext e56
    refine Sq.storeAgg agg26 .plain rfl rfl (one_cons rfl (one_cons (Rows.one (OwnRows.rows hn50)) (one_cons (Row.one (Own.row ha51)) one_nil))) hB57 rfl rfl (fun w63 g64 hB65 => ?_)
    have hs66 := World.grownBy.size g64
    replace E := E.grown g64 (fun k hk => by injection hk with hk; subst hk; omega)
    replace hnX12 := hnX12.stored g64 hB57 (by decide) (by decide)
    replace haX13 := haX13.stored g64 hB57 (by decide)
    replace hnY16 := hnY16.stored g64 hB57 (by decide) (by decide)
    replace haY17 := haY17.stored g64 hB57 (by decide)
    replace hB26 := hB26.grown g64 (by intro h; injection h with h; omega)
    replace hB33 := hB33.grown g64 (by intro h; injection h with h; omega)
    replace hn50 := hn50.stored g64 hB57 (by decide) (by decide)
    replace ha51 := ha51.stored g64 hB57 (by decide)
    replace hB57 := hB65
    refine Sq.assign .plain rfl rfl ?_
    refine Sq.nil ?_
    refine Eq.next ?_
    refine Cq.seq ?_
    refine Cq.region ?_
    refine Sq.loadAgg agg26 .plain rfl rfl hB26 rfl ?_
    refine Sq.loadAgg agg26 .plain rfl rfl hB33 rfl ?_
    refine Sq.move .plain rfl rfl ?_
    refine Sq.call fn17 .plain rfl rfl (sProd_c_T _ aX8 aY9 _ _ _ _ hnX12 haX13 hnY16 haY17 k7 hC) ?_
    rintro _ w67 ⟨⟨_, rfl, nx69, ac70, rfl, hn71, ha72⟩, e68⟩
    have hs73 := Below.size E
    have hs74 := Below.size e68
    replace E := E.trans e68
    replace hnX12 := hnX12.ext e68
    replace haX13 := haX13.ext e68
    replace hnY16 := hnY16.ext e68
    replace haY17 := haY17.ext e68
    replace hB26 := hB26.ext e68
    replace hB33 := hB33.ext e68
    replace hn50 := hn50.ext e68
    replace ha51 := ha51.ext e68
    replace hB57 := hB57.ext e68
    refine Sq.move .plain rfl rfl ?_
    refine Sq.extract .plain rfl rfl rfl ?_
    refine Sq.extract .plain rfl rfl rfl ?_
    refine Sq.alloc zero26 .plain rfl (fun b75 w76 e77 hB78 hlo79 => ?_)
    have hd80 := Nat.le_trans (Below.size E) hlo79
    have hd81 := Nat.lt_of_lt_of_le hB26.lt hlo79
    have hd82 := Nat.lt_of_lt_of_le hB33.lt hlo79
    have hd83 := Nat.lt_of_lt_of_le hB57.lt hlo79
    have hs84 := Below.size e77
    replace E := E.trans e77
    replace hnX12 := hnX12.ext e77
    replace haX13 := haX13.ext e77
    replace hnY16 := hnY16.ext e77
    replace haY17 := haY17.ext e77
    replace hB26 := hB26.ext e77
    replace hB33 := hB33.ext e77
    replace hn50 := hn50.ext e77
    replace ha51 := ha51.ext e77
    replace hB57 := hB57.ext e77
    replace hn71 := hn71.ext e77
    replace ha72 := ha72.ext e77
    refine Sq.storeAgg agg26 .plain rfl rfl (one_cons rfl (one_cons (Rows.one (OwnRows.rows hn71)) (one_cons (Row.one (Own.row ha72)) one_nil))) hB78 rfl rfl (fun w85 g86 hB87 => ?_)
    have hs88 := World.grownBy.size g86
    replace E := E.grown g86 (fun k hk => by injection hk with hk; subst hk; omega)
    replace hnX12 := hnX12.stored g86 hB78 (by decide) (by decide)
    replace haX13 := haX13.stored g86 hB78 (by decide)
    replace hnY16 := hnY16.stored g86 hB78 (by decide) (by decide)
    replace haY17 := haY17.stored g86 hB78 (by decide)
    replace hB26 := hB26.grown g86 (by intro h; injection h with h; omega)
    replace hB33 := hB33.grown g86 (by intro h; injection h with h; omega)
    replace hn50 := hn50.stored g86 hB78 (by decide) (by decide)
    replace ha51 := ha51.stored g86 hB78 (by decide)
    replace hB57 := hB57.grown g86 (by intro h; injection h with h; omega)
    replace hn71 := hn71.stored g86 hB78 (by decide) (by decide)
    replace ha72 := ha72.stored g86 hB78 (by decide)
    replace hB78 := hB87
    refine Sq.assign .plain rfl rfl ?_
    refine Sq.nil ?_
    refine Eq.next ?_
    refine Cq.seq ?_
    refine Cq.seq ?_
    refine Cq.region ?_
    refine Sq.loadAgg agg26 .plain rfl rfl hB57 rfl ?_
    refine Sq.loadAgg agg26 .plain rfl rfl hB78 rfl ?_
    have hd92 := hB26.lt
    have hd93 := hB33.lt
    have hd94 := hB57.lt
    have hd95 := hB78.lt
    refine Sq.call fn18 .plain rfl rfl (agAutomata_c _ (prodA aX8 aY9 k7) (prodA aX8 aY9 k7) _ _ _ _ (OwnRows.rows hn50) (Own.row ha51) (OwnRows.rows hn71) (Own.row ha72) (by first | exact fit_zero | exact fit_of_valid (by first | assumption | exact extend_valid hv hk | exact compl_valid' (extend_valid hv hk) | exact safe_valid hva | exact safe_valid hvb | exact safe_valid hv | exact prod_valid hC | exact prod_valid (prodOk_kind hC (by decide))) | assumption)) ?_
    rintro _ w90 ⟨rfl, e91⟩
    have hs96 := Below.size E
    have hs97 := Below.size e91
    replace E := E.trans e91
    replace hnX12 := hnX12.ext e91
    replace haX13 := haX13.ext e91
    replace hnY16 := hnY16.ext e91
    replace haY17 := haY17.ext e91
    replace hB26 := hB26.ext e91
    replace hB33 := hB33.ext e91
    replace hn50 := hn50.ext e91
    replace ha51 := ha51.ext e91
    replace hB57 := hB57.ext e91
    replace hn71 := hn71.ext e91
    replace ha72 := ha72.ext e91
    replace hB78 := hB78.ext e91
    refine Sq.beT (by exact eqA_refl _) ?_
    refine Sq.notT .plain rfl rfl ?_
    refine Sq.move .plain rfl rfl ?_
    refine Sq.move (.met rfl rfl rfl) rfl rfl ?_
    refine Sq.move (.met rfl rfl rfl) rfl rfl ?_
    refine Sq.neqB und4 (.met rfl rfl rfl) rfl rfl rfl ?_
    refine Sq.pickF .plain rfl rfl rfl ?_
    refine Sq.move .plain rfl rfl ?_
    refine Sq.move (.met rfl rfl rfl) rfl rfl ?_
    refine Sq.notT (.met rfl rfl rfl) rfl rfl ?_
    refine Sq.pickF .plain rfl rfl rfl ?_
    refine Sq.move .plain rfl rfl ?_
    refine Sq.move (.met rfl rfl rfl) rfl rfl ?_
    refine Sq.eql (.met rfl rfl rfl) rfl rfl rfl ?_
    refine Sq.part (fun hk2 => ?_) (fun hk2 => ?_)
    · refine Sq.pickF .plain rfl rfl rfl ?_
      refine Sq.nil ?_
      refine Eq.next ?_
      refine Cq.thn rfl ?_
      refine Cq.seq ?_
      refine Cq.region ?_
      refine Sq.loadAgg agg26 .plain rfl rfl hB57 rfl ?_
      refine Sq.loadAgg agg26 .plain rfl rfl hB78 rfl ?_
      have hd101 := hB26.lt
      have hd102 := hB33.lt
      have hd103 := hB57.lt
      have hd104 := hB78.lt
      refine Sq.call fn18 .plain rfl rfl (agAutomata_c _ (prodA aX8 aY9 k7) (prodA aX8 aY9 k7) _ _ _ _ (OwnRows.rows hn50) (Own.row ha51) (OwnRows.rows hn71) (Own.row ha72) (by first | exact fit_zero | exact fit_of_valid (by first | assumption | exact extend_valid hv hk | exact compl_valid' (extend_valid hv hk) | exact safe_valid hva | exact safe_valid hvb | exact safe_valid hv | exact prod_valid hC | exact prod_valid (prodOk_kind hC (by decide))) | assumption)) ?_
      rintro _ w99 ⟨rfl, e100⟩
      have hs105 := Below.size E
      have hs106 := Below.size e100
      replace E := E.trans e100
      refine Sq.beT (by exact eqA_refl _) ?_
      refine Sq.move .plain rfl rfl ?_
      refine Sq.move (.met rfl rfl rfl) rfl rfl ?_
      refine Sq.move (.met rfl rfl rfl) rfl rfl ?_
      refine Sq.eqlB und4 (.met rfl rfl rfl) rfl rfl rfl ?_
      refine Sq.pickT .plain rfl rfl rfl ?_
      refine Sq.assign .plain rfl rfl ?_
      refine Sq.nil ?_
      refine Eq.next ?_
      refine Cq.ret ?_
      refine Eq.pastRet ?_
      refine Eq.ret1 rfl rfl ?_
      exact ⟨rfl, E⟩
    refine Sq.pickF .plain rfl rfl rfl ?_
    refine Sq.nil ?_
    refine Eq.next ?_
    refine Cq.els rfl ?_
    refine Cq.skip ?_
    refine Eq.next ?_
    refine Cq.seq ?_
    refine Cq.region ?_
    have hva := hv
    have hvb := hv'
    refine Sq.loadAgg agg26 .plain rfl rfl hB26 rfl ?_
    refine Sq.call fn28 .plain rfl rfl (safety_c_T _ aX8 _ _ hnX12 haX13 (by exact hv)) ?_
    rintro _ w108 ⟨⟨_, rfl, nx110, ac111, rfl, hn112, ha113⟩, e109⟩
    have hs114 := Below.size E
    have hs115 := Below.size e109
    replace E := E.trans e109
    replace hnY16 := hnY16.ext e109
    replace haY17 := haY17.ext e109
    replace hB26 := hB26.ext e109
    replace hB33 := hB33.ext e109
    replace hB57 := hB57.ext e109
    replace hB78 := hB78.ext e109
    refine Sq.move .plain rfl rfl ?_
    refine Sq.extract .plain rfl rfl rfl ?_
    refine Sq.extract .plain rfl rfl rfl ?_
    refine Sq.alloc zero26 .plain rfl (fun b116 w117 e118 hB119 hlo120 => ?_)
    have hd121 := Nat.le_trans (Below.size E) hlo120
    have hd122 := Nat.lt_of_lt_of_le hB26.lt hlo120
    have hd123 := Nat.lt_of_lt_of_le hB33.lt hlo120
    have hd124 := Nat.lt_of_lt_of_le hB57.lt hlo120
    have hd125 := Nat.lt_of_lt_of_le hB78.lt hlo120
    have hs126 := Below.size e118
    replace E := E.trans e118
    replace hnY16 := hnY16.ext e118
    replace haY17 := haY17.ext e118
    replace hB26 := hB26.ext e118
    replace hB33 := hB33.ext e118
    replace hB57 := hB57.ext e118
    replace hB78 := hB78.ext e118
    replace hn112 := hn112.ext e118
    replace ha113 := ha113.ext e118
    refine Sq.storeAgg agg26 .plain rfl rfl (one_cons rfl (one_cons (Rows.one (OwnRows.rows hn112)) (one_cons (Row.one (Own.row ha113)) one_nil))) hB119 rfl rfl (fun w127 g128 hB129 => ?_)
    have hs130 := World.grownBy.size g128
    replace E := E.grown g128 (fun k hk => by injection hk with hk; subst hk; omega)
    replace hnY16 := hnY16.stored g128 hB119 (by decide) (by decide)
    replace haY17 := haY17.stored g128 hB119 (by decide)
    replace hB26 := hB26.grown g128 (by intro h; injection h with h; omega)
    replace hB33 := hB33.grown g128 (by intro h; injection h with h; omega)
    replace hB57 := hB57.grown g128 (by intro h; injection h with h; omega)
    replace hB78 := hB78.grown g128 (by intro h; injection h with h; omega)
    replace hn112 := hn112.stored g128 hB119 (by decide) (by decide)
    replace ha113 := ha113.stored g128 hB119 (by decide)
    replace hB119 := hB129
    refine Sq.assign .plain rfl rfl ?_
    refine Sq.nil ?_
    refine Eq.next ?_
    refine Cq.seq ?_
    refine Cq.region ?_
    refine Sq.loadAgg agg26 .plain rfl rfl hB33 rfl ?_
    refine Sq.call fn28 .plain rfl rfl (safety_c_T _ aY9 _ _ hnY16 haY17 (by exact hv')) ?_
    rintro _ w132 ⟨⟨_, rfl, nx134, ac135, rfl, hn136, ha137⟩, e133⟩
    have hs138 := Below.size E
    have hs139 := Below.size e133
    replace E := E.trans e133
    replace hB26 := hB26.ext e133
    replace hB33 := hB33.ext e133
    replace hB57 := hB57.ext e133
    replace hB78 := hB78.ext e133
    replace hn112 := hn112.ext e133
    replace ha113 := ha113.ext e133
    replace hB119 := hB119.ext e133
    refine Sq.move .plain rfl rfl ?_
    refine Sq.extract .plain rfl rfl rfl ?_
    refine Sq.extract .plain rfl rfl rfl ?_
    refine Sq.alloc zero26 .plain rfl (fun b140 w141 e142 hB143 hlo144 => ?_)
    have hd145 := Nat.le_trans (Below.size E) hlo144
    have hd146 := Nat.lt_of_lt_of_le hB26.lt hlo144
    have hd147 := Nat.lt_of_lt_of_le hB33.lt hlo144
    have hd148 := Nat.lt_of_lt_of_le hB57.lt hlo144
    have hd149 := Nat.lt_of_lt_of_le hB78.lt hlo144
    have hd150 := Nat.lt_of_lt_of_le hB119.lt hlo144
    have hs151 := Below.size e142
    replace E := E.trans e142
    replace hB26 := hB26.ext e142
    replace hB33 := hB33.ext e142
    replace hB57 := hB57.ext e142
    replace hB78 := hB78.ext e142
    replace hn112 := hn112.ext e142
    replace ha113 := ha113.ext e142
    replace hB119 := hB119.ext e142
    replace hn136 := hn136.ext e142
    replace ha137 := ha137.ext e142
    refine Sq.storeAgg agg26 .plain rfl rfl (one_cons rfl (one_cons (Rows.one (OwnRows.rows hn136)) (one_cons (Row.one (Own.row ha137)) one_nil))) hB143 rfl rfl (fun w152 g153 hB154 => ?_)
    have hs155 := World.grownBy.size g153
    replace E := E.grown g153 (fun k hk => by injection hk with hk; subst hk; omega)
    replace hB26 := hB26.grown g153 (by intro h; injection h with h; omega)
    replace hB33 := hB33.grown g153 (by intro h; injection h with h; omega)
    replace hB57 := hB57.grown g153 (by intro h; injection h with h; omega)
    replace hB78 := hB78.grown g153 (by intro h; injection h with h; omega)
    replace hn112 := hn112.stored g153 hB143 (by decide) (by decide)
    replace ha113 := ha113.stored g153 hB143 (by decide)
    replace hB119 := hB119.grown g153 (by intro h; injection h with h; omega)
    replace hn136 := hn136.stored g153 hB143 (by decide) (by decide)
    replace ha137 := ha137.stored g153 hB143 (by decide)
    replace hB143 := hB154
    refine Sq.assign .plain rfl rfl ?_
    refine Sq.nil ?_
    refine Eq.next ?_
    refine Cq.seq ?_
    refine Cq.region ?_
    refine Sq.loadAgg agg26 .plain rfl rfl hB119 rfl ?_
    refine Sq.loadAgg agg26 .plain rfl rfl hB143 rfl ?_
    refine Sq.move .plain rfl rfl ?_
    rcases Bool.eq_false_or_eq_true (prodOk (safe aX8) (safe aY9) k7) with hC | hC
    · obtain ⟨hv, hv', hk, hl12⟩ := prodOk_spec.1 hC
      refine Sq.call fn16 .plain rfl rfl (prod_c_T _ (safe aX8) (safe aY9) _ _ _ _ (OwnRows.rows hn112) (Own.row ha113) (OwnRows.rows hn136) (Own.row ha137) k7 hC) ?_
      rintro _ w156 ⟨⟨_, rfl, nx158, ac159, rfl, hn160, ha161⟩, e157⟩
      have hs162 := Below.size E
      have hs163 := Below.size e157
      replace E := E.trans e157
      replace hB26 := hB26.ext e157
      replace hB33 := hB33.ext e157
      replace hB57 := hB57.ext e157
      replace hB78 := hB78.ext e157
      replace hB119 := hB119.ext e157
      replace hB143 := hB143.ext e157
      refine Sq.move .plain rfl rfl ?_
      refine Sq.extract .plain rfl rfl rfl ?_
      refine Sq.extract .plain rfl rfl rfl ?_
      refine Sq.alloc zero26 .plain rfl (fun b164 w165 e166 hB167 hlo168 => ?_)
      have hd169 := Nat.le_trans (Below.size E) hlo168
      have hd170 := Nat.lt_of_lt_of_le hB26.lt hlo168
      have hd171 := Nat.lt_of_lt_of_le hB33.lt hlo168
      have hd172 := Nat.lt_of_lt_of_le hB57.lt hlo168
      have hd173 := Nat.lt_of_lt_of_le hB78.lt hlo168
      have hd174 := Nat.lt_of_lt_of_le hB119.lt hlo168
      have hd175 := Nat.lt_of_lt_of_le hB143.lt hlo168
      have hs176 := Below.size e166
      replace E := E.trans e166
      replace hB26 := hB26.ext e166
      replace hB33 := hB33.ext e166
      replace hB57 := hB57.ext e166
      replace hB78 := hB78.ext e166
      replace hB119 := hB119.ext e166
      replace hB143 := hB143.ext e166
      replace hn160 := hn160.ext e166
      replace ha161 := ha161.ext e166
      refine Sq.storeAgg agg26 .plain rfl rfl (one_cons rfl (one_cons (Rows.one (OwnRows.rows hn160)) (one_cons (Row.one (Own.row ha161)) one_nil))) hB167 rfl rfl (fun w177 g178 hB179 => ?_)
      have hs180 := World.grownBy.size g178
      replace E := E.grown g178 (fun k hk => by injection hk with hk; subst hk; omega)
      replace hB26 := hB26.grown g178 (by intro h; injection h with h; omega)
      replace hB33 := hB33.grown g178 (by intro h; injection h with h; omega)
      replace hB57 := hB57.grown g178 (by intro h; injection h with h; omega)
      replace hB78 := hB78.grown g178 (by intro h; injection h with h; omega)
      replace hB119 := hB119.grown g178 (by intro h; injection h with h; omega)
      replace hB143 := hB143.grown g178 (by intro h; injection h with h; omega)
      replace hn160 := hn160.stored g178 hB167 (by decide) (by decide)
      replace ha161 := ha161.stored g178 hB167 (by decide)
      replace hB167 := hB179
      refine Sq.assign .plain rfl rfl ?_
      refine Sq.nil ?_
      refine Eq.next ?_
      refine Cq.seq ?_
      refine Cq.region ?_
      refine Sq.move .plain rfl rfl ?_
      refine Sq.notT .plain rfl rfl ?_
      refine Sq.move .plain rfl rfl ?_
      refine Sq.loadAgg agg26 (.met rfl rfl rfl) rfl rfl hB167 rfl ?_
      have hd184 := hB26.lt
      have hd185 := hB33.lt
      have hd186 := hB57.lt
      have hd187 := hB78.lt
      have hd188 := hB119.lt
      have hd189 := hB143.lt
      have hd190 := hB167.lt
      refine Sq.call fn29 (.met rfl rfl rfl) rfl rfl (isPC_c _ ((prodA (safe aX8) (safe aY9) k7)) _ _ (OwnRows.rows hn160) (Own.row ha161)) ?_
      rintro _ w182 ⟨rfl, e183⟩
      have hs191 := Below.size E
      have hs192 := Below.size e183
      replace E := E.trans e183
      refine Sq.beT (prod_safe hva hvb hC hk2) ?_
      refine Sq.pickF .plain rfl rfl rfl ?_
      refine Sq.assign .plain rfl rfl ?_
      refine Sq.nil ?_
      refine Eq.next ?_
      refine Cq.ret ?_
      refine Eq.ret1 rfl rfl ?_
      exact ⟨rfl, E⟩
    refine Sq.call fn16 .plain rfl rfl (prod_c_F _ (safe aX8) (safe aY9) _ _ _ _ (OwnRows.rows hn112) (Own.row ha113) (OwnRows.rows hn136) (Own.row ha137) k7 hC) ?_
    rintro _ w193 ⟨⟨_, rfl, nx195, ac196, rfl, hn197, ha198⟩, e194⟩
    have hs199 := Below.size E
    have hs200 := Below.size e194
    replace E := E.trans e194
    replace hB26 := hB26.ext e194
    replace hB33 := hB33.ext e194
    replace hB57 := hB57.ext e194
    replace hB78 := hB78.ext e194
    replace hB119 := hB119.ext e194
    replace hB143 := hB143.ext e194
    refine Sq.move .plain rfl rfl ?_
    refine Sq.extract .plain rfl rfl rfl ?_
    refine Sq.extract .plain rfl rfl rfl ?_
    refine Sq.alloc zero26 .plain rfl (fun b201 w202 e203 hB204 hlo205 => ?_)
    have hd206 := Nat.le_trans (Below.size E) hlo205
    have hd207 := Nat.lt_of_lt_of_le hB26.lt hlo205
    have hd208 := Nat.lt_of_lt_of_le hB33.lt hlo205
    have hd209 := Nat.lt_of_lt_of_le hB57.lt hlo205
    have hd210 := Nat.lt_of_lt_of_le hB78.lt hlo205
    have hd211 := Nat.lt_of_lt_of_le hB119.lt hlo205
    have hd212 := Nat.lt_of_lt_of_le hB143.lt hlo205
    have hs213 := Below.size e203
    replace E := E.trans e203
    replace hn197 := hn197.ext e203
    replace ha198 := ha198.ext e203
    refine Sq.storeAgg agg26 .plain rfl rfl (one_cons rfl (one_cons (Rows.one (OwnRows.rows hn197)) (one_cons (Row.one (Own.row ha198)) one_nil))) hB204 rfl rfl (fun w214 g215 hB216 => ?_)
    have hs217 := World.grownBy.size g215
    replace E := E.grown g215 (fun k hk => by injection hk with hk; subst hk; omega)
    refine Sq.assign .plain rfl rfl ?_
    refine Sq.nil ?_
    refine Eq.next ?_
    refine Cq.seq ?_
    refine Cq.region ?_
    refine Sq.move .plain rfl rfl ?_
    refine Sq.notF .plain rfl rfl ?_
    refine Sq.move .plain rfl rfl ?_
    refine Sq.off rfl rfl rfl rfl rfl rfl ?_
    refine Sq.off rfl rfl rfl rfl rfl rfl ?_
    refine Sq.pickT .plain rfl rfl rfl ?_
    refine Sq.assign .plain rfl rfl ?_
    refine Sq.nil ?_
    refine Eq.next ?_
    refine Cq.ret ?_
    refine Eq.ret1 rfl rfl ?_
    exact ⟨rfl, E⟩
  refine Sq.call fn16 .plain rfl rfl (prod_c_F _ aX8 aY9 _ _ _ _ hnX12 haX13 hnY16 haY17 k7 hC) ?_
  rintro _ w218 ⟨⟨_, rfl, nx220, ac221, rfl, hn222, ha223⟩, e219⟩
  have hs224 := Below.size E
  have hs225 := Below.size e219
  replace E := E.trans e219
  replace hnX12 := hnX12.ext e219
  replace haX13 := haX13.ext e219
  replace hnY16 := hnY16.ext e219
  replace haY17 := haY17.ext e219
  replace hB26 := hB26.ext e219
  replace hB33 := hB33.ext e219
  refine Sq.move .plain rfl rfl ?_
  refine Sq.extract .plain rfl rfl rfl ?_
  refine Sq.extract .plain rfl rfl rfl ?_
  refine Sq.alloc zero26 .plain rfl (fun b226 w227 e228 hB229 hlo230 => ?_)
  have hd231 := Nat.le_trans (Below.size E) hlo230
  have hd232 := Nat.lt_of_lt_of_le hB26.lt hlo230
  have hd233 := Nat.lt_of_lt_of_le hB33.lt hlo230
  have hs234 := Below.size e228
  replace E := E.trans e228
  replace hnX12 := hnX12.ext e228
  replace haX13 := haX13.ext e228
  replace hnY16 := hnY16.ext e228
  replace haY17 := haY17.ext e228
  replace hB26 := hB26.ext e228
  replace hB33 := hB33.ext e228
  replace hn222 := hn222.ext e228
  replace ha223 := ha223.ext e228
  refine Sq.storeAgg agg26 .plain rfl rfl (one_cons rfl (one_cons (Rows.one (OwnRows.rows hn222)) (one_cons (Row.one (Own.row ha223)) one_nil))) hB229 rfl rfl (fun w235 g236 hB237 => ?_)
  have hs238 := World.grownBy.size g236
  replace E := E.grown g236 (fun k hk => by injection hk with hk; subst hk; omega)
  replace hnX12 := hnX12.stored g236 hB229 (by decide) (by decide)
  replace haX13 := haX13.stored g236 hB229 (by decide)
  replace hnY16 := hnY16.stored g236 hB229 (by decide) (by decide)
  replace haY17 := haY17.stored g236 hB229 (by decide)
  replace hB26 := hB26.grown g236 (by intro h; injection h with h; omega)
  replace hB33 := hB33.grown g236 (by intro h; injection h with h; omega)
  replace hn222 := hn222.stored g236 hB229 (by decide) (by decide)
  replace ha223 := ha223.stored g236 hB229 (by decide)
  replace hB229 := hB237
  refine Sq.assign .plain rfl rfl ?_
  refine Sq.nil ?_
  refine Eq.next ?_
  refine Cq.seq ?_
  refine Cq.region ?_
  refine Sq.loadAgg agg26 .plain rfl rfl hB26 rfl ?_
  refine Sq.loadAgg agg26 .plain rfl rfl hB33 rfl ?_
  refine Sq.move .plain rfl rfl ?_
  refine Sq.call fn17 .plain rfl rfl (sProd_c_F _ aX8 aY9 _ _ _ _ hnX12 haX13 hnY16 haY17 k7 hC) ?_
  rintro _ w239 ⟨⟨_, rfl, nx241, ac242, rfl, hn243, ha244⟩, e240⟩
  have hs245 := Below.size E
  have hs246 := Below.size e240
  replace E := E.trans e240
  replace hB26 := hB26.ext e240
  replace hB33 := hB33.ext e240
  replace hn222 := hn222.ext e240
  replace ha223 := ha223.ext e240
  replace hB229 := hB229.ext e240
  refine Sq.move .plain rfl rfl ?_
  refine Sq.extract .plain rfl rfl rfl ?_
  refine Sq.extract .plain rfl rfl rfl ?_
  refine Sq.alloc zero26 .plain rfl (fun b247 w248 e249 hB250 hlo251 => ?_)
  have hd252 := Nat.le_trans (Below.size E) hlo251
  have hd253 := Nat.lt_of_lt_of_le hB26.lt hlo251
  have hd254 := Nat.lt_of_lt_of_le hB33.lt hlo251
  have hd255 := Nat.lt_of_lt_of_le hB229.lt hlo251
  have hs256 := Below.size e249
  replace E := E.trans e249
  replace hB26 := hB26.ext e249
  replace hB33 := hB33.ext e249
  replace hn222 := hn222.ext e249
  replace ha223 := ha223.ext e249
  replace hB229 := hB229.ext e249
  replace hn243 := hn243.ext e249
  replace ha244 := ha244.ext e249
  refine Sq.storeAgg agg26 .plain rfl rfl (one_cons rfl (one_cons (Rows.one (OwnRows.rows hn243)) (one_cons (Row.one (Own.row ha244)) one_nil))) hB250 rfl rfl (fun w257 g258 hB259 => ?_)
  have hs260 := World.grownBy.size g258
  replace E := E.grown g258 (fun k hk => by injection hk with hk; subst hk; omega)
  replace hB26 := hB26.grown g258 (by intro h; injection h with h; omega)
  replace hB33 := hB33.grown g258 (by intro h; injection h with h; omega)
  replace hn222 := hn222.stored g258 hB250 (by decide) (by decide)
  replace ha223 := ha223.stored g258 hB250 (by decide)
  replace hB229 := hB229.grown g258 (by intro h; injection h with h; omega)
  replace hn243 := hn243.stored g258 hB250 (by decide) (by decide)
  replace ha244 := ha244.stored g258 hB250 (by decide)
  replace hB250 := hB259
  refine Sq.assign .plain rfl rfl ?_
  refine Sq.nil ?_
  refine Eq.next ?_
  refine Cq.seq ?_
  refine Cq.seq ?_
  refine Cq.region ?_
  refine Sq.loadAgg agg26 .plain rfl rfl hB229 rfl ?_
  refine Sq.loadAgg agg26 .plain rfl rfl hB250 rfl ?_
  have hd264 := hB26.lt
  have hd265 := hB33.lt
  have hd266 := hB229.lt
  have hd267 := hB250.lt
  refine Sq.call fn18 .plain rfl rfl (agAutomata_c _ zeroA zeroA _ _ _ _ (OwnRows.rows hn222) (Own.row ha223) (OwnRows.rows hn243) (Own.row ha244) (by first | exact fit_zero | exact fit_of_valid (by first | assumption | exact extend_valid hv hk | exact compl_valid' (extend_valid hv hk) | exact safe_valid hva | exact safe_valid hvb | exact safe_valid hv | exact prod_valid hC | exact prod_valid (prodOk_kind hC (by decide))) | assumption)) ?_
  rintro _ w262 ⟨rfl, e263⟩
  have hs268 := Below.size E
  have hs269 := Below.size e263
  replace E := E.trans e263
  replace hB26 := hB26.ext e263
  replace hB33 := hB33.ext e263
  replace hn222 := hn222.ext e263
  replace ha223 := ha223.ext e263
  replace hB229 := hB229.ext e263
  replace hn243 := hn243.ext e263
  replace ha244 := ha244.ext e263
  replace hB250 := hB250.ext e263
  refine Sq.beT (by exact eqA_refl _) ?_
  refine Sq.notT .plain rfl rfl ?_
  refine Sq.move .plain rfl rfl ?_
  refine Sq.move (.met rfl rfl rfl) rfl rfl ?_
  refine Sq.move (.met rfl rfl rfl) rfl rfl ?_
  refine Sq.neqB und4 (.met rfl rfl rfl) rfl rfl rfl ?_
  refine Sq.pickF .plain rfl rfl rfl ?_
  refine Sq.move .plain rfl rfl ?_
  refine Sq.move (.met rfl rfl rfl) rfl rfl ?_
  refine Sq.notF (.met rfl rfl rfl) rfl rfl ?_
  refine Sq.pickF .plain rfl rfl rfl ?_
  refine Sq.move .plain rfl rfl ?_
  refine Sq.off rfl rfl rfl rfl rfl rfl ?_
  refine Sq.off rfl rfl rfl rfl rfl rfl ?_
  refine Sq.pickT .plain rfl rfl rfl ?_
  refine Sq.nil ?_
  refine Eq.next ?_
  refine Cq.thn rfl ?_
  refine Cq.seq ?_
  refine Cq.region ?_
  refine Sq.loadAgg agg26 .plain rfl rfl hB229 rfl ?_
  refine Sq.loadAgg agg26 .plain rfl rfl hB250 rfl ?_
  have hd273 := hB26.lt
  have hd274 := hB33.lt
  have hd275 := hB229.lt
  have hd276 := hB250.lt
  refine Sq.call fn18 .plain rfl rfl (agAutomata_c _ zeroA zeroA _ _ _ _ (OwnRows.rows hn222) (Own.row ha223) (OwnRows.rows hn243) (Own.row ha244) (by first | exact fit_zero | exact fit_of_valid (by first | assumption | exact extend_valid hv hk | exact compl_valid' (extend_valid hv hk) | exact safe_valid hva | exact safe_valid hvb | exact safe_valid hv | exact prod_valid hC | exact prod_valid (prodOk_kind hC (by decide))) | assumption)) ?_
  rintro _ w271 ⟨rfl, e272⟩
  have hs277 := Below.size E
  have hs278 := Below.size e272
  replace E := E.trans e272
  refine Sq.beT (by exact eqA_refl _) ?_
  refine Sq.move .plain rfl rfl ?_
  refine Sq.move (.met rfl rfl rfl) rfl rfl ?_
  refine Sq.move (.met rfl rfl rfl) rfl rfl ?_
  refine Sq.eqlB und4 (.met rfl rfl rfl) rfl rfl rfl ?_
  refine Sq.pickT .plain rfl rfl rfl ?_
  refine Sq.assign .plain rfl rfl ?_
  refine Sq.nil ?_
  refine Eq.next ?_
  refine Cq.ret ?_
  refine Eq.pastRet ?_
  refine Eq.ret1 rfl rfl ?_
  exact ⟨rfl, E⟩
end Go.Proofs.Ytdejmfkpohgamaa
set_option linter.unusedSimpArgs false
set_option linter.unusedVariables false
namespace Go.Proofs.Ytdejmfkpohgamaa
open Go.RowKit
def IsRow (k : IntKind) (w : World) (a : Option Addr) (len cap : Nat) (zs : List Int) : Prop :=
  (a = none ∧ len = 0 ∧ cap = 0 ∧ zs = []) ∨
  ∃ x, a = some x ∧ len ≤ cap ∧ cap ≤ maxLen ∧ zs.length = cap ∧ (∀ i, i < zs.length → w.cell? (x.add i) = some (.int k (zs.getD i 0))) ∧ ∀ n ∈ zs, (Lit.int k n).wf = true
theorem wf8 {n : Int} (h : (Lit.int .u8 n).wf = true) : 0 ≤ n ∧ n ≤ 255 := by
  simp [Lit.wf, IntKind.min, IntKind.max, IntKind.signed, IntKind.bits] at h
  omega
theorem bytes_of {w : World} {a : Option Addr} {len cap : Nat} {zs : List Int} (h : IsRow .u8 w a len cap zs) : ∃ e xs, len = List.length xs ∧ Bytes w e (.slice a xs.length cap) xs ∧ xs.length ≤ cap := by
  rcases h with ⟨rfl, rfl, rfl, rfl⟩ | ⟨x, rfl, hl, hm, hz, hcell, hwz⟩
  · exact ⟨0, [], rfl, .inl ⟨rfl, none, 0, rfl, fun _ => rfl⟩, Nat.le_refl _⟩
  · rcases Nat.eq_zero_or_pos len with h0 | h0
    · subst h0
      exact ⟨0, [], rfl, .inl ⟨rfl, some x, cap, rfl, fun h => by cases h⟩, Nat.zero_le _⟩
    · obtain ⟨b, o, s⟩ := x
      have hc := hcell 0 (by omega)
      have hs : s = none := by simpa [Addr.add] using World.cell?_spot hc
      subst hs
      have hb : ∃ cur e fr, w.heap[b]? = some (.cells cur e fr) := by
        rw [addr_add] at hc
        unfold World.cell? at hc
        simp only at hc
        cases hw : w.heap[b]? with
        | none => rw [hw] at hc; simp at hc
        | some ob =>
          rw [hw] at hc
          cases ob <;> simp at hc
          rename_i cur e fr
          exact ⟨cur, e, fr, rfl⟩
      obtain ⟨cur, e, fr, hb⟩ := hb
      have hlen : ((zs.take len).map fun z => UInt8.ofNat z.toNat).length = len := by simp; omega
      refine ⟨e, (zs.take len).map fun z => UInt8.ofNat z.toNat, hlen.symm, .inr ⟨b, o, cap, cur, fr, by simp, hb, fun i y hy => ?_⟩, by omega⟩
      have hi : i < len := by
        have := (List.getElem?_eq_some_iff.1 hy).1
        simp at this; omega
      have hi2 : i < zs.length := by omega
      have h1 := hcell i hi2
      rw [addr_add] at h1
      have h2 : y = .int .u8 (zs.getD i 0) := by
        have hw := wf8 (hwz _ (List.getElem_mem hi2))
        have e2 := u8_of hw
        simp [List.getElem?_take, hi, hi2] at hy
        rw [← hy]
        simp [hi2]
        omega
      rw [h2]
      simpa [World.cell?, hb] using h1
end Go.Proofs.Ytdejmfkpohgamaa
