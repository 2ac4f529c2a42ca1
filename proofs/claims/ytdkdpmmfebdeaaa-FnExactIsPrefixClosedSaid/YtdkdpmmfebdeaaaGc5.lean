/-
  The texts of this proof, joined (wip/merge.py): the calculus of slots, plain mathematics, walks.
-/
import Derived.Test.YtdkdpmmfebdeaaaGc4
set_option linter.unusedSimpArgs false
set_option linter.unusedVariables false
namespace Go.Proofs.Ytdkdpmmfebdeaaa
open Go.RowKit
set_option maxRecDepth 100000 in
theorem letterByte_c (x : Int) (hx : 0 ≤ x ∧ x ≤ 100) (w0 : World) : Ret Try.prog 109 #[Value.int .i64 x] w0 (fun v w => v = .int .u8 (97 + x) ∧ w0 = w) := by
  refine Ret.of (args := [Value.int .i64 x]) Try.func109 rfl rfl rfl ?_
  rintro _ rfl
  show Cq _ _ _ _ [(0, Value.int .i64 x)] _
  refine Cq.seq ?_
  refine Cq.region ?_
  refine Sq.assign .plain rfl rfl ?_
  refine Sq.nil ?_
  refine Eq.next ?_
  refine Cq.seq ?_
  refine Cq.region ?_
  refine Sq.move .plain rfl rfl ?_
  refine Sq.add .plain rfl rfl rfl (by omega) ?_
  refine Sq.conv8 conv3_5 .plain rfl rfl (by omega) ?_
  refine Sq.assign .plain rfl rfl ?_
  refine Sq.nil ?_
  refine Eq.next ?_
  refine Cq.ret ?_
  refine Eq.ret1 rfl rfl ?_
  exact ⟨rfl, rfl⟩
set_option maxRecDepth 100000 in
theorem reverse_c (w0 : World) (B : Nat) (r : Value) (xs : List UInt8) (ho : Own w0 B 5 r (xs.map fun b => Value.int .u8 (b.toNat : Int))) (hl : xs.length ≤ 1000) : Ret Try.prog 110 #[r] w0 (fun v w => v = .tuple #[] ∧ Own w B 5 r (xs.reverse.map fun b => Value.int .u8 (b.toNat : Int)) ∧ w0.grownBy w r.ownBlock) := by
  have hgo := World.grownBy.refl w0 r.ownBlock
  refine Ret.of (args := [r]) Try.func110 rfl rfl rfl ?_
  rintro _ rfl
  show Cq _ _ _ _ [(0, r)] _
  refine Cq.seq ?_
  refine Cq.region ?_
  refine Sq.move .plain rfl rfl ?_
  refine Sq.lenBytes (Own.row ho) .plain rfl und103 rfl ?_
  refine Sq.sub .plain rfl rfl rfl (by omega) ?_
  refine Sq.assign .plain rfl rfl ?_
  refine Sq.assign .plain rfl rfl ?_
  refine Sq.nil ?_
  refine Eq.next ?_
  refine Cq.block ?_
  rw [show ((xs.length : Int) - 1) = (xs.length : Int) - 1 - 0 by omega]
  refine Cq.loop (fun nn w ls => ∃ (i : Int), ∃ (ys : List UInt8), ls = [(0, r), (2, Value.int .i64 i), (3, Value.int .i64 ((xs.length : Int) - 1 - i))] ∧ (0 ≤ i ∧ i ≤ xs.length) ∧ Own w B 5 r (ys.map fun b => Value.int .u8 (b.toNat : Int)) ∧ RevAt xs i.toNat ys ∧ World.grownBy w0 w r.ownBlock ∧ nn = ((xs.length : Int) - i).toNat) _ _ ⟨0, _, rfl, by omega, ho, RevAt.zero xs, hgo, rfl⟩ (.cons rfl (.cons rfl (.cons rfl (.nil)))) ?_
  rintro nn wl1 ls ⟨i, ys, rfl, hi, ho, hr, hgo, rfl⟩
  have hyl := hr.1
  refine Cq.seq ?_
  refine Cq.seq ?_
  refine Cq.region ?_
  refine Sq.move .plain rfl rfl ?_
  refine Sq.move .plain rfl rfl ?_
  refine Sq.lss .plain rfl rfl rfl ?_
  refine Sq.part (fun c1 => ?_) (fun c1 => ?_)
  · refine Sq.nil ?_
    refine Eq.next ?_
    refine Cq.thn rfl ?_
    refine Cq.skip ?_
    refine Eq.next ?_
    refine Cq.seq ?_
    refine Cq.block ?_
    refine Cq.drawS 14 (fun w' => World.grownBy w0 w' r.ownBlock) mixed (hgo) (fun w2 e3 hS => ?_)
    clear hS
    have hs4 := Below.size e3
    replace hgo := grown_trans hgo (Ext.to_grown e3 _)
    replace ho := ho.ext e3
    have ho_w2 := ho
    refine Gq.st 0 rfl (by kernel_rfl) rfl .plain rfl (fun _ _ _ h => h) hgo (fun w' x => Still.move rfl) ?_
    refine Gq.st 1 rfl (by kernel_rfl) rfl .plain rfl (fun _ _ _ h => h) hgo (fun w' x => Still.move rfl) ?_
    refine Gq.st 2 rfl (by kernel_rfl) rfl .plain rfl (fun _ _ _ h => h) hgo (fun w' x => Still.move rfl) ?_
    refine Gq.st 3 rfl (by kernel_rfl) rfl .plain rfl (fun _ _ _ h => h) hgo (fun w' x => Still.move rfl) ?_
    refine Gq.st 4 rfl (by kernel_rfl) rfl .plain rfl (fun _ _ _ h => h) hgo (fun w' x => Still.move rfl) ?_
    refine Gq.st 5 rfl (by kernel_rfl) rfl .plain rfl (fun _ _ _ h => h) hgo (fun w' x => Still.move rfl) ?_
    refine Gq.st 8 rfl (by kernel_rfl) rfl .plain rfl (fun _ _ _ h => h) hgo (fun w' x => Still.move rfl) ?_
    refine Gq.st 9 rfl (by kernel_rfl) rfl .plain rfl (fun _ _ _ h => h) hgo (fun w' x => Still.move rfl) ?_
    refine Gq.two 6 10 rfl rfl (by kernel_rfl) ?_ ?_
    · obtain ⟨p5, hp6⟩ := Bytes.at (Own.row ho) (i := ((xs.length : Int) - 1 - i)) (by omega) (by omega)
      refine Sq.val .plain rfl rfl (Still.at' sl103 hp6 rfl rfl) ?_
      refine Sq.nil ?_
      refine Eq.goes (fun _ => hgo) ?_
      refine Gq.two 7 10 rfl rfl (by kernel_rfl) ?_ ?_
      · refine Sq.val .plain rfl rfl (Still.loadA one5 rfl hp6.1) ?_
        refine Sq.nil ?_
        refine Eq.goes (fun _ => hgo) ?_
        refine Gq.one 10 rfl (by kernel_rfl) ?_
        obtain ⟨p7, hp8⟩ := Bytes.at (Own.row ho) (i := i) (by omega) (by omega)
        refine Sq.val .plain rfl rfl (Still.at' sl103 hp8 rfl rfl) ?_
        refine Sq.nil ?_
        refine Eq.goes (fun _ => hgo) ?_
        refine Gq.one 11 rfl (by kernel_rfl) ?_
        refine Sq.val .plain rfl rfl (Still.loadA one5 rfl hp8.1) ?_
        refine Sq.nil ?_
        refine Eq.goes (fun _ => hgo) ?_
        obtain ⟨p9, hp10_w2⟩ := Bytes.at (Own.row ho_w2) (i := i) (by omega) (by omega)
        have hp10o := AtO.of ho_w2 hp10_w2
        refine Gq.st 12 rfl (by kernel_rfl) rfl .plain rfl (fun _ _ _ h => h) hgo (fun w' x => Still.at' sl103 hp10_w2 rfl rfl) ?_
        refine Gq.one 13 rfl (by kernel_rfl) ?_
        refine Sq.storeO one5 ho hp10o .plain rfl rfl rfl (fun w11 g12 ho13 => ?_)
        have hs14 := World.grownBy.size g12
        replace hgo := grown_trans hgo g12
        replace ho := ho13
        refine Sq.nil ?_
        refine Eq.goes (fun _ => hgo) ?_
        refine Gq.one 14 rfl (by kernel_rfl) ?_
        obtain ⟨p15, hp16o⟩ := Own.at ho (i := ((xs.length : Int) - 1 - i)) (by omega) (by first | (simp only [List.length_map]; omega) | (simp; omega))
        refine Sq.atO sl103 hp16o .plain rfl rfl rfl ?_
        refine Sq.nil ?_
        refine Eq.goes (fun h => absurd h (by decide)) ?_
        refine Gq.one 15 rfl (by kernel_rfl) ?_
        refine Sq.storeO one5 ho hp16o .plain rfl rfl rfl (fun w17 g18 ho19 => ?_)
        have hs20 := World.grownBy.size g18
        replace hgo := grown_trans hgo g18
        replace ho := ho19
        refine Sq.nil ?_
        refine Eq.goes (fun h => absurd h (by decide)) ?_
        refine Gq.done (by kernel_rfl) ?_
        refine Eq.end ?_
        refine Eq.next ?_
        refine Cq.region ?_
        refine Sq.move .plain rfl rfl ?_
        refine Sq.add .plain rfl rfl rfl (by omega) ?_
        refine Sq.move .plain rfl rfl ?_
        refine Sq.sub .plain rfl rfl rfl (by omega) ?_
        refine Sq.assign .plain rfl rfl ?_
        refine Sq.assign .plain rfl rfl ?_
        refine Sq.nil ?_
        have e1 := toNat_succ hi.1
        have e2 : (((xs.length : Int) - 1 - i) - 1) = (xs.length : Int) - 1 - (i + 1) := by omega
        have e3 := hr.step (by omega)
        have e4 : ((xs.length : Int) - 1 - i).toNat = xs.length - 1 - i.toNat := by omega
        rw [e2]
        refine Eq.round _ _ ⟨i + 1, _, rfl, by omega, Own.setU2 ho, by rw [e1, e4]; exact e3, hgo, rfl⟩ (by omega) (.cons rfl (.cons rfl (.cons rfl (.nil))))
      obtain ⟨p21, hp22⟩ := Bytes.at (Own.row ho) (i := i) (by omega) (by omega)
      refine Sq.val .plain rfl rfl (Still.at' sl103 hp22 rfl rfl) ?_
      refine Sq.nil ?_
      refine Eq.goes (fun _ => hgo) ?_
      refine Gq.two 7 11 rfl rfl (by kernel_rfl) ?_ ?_
      · refine Sq.val .plain rfl rfl (Still.loadA one5 rfl hp6.1) ?_
        refine Sq.nil ?_
        refine Eq.goes (fun _ => hgo) ?_
        refine Gq.one 11 rfl (by kernel_rfl) ?_
        refine Sq.val .plain rfl rfl (Still.loadA one5 rfl hp22.1) ?_
        refine Sq.nil ?_
        refine Eq.goes (fun _ => hgo) ?_
        obtain ⟨p23, hp24_w2⟩ := Bytes.at (Own.row ho_w2) (i := i) (by omega) (by omega)
        have hp24o := AtO.of ho_w2 hp24_w2
        refine Gq.st 12 rfl (by kernel_rfl) rfl .plain rfl (fun _ _ _ h => h) hgo (fun w' x => Still.at' sl103 hp24_w2 rfl rfl) ?_
        refine Gq.one 13 rfl (by kernel_rfl) ?_
        refine Sq.storeO one5 ho hp24o .plain rfl rfl rfl (fun w25 g26 ho27 => ?_)
        have hs28 := World.grownBy.size g26
        replace hgo := grown_trans hgo g26
        replace ho := ho27
        refine Sq.nil ?_
        refine Eq.goes (fun _ => hgo) ?_
        refine Gq.one 14 rfl (by kernel_rfl) ?_
        obtain ⟨p29, hp30o⟩ := Own.at ho (i := ((xs.length : Int) - 1 - i)) (by omega) (by first | (simp only [List.length_map]; omega) | (simp; omega))
        refine Sq.atO sl103 hp30o .plain rfl rfl rfl ?_
        refine Sq.nil ?_
        refine Eq.goes (fun h => absurd h (by decide)) ?_
        refine Gq.one 15 rfl (by kernel_rfl) ?_
        refine Sq.storeO one5 ho hp30o .plain rfl rfl rfl (fun w31 g32 ho33 => ?_)
        have hs34 := World.grownBy.size g32
        replace hgo := grown_trans hgo g32
        replace ho := ho33
        refine Sq.nil ?_
        refine Eq.goes (fun h => absurd h (by decide)) ?_
        refine Gq.done (by kernel_rfl) ?_
        refine Eq.end ?_
        refine Eq.next ?_
        refine Cq.region ?_
        refine Sq.move .plain rfl rfl ?_
        refine Sq.add .plain rfl rfl rfl (by omega) ?_
        refine Sq.move .plain rfl rfl ?_
        refine Sq.sub .plain rfl rfl rfl (by omega) ?_
        refine Sq.assign .plain rfl rfl ?_
        refine Sq.assign .plain rfl rfl ?_
        refine Sq.nil ?_
        have e1 := toNat_succ hi.1
        have e2 : (((xs.length : Int) - 1 - i) - 1) = (xs.length : Int) - 1 - (i + 1) := by omega
        have e3 := hr.step (by omega)
        have e4 : ((xs.length : Int) - 1 - i).toNat = xs.length - 1 - i.toNat := by omega
        rw [e2]
        refine Eq.round _ _ ⟨i + 1, _, rfl, by omega, Own.setU2 ho, by rw [e1, e4]; exact e3, hgo, rfl⟩ (by omega) (.cons rfl (.cons rfl (.cons rfl (.nil))))
      refine Sq.val .plain rfl rfl (Still.loadA one5 rfl hp22.1) ?_
      refine Sq.nil ?_
      refine Eq.goes (fun _ => hgo) ?_
      refine Gq.one 7 rfl (by kernel_rfl) ?_
      refine Sq.val .plain rfl rfl (Still.loadA one5 rfl hp6.1) ?_
      refine Sq.nil ?_
      refine Eq.goes (fun _ => hgo) ?_
      obtain ⟨p35, hp36_w2⟩ := Bytes.at (Own.row ho_w2) (i := i) (by omega) (by omega)
      have hp36o := AtO.of ho_w2 hp36_w2
      refine Gq.st 12 rfl (by kernel_rfl) rfl .plain rfl (fun _ _ _ h => h) hgo (fun w' x => Still.at' sl103 hp36_w2 rfl rfl) ?_
      refine Gq.one 13 rfl (by kernel_rfl) ?_
      refine Sq.storeO one5 ho hp36o .plain rfl rfl rfl (fun w37 g38 ho39 => ?_)
      have hs40 := World.grownBy.size g38
      replace hgo := grown_trans hgo g38
      replace ho := ho39
      refine Sq.nil ?_
      refine Eq.goes (fun _ => hgo) ?_
      refine Gq.one 14 rfl (by kernel_rfl) ?_
      obtain ⟨p41, hp42o⟩ := Own.at ho (i := ((xs.length : Int) - 1 - i)) (by omega) (by first | (simp only [List.length_map]; omega) | (simp; omega))
      refine Sq.atO sl103 hp42o .plain rfl rfl rfl ?_
      refine Sq.nil ?_
      refine Eq.goes (fun h => absurd h (by decide)) ?_
      refine Gq.one 15 rfl (by kernel_rfl) ?_
      refine Sq.storeO one5 ho hp42o .plain rfl rfl rfl (fun w43 g44 ho45 => ?_)
      have hs46 := World.grownBy.size g44
      replace hgo := grown_trans hgo g44
      replace ho := ho45
      refine Sq.nil ?_
      refine Eq.goes (fun h => absurd h (by decide)) ?_
      refine Gq.done (by kernel_rfl) ?_
      refine Eq.end ?_
      refine Eq.next ?_
      refine Cq.region ?_
      refine Sq.move .plain rfl rfl ?_
      refine Sq.add .plain rfl rfl rfl (by omega) ?_
      refine Sq.move .plain rfl rfl ?_
      refine Sq.sub .plain rfl rfl rfl (by omega) ?_
      refine Sq.assign .plain rfl rfl ?_
      refine Sq.assign .plain rfl rfl ?_
      refine Sq.nil ?_
      have e1 := toNat_succ hi.1
      have e2 : (((xs.length : Int) - 1 - i) - 1) = (xs.length : Int) - 1 - (i + 1) := by omega
      have e3 := hr.step (by omega)
      have e4 : ((xs.length : Int) - 1 - i).toNat = xs.length - 1 - i.toNat := by omega
      rw [e2]
      refine Eq.round _ _ ⟨i + 1, _, rfl, by omega, Own.setU2 ho, by rw [e1, e4]; exact e3, hgo, rfl⟩ (by omega) (.cons rfl (.cons rfl (.cons rfl (.nil))))
    obtain ⟨p47, hp48⟩ := Bytes.at (Own.row ho) (i := i) (by omega) (by omega)
    refine Sq.val .plain rfl rfl (Still.at' sl103 hp48 rfl rfl) ?_
    refine Sq.nil ?_
    refine Eq.goes (fun _ => hgo) ?_
    refine Gq.two 6 11 rfl rfl (by kernel_rfl) ?_ ?_
    · obtain ⟨p49, hp50⟩ := Bytes.at (Own.row ho) (i := ((xs.length : Int) - 1 - i)) (by omega) (by omega)
      refine Sq.val .plain rfl rfl (Still.at' sl103 hp50 rfl rfl) ?_
      refine Sq.nil ?_
      refine Eq.goes (fun _ => hgo) ?_
      refine Gq.two 7 11 rfl rfl (by kernel_rfl) ?_ ?_
      · refine Sq.val .plain rfl rfl (Still.loadA one5 rfl hp50.1) ?_
        refine Sq.nil ?_
        refine Eq.goes (fun _ => hgo) ?_
        refine Gq.one 11 rfl (by kernel_rfl) ?_
        refine Sq.val .plain rfl rfl (Still.loadA one5 rfl hp48.1) ?_
        refine Sq.nil ?_
        refine Eq.goes (fun _ => hgo) ?_
        obtain ⟨p51, hp52_w2⟩ := Bytes.at (Own.row ho_w2) (i := i) (by omega) (by omega)
        have hp52o := AtO.of ho_w2 hp52_w2
        refine Gq.st 12 rfl (by kernel_rfl) rfl .plain rfl (fun _ _ _ h => h) hgo (fun w' x => Still.at' sl103 hp52_w2 rfl rfl) ?_
        refine Gq.one 13 rfl (by kernel_rfl) ?_
        refine Sq.storeO one5 ho hp52o .plain rfl rfl rfl (fun w53 g54 ho55 => ?_)
        have hs56 := World.grownBy.size g54
        replace hgo := grown_trans hgo g54
        replace ho := ho55
        refine Sq.nil ?_
        refine Eq.goes (fun _ => hgo) ?_
        refine Gq.one 14 rfl (by kernel_rfl) ?_
        obtain ⟨p57, hp58o⟩ := Own.at ho (i := ((xs.length : Int) - 1 - i)) (by omega) (by first | (simp only [List.length_map]; omega) | (simp; omega))
        refine Sq.atO sl103 hp58o .plain rfl rfl rfl ?_
        refine Sq.nil ?_
        refine Eq.goes (fun h => absurd h (by decide)) ?_
        refine Gq.one 15 rfl (by kernel_rfl) ?_
        refine Sq.storeO one5 ho hp58o .plain rfl rfl rfl (fun w59 g60 ho61 => ?_)
        have hs62 := World.grownBy.size g60
        replace hgo := grown_trans hgo g60
        replace ho := ho61
        refine Sq.nil ?_
        refine Eq.goes (fun h => absurd h (by decide)) ?_
        refine Gq.done (by kernel_rfl) ?_
        refine Eq.end ?_
        refine Eq.next ?_
        refine Cq.region ?_
        refine Sq.move .plain rfl rfl ?_
        refine Sq.add .plain rfl rfl rfl (by omega) ?_
        refine Sq.move .plain rfl rfl ?_
        refine Sq.sub .plain rfl rfl rfl (by omega) ?_
        refine Sq.assign .plain rfl rfl ?_
        refine Sq.assign .plain rfl rfl ?_
        refine Sq.nil ?_
        have e1 := toNat_succ hi.1
        have e2 : (((xs.length : Int) - 1 - i) - 1) = (xs.length : Int) - 1 - (i + 1) := by omega
        have e3 := hr.step (by omega)
        have e4 : ((xs.length : Int) - 1 - i).toNat = xs.length - 1 - i.toNat := by omega
        rw [e2]
        refine Eq.round _ _ ⟨i + 1, _, rfl, by omega, Own.setU2 ho, by rw [e1, e4]; exact e3, hgo, rfl⟩ (by omega) (.cons rfl (.cons rfl (.cons rfl (.nil))))
      refine Sq.val .plain rfl rfl (Still.loadA one5 rfl hp48.1) ?_
      refine Sq.nil ?_
      refine Eq.goes (fun _ => hgo) ?_
      refine Gq.one 7 rfl (by kernel_rfl) ?_
      refine Sq.val .plain rfl rfl (Still.loadA one5 rfl hp50.1) ?_
      refine Sq.nil ?_
      refine Eq.goes (fun _ => hgo) ?_
      obtain ⟨p63, hp64_w2⟩ := Bytes.at (Own.row ho_w2) (i := i) (by omega) (by omega)
      have hp64o := AtO.of ho_w2 hp64_w2
      refine Gq.st 12 rfl (by kernel_rfl) rfl .plain rfl (fun _ _ _ h => h) hgo (fun w' x => Still.at' sl103 hp64_w2 rfl rfl) ?_
      refine Gq.one 13 rfl (by kernel_rfl) ?_
      refine Sq.storeO one5 ho hp64o .plain rfl rfl rfl (fun w65 g66 ho67 => ?_)
      have hs68 := World.grownBy.size g66
      replace hgo := grown_trans hgo g66
      replace ho := ho67
      refine Sq.nil ?_
      refine Eq.goes (fun _ => hgo) ?_
      refine Gq.one 14 rfl (by kernel_rfl) ?_
      obtain ⟨p69, hp70o⟩ := Own.at ho (i := ((xs.length : Int) - 1 - i)) (by omega) (by first | (simp only [List.length_map]; omega) | (simp; omega))
      refine Sq.atO sl103 hp70o .plain rfl rfl rfl ?_
      refine Sq.nil ?_
      refine Eq.goes (fun h => absurd h (by decide)) ?_
      refine Gq.one 15 rfl (by kernel_rfl) ?_
      refine Sq.storeO one5 ho hp70o .plain rfl rfl rfl (fun w71 g72 ho73 => ?_)
      have hs74 := World.grownBy.size g72
      replace hgo := grown_trans hgo g72
      replace ho := ho73
      refine Sq.nil ?_
      refine Eq.goes (fun h => absurd h (by decide)) ?_
      refine Gq.done (by kernel_rfl) ?_
      refine Eq.end ?_
      refine Eq.next ?_
      refine Cq.region ?_
      refine Sq.move .plain rfl rfl ?_
      refine Sq.add .plain rfl rfl rfl (by omega) ?_
      refine Sq.move .plain rfl rfl ?_
      refine Sq.sub .plain rfl rfl rfl (by omega) ?_
      refine Sq.assign .plain rfl rfl ?_
      refine Sq.assign .plain rfl rfl ?_
      refine Sq.nil ?_
      have e1 := toNat_succ hi.1
      have e2 : (((xs.length : Int) - 1 - i) - 1) = (xs.length : Int) - 1 - (i + 1) := by omega
      have e3 := hr.step (by omega)
      have e4 : ((xs.length : Int) - 1 - i).toNat = xs.length - 1 - i.toNat := by omega
      rw [e2]
      refine Eq.round _ _ ⟨i + 1, _, rfl, by omega, Own.setU2 ho, by rw [e1, e4]; exact e3, hgo, rfl⟩ (by omega) (.cons rfl (.cons rfl (.cons rfl (.nil))))
    refine Sq.val .plain rfl rfl (Still.loadA one5 rfl hp48.1) ?_
    refine Sq.nil ?_
    refine Eq.goes (fun _ => hgo) ?_
    refine Gq.one 6 rfl (by kernel_rfl) ?_
    obtain ⟨p75, hp76⟩ := Bytes.at (Own.row ho) (i := ((xs.length : Int) - 1 - i)) (by omega) (by omega)
    refine Sq.val .plain rfl rfl (Still.at' sl103 hp76 rfl rfl) ?_
    refine Sq.nil ?_
    refine Eq.goes (fun _ => hgo) ?_
    refine Gq.one 7 rfl (by kernel_rfl) ?_
    refine Sq.val .plain rfl rfl (Still.loadA one5 rfl hp76.1) ?_
    refine Sq.nil ?_
    refine Eq.goes (fun _ => hgo) ?_
    obtain ⟨p77, hp78_w2⟩ := Bytes.at (Own.row ho_w2) (i := i) (by omega) (by omega)
    have hp78o := AtO.of ho_w2 hp78_w2
    refine Gq.st 12 rfl (by kernel_rfl) rfl .plain rfl (fun _ _ _ h => h) hgo (fun w' x => Still.at' sl103 hp78_w2 rfl rfl) ?_
    refine Gq.one 13 rfl (by kernel_rfl) ?_
    refine Sq.storeO one5 ho hp78o .plain rfl rfl rfl (fun w79 g80 ho81 => ?_)
    have hs82 := World.grownBy.size g80
    replace hgo := grown_trans hgo g80
    replace ho := ho81
    refine Sq.nil ?_
    refine Eq.goes (fun _ => hgo) ?_
    refine Gq.one 14 rfl (by kernel_rfl) ?_
    obtain ⟨p83, hp84o⟩ := Own.at ho (i := ((xs.length : Int) - 1 - i)) (by omega) (by first | (simp only [List.length_map]; omega) | (simp; omega))
    refine Sq.atO sl103 hp84o .plain rfl rfl rfl ?_
    refine Sq.nil ?_
    refine Eq.goes (fun h => absurd h (by decide)) ?_
    refine Gq.one 15 rfl (by kernel_rfl) ?_
    refine Sq.storeO one5 ho hp84o .plain rfl rfl rfl (fun w85 g86 ho87 => ?_)
    have hs88 := World.grownBy.size g86
    replace hgo := grown_trans hgo g86
    replace ho := ho87
    refine Sq.nil ?_
    refine Eq.goes (fun h => absurd h (by decide)) ?_
    refine Gq.done (by kernel_rfl) ?_
    refine Eq.end ?_
    refine Eq.next ?_
    refine Cq.region ?_
    refine Sq.move .plain rfl rfl ?_
    refine Sq.add .plain rfl rfl rfl (by omega) ?_
    refine Sq.move .plain rfl rfl ?_
    refine Sq.sub .plain rfl rfl rfl (by omega) ?_
    refine Sq.assign .plain rfl rfl ?_
    refine Sq.assign .plain rfl rfl ?_
    refine Sq.nil ?_
    have e1 := toNat_succ hi.1
    have e2 : (((xs.length : Int) - 1 - i) - 1) = (xs.length : Int) - 1 - (i + 1) := by omega
    have e3 := hr.step (by omega)
    have e4 : ((xs.length : Int) - 1 - i).toNat = xs.length - 1 - i.toNat := by omega
    rw [e2]
    refine Eq.round _ _ ⟨i + 1, _, rfl, by omega, Own.setU2 ho, by rw [e1, e4]; exact e3, hgo, rfl⟩ (by omega) (.cons rfl (.cons rfl (.cons rfl (.nil))))
  refine Sq.nil ?_
  refine Eq.next ?_
  refine Cq.els rfl ?_
  refine Cq.exit ?_
  refine Eq.past ?_
  refine Eq.past ?_
  refine Eq.hit ?_
  refine Eq.fall0 rfl ?_
  exact ⟨rfl, by rw [← hr.done (by omega)]; exact ho, hgo⟩
end Go.Proofs.Ytdkdpmmfebdeaaa
set_option linter.unusedSimpArgs false
set_option linter.unusedVariables false
namespace Go.Proofs.Ytdkdpmmfebdeaaa
open Go.RowKit
set_option maxRecDepth 100000 in
theorem pathWord_c (w0 : World) (B : Nat) (tv : Value) (rs : List (Int × Int × Value)) (f : Int → Int → Int) (s : Int) (ws : List (List Int)) (hW : Wid w0 B 106 3 tv (rows3 rs)) (hSt : Trail w0 3 f s ws rs) (wd : List Int) (hwd : ws[ws.length - 1]? = some wd) (hwl : wd.length ≤ 1000) (hsl : ws.length ≤ 1000) : Ret Try.prog 107 #[tv] w0 (fun v w => v = .string (txt wd) ∧ Ext w0 w) := by
  have E := Ext.refl w0
  have hwn := (List.getElem?_eq_some_iff.1 hwd).1
  have hrl := hSt.len
  refine Ret.of (args := [tv]) Try.func107 rfl rfl rfl ?_
  rintro _ rfl
  show Cq _ _ _ _ [(0, tv)] _
  refine Cq.seq ?_
  refine Cq.region ?_
  refine Sq.assign .plain rfl rfl ?_
  refine Sq.nil ?_
  refine Eq.next ?_
  refine Cq.seq ?_
  refine Cq.region ?_
  refine Sq.assign .plain rfl rfl ?_
  refine Sq.nil ?_
  refine Eq.next ?_
  refine Cq.seq ?_
  refine Cq.seq ?_
  refine Cq.region ?_
  refine Sq.move .plain rfl rfl ?_
  refine Sq.lenWid hW .plain rfl und104 rfl ?_
  rw [rows3_length]
  refine Sq.sub .plain rfl rfl rfl (by omega) ?_
  refine Sq.assign .plain rfl rfl ?_
  refine Sq.nil ?_
  refine Eq.next ?_
  refine Cq.block ?_
  refine Cq.loop (fun nn w ls => ∃ (j : Int), ∃ (u : List Int), ∃ (t : List Int), ∃ (ov : Value), ls = [(0, tv), (3, ov), (4, Value.int .i64 j)] ∧ (0 ≤ j) ∧ ws[j.toNat]? = some u ∧ wd = u ++ t ∧ Own w w0.heap.size 5 ov ((txb t.reverse).map fun b => Value.int .u8 (b.toNat : Int)) ∧ Ext w0 w ∧ Wid w B 106 3 tv (rows3 rs) ∧ nn = u.length) _ _ ⟨(List.length rs : Int) - 1, wd, [], _, rfl, by omega, by rw [show ((List.length rs : Int) - 1).toNat = ws.length - 1 by omega]; exact hwd, by simp, Own.nil _ _ _, E, hW, rfl⟩ (.cons rfl (.cons rfl (.cons rfl (.nil)))) ?_
  rintro nn wl1 ls ⟨j, u, t, ov, rfl, hj, hu, hut, ho, E, hW, rfl⟩
  have hs1 := Below.size E
  obtain ⟨p, l, fv, hr, hlk, hfv⟩ := hSt.row _ _ hu
  have hlt := (List.getElem?_eq_some_iff.1 hr).1
  have htl : t.length ≤ 1000 := by rw [hut, List.length_append] at hwl; omega
  have htx : (txb t.reverse).length = t.length := by simp [txb]
  refine Cq.seq ?_
  refine Cq.seq ?_
  refine Cq.region ?_
  refine Sq.move .plain rfl rfl ?_
  refine Sq.move .plain rfl rfl ?_
  obtain ⟨gq2, kq2, hvq2, hlq2, haq2, hbq2, hcq2⟩ := Wid.triple hW (i := j) (by omega) hr
  refine Sq.val .plain rfl rfl (Still.ixV slw104 hvq2 rfl rfl (by omega)) ?_
  refine Sq.fieldAddr fld106_0 .plain rfl rfl ?_
  refine Sq.val .plain rfl rfl (Still.load one3 rfl haq2) ?_
  refine Sq.geq .plain rfl rfl rfl ?_
  refine Sq.part (fun hp => ?_) (fun hp => ?_)
  · refine Sq.nil ?_
    refine Eq.next ?_
    refine Cq.thn rfl ?_
    refine Cq.skip ?_
    refine Eq.next ?_
    refine Cq.seq ?_
    refine Cq.block ?_
    refine Cq.region ?_
    obtain ⟨u2, hu2, hp0, hu3⟩ : ∃ u2, u = u2 ++ [l] ∧ 0 ≤ p ∧ ws[p.toNat]? = some u2 := hlk.resolve_left (fun h => by have := h.2; omega)
    have hll := hSt.lets u (List.mem_of_getElem? hu) l (by rw [hu2]; simp)
    refine Sq.move .plain rfl rfl ?_
    refine Sq.move .plain rfl rfl ?_
    refine Sq.move .plain rfl rfl ?_
    obtain ⟨gq3, kq3, hvq3, hlq3, haq3, hbq3, hcq3⟩ := Wid.triple hW (i := j) (by omega) hr
    refine Sq.val .plain rfl rfl (Still.ixV slw104 hvq3 rfl rfl (by omega)) ?_
    refine Sq.fieldAddr fld106_1 .plain rfl rfl ?_
    refine Sq.val .plain rfl rfl (Still.load one3 rfl hbq3) ?_
    refine Sq.call fn109 .plain rfl rfl (letterByte_c l (by omega) _) ?_
    rintro _ _ ⟨rfl, rfl⟩
    refine Sq.app1 sl103 ho (by omega) (by first | omega | (rw [List.length_map]; omega)) .plain rfl rfl rfl rfl rfl rfl rfl (fun v4 w5 ho7 g6 _ => ?_)
    have hs8 := g6.size
    replace E := E.owned ho g6 (by omega)
    replace hW := hW.owned ho g6 (by decide)
    refine Sq.assign .plain rfl rfl ?_
    refine Sq.nil ?_
    refine Eq.end ?_
    refine Eq.next ?_
    refine Cq.region ?_
    refine Sq.move .plain rfl rfl ?_
    refine Sq.move .plain rfl rfl ?_
    obtain ⟨gq9, kq9, hvq9, hlq9, haq9, hbq9, hcq9⟩ := Wid.triple hW (i := j) (by omega) hr
    refine Sq.val .plain rfl rfl (Still.ixV slw104 hvq9 rfl rfl (by omega)) ?_
    refine Sq.fieldAddr fld106_0 .plain rfl rfl ?_
    refine Sq.val .plain rfl rfl (Still.load one3 rfl haq9) ?_
    refine Sq.assign .plain rfl rfl ?_
    refine Sq.nil ?_
    refine Eq.round _ _ ⟨p, u2, l :: t, _, rfl, hp0, hu3, by rw [hut, hu2]; simp, Own.snocT ho7 hll, E, hW, rfl⟩ (by rw [hu2, List.length_append]; simp) (.cons rfl (.cons rfl (.cons rfl (.nil))))
  refine Sq.nil ?_
  refine Eq.next ?_
  refine Cq.els rfl ?_
  refine Cq.exit ?_
  refine Eq.past ?_
  refine Eq.past ?_
  refine Eq.hit ?_
  refine Eq.next ?_
  refine Cq.seq ?_
  refine Cq.region ?_
  refine Sq.move .plain rfl rfl ?_
  refine Sq.call fn110 .plain rfl rfl (reverse_c _ _ _ _ ho (by omega)) ?_
  rintro _ w10 ⟨rfl, ho12, g11⟩
  have hs13 := World.grownBy.size g11
  replace E := E.owned ho g11 (by omega)
  replace ho := ho12
  refine Sq.nil ?_
  refine Eq.next ?_
  refine Cq.seq ?_
  refine Cq.region ?_
  refine Sq.move .plain rfl rfl ?_
  refine Sq.val .plain rfl rfl (Still.text und103 und8_103 und9 (Own.row ho) rfl) ?_
  refine Sq.assign .plain rfl rfl ?_
  refine Sq.nil ?_
  refine Eq.next ?_
  refine Cq.ret ?_
  refine Eq.ret1 rfl rfl ?_
  rcases hlk with ⟨rfl, _⟩ | ⟨_, _, h0, _⟩
  · exact ⟨by rw [txb_rev, hut]; rfl, E⟩
  exact absurd h0 (by omega)
end Go.Proofs.Ytdkdpmmfebdeaaa
set_option linter.unusedSimpArgs false
set_option linter.unusedVariables false
namespace Go.Proofs.Ytdkdpmmfebdeaaa
open Go.RowKit
set_option maxRecDepth 100000 in
theorem visit_c (w0 wb : World) (B bs bt bg n : Nat) (gv nv : Value) (f : Int → Int → Int) (s : Int) (ws : List (List Int)) (D : Int → Prop) (G : Int → Bool) (hclo : GClo Try.prog wb gv D G) (hM : SMem wb w0 3 4 23 106 104 72 B bs bt bg gv n f s ws) (p l q : Int) (v0 : List Int) (hq : q = nodeOf f s v0) (hx : Ints w0 3 nv [q]) (hl : Link ws p l v0) (hv0 : ∀ x ∈ v0, 0 ≤ x ∧ x < 6) (hD : D q) (hqn : 0 ≤ q ∧ q < n) (hwl : ws.length ≤ 1000) : Ret Try.prog 106 #[Value.int .i64 p, Value.int .i64 l, nv, Value.pointer (some ⟨bs, 0, none⟩), Value.pointer (some ⟨bg, 0, none⟩), Value.pointer (some ⟨bt, 0, none⟩)] w0 (fun v w => v = .bool (!decide (q ∈ (ws.map (nodeOf f s))) && G q) ∧ SMem wb w 3 4 23 106 104 72 B bs bt bg gv n f s (wadd f s ws v0)) := by
  obtain ⟨sv, tv, rs, hSb, hSeen, hTb, hW, hSt, hGb, E, hB0, hB1, hB2, hB3⟩ := hM
  obtain ⟨kg, fg, cg, hgv, hFg, hgoal⟩ := hclo
  have hrl := hSt.len
  have hwb := Below.size E
  have hne1 := hSb.ne hTb (by decide)
  have hne2 := hGb.ne hTb (by decide)
  have hne3 := hGb.ne hSb (by decide)
  refine Ret.of (args := [Value.int .i64 p, Value.int .i64 l, nv, Value.pointer (some ⟨bs, 0, none⟩), Value.pointer (some ⟨bg, 0, none⟩), Value.pointer (some ⟨bt, 0, none⟩)]) Try.func106 rfl rfl rfl ?_
  rintro _ rfl
  show Cq _ _ _ _ [(0, Value.int .i64 p), (1, Value.int .i64 l), (2, nv), (3, Value.pointer (some ⟨bs, 0, none⟩)), (4, Value.pointer (some ⟨bg, 0, none⟩)), (5, Value.pointer (some ⟨bt, 0, none⟩))] _
  refine Cq.seq ?_
  refine Cq.region ?_
  refine Sq.assign .plain rfl rfl ?_
  refine Sq.nil ?_
  refine Eq.next ?_
  refine Cq.seq ?_
  refine Cq.region ?_
  refine Sq.assign .plain rfl rfl ?_
  refine Sq.nil ?_
  refine Eq.next ?_
  refine Cq.seq ?_
  refine Cq.region ?_
  refine Sq.assign .plain rfl rfl ?_
  refine Sq.nil ?_
  refine Eq.next ?_
  refine Cq.seq ?_
  refine Cq.seq ?_
  refine Cq.region ?_
  refine Sq.move .plain rfl rfl ?_
  refine Sq.lenInts hx .plain rfl und52 rfl ?_
  refine Sq.move .plain rfl rfl ?_
  refine Sq.nil ?_
  refine Eq.next ?_
  refine Cq.block ?_
  refine Cq.loop (fun nn w ls => ∃ (k : Int), ∃ (ov : Value), ∃ (xs : List Int), ∃ (ms : List Int), ∃ (bv : Bool), ls = [(0, Value.int .i64 p), (1, Value.int .i64 l), (3, Value.pointer (some ⟨bs, 0, none⟩)), (4, Value.pointer (some ⟨bg, 0, none⟩)), (5, Value.pointer (some ⟨bt, 0, none⟩)), (10, ov), (11, Value.bool bv), (14, nv), (15, Value.int .i64 ((List.length ([q] : List Int) : Int))), (16, Value.int .i64 k)] ∧ (0 ≤ k ∧ k ≤ 1) ∧ (w0.heap.size ≤ w.heap.size) ∧ Own w B 4 sv ((seenOf n ms).map Value.bool) ∧ ms = (if k = 0 then (ws.map (nodeOf f s)) else addNode (ws.map (nodeOf f s)) q) ∧ (k = 0 → ov = .slice none 0 0) ∧ Own w w0.heap.size 3 ov (xs.map (Value.int .i64)) ∧ xs = (if k = 0 ∨ q ∈ (ws.map (nodeOf f s)) then [] else [q]) ∧ bv = (decide (k = 1) && (!decide (q ∈ (ws.map (nodeOf f s))) && G q)) ∧ Ext wb w ∧ Blk w bs 23 [sv] ∧ Blk w bg 72 [gv] ∧ Blk w bt 104 [tv] ∧ Wid w B 106 3 tv (rows3 rs) ∧ Ints w 3 nv [q] ∧ Trail w 3 f s ws rs ∧ nn = (1 - k).toNat) _ _ ⟨0, _, [], _, _, rfl, by omega, Nat.le_refl _, hSeen, rfl, fun _ => rfl, Own.nil _ _ _, rfl, rfl, E, hSb, hGb, hTb, hW, hx, hSt, rfl⟩ (.cons rfl (.cons rfl (.cons rfl (.cons rfl (.cons rfl (.cons rfl (.cons rfl (.cons rfl (.cons rfl (.cons rfl (.nil))))))))))) ?_
  rintro nn wl1 ls ⟨k, ov, xs, ms, bv, rfl, hk, hsz, hSeen, hms, hov, ho, hxs, hbv, E, hSb, hGb, hTb, hW, hx, hSt, rfl⟩
  have hs1 := Below.size E
  have hsl := seenOf_length n ms
  have hl1 : (List.length ([q] : List Int) : Int) = 1 := rfl
  refine Cq.seq ?_
  refine Cq.region ?_
  refine Sq.lss .plain rfl rfl rfl ?_
  refine Sq.part (fun c2 => ?_) (fun c2 => ?_)
  · refine Sq.nil ?_
    refine Eq.next ?_
    refine Cq.seq ?_
    refine Cq.thn rfl ?_
    refine Cq.skip ?_
    refine Eq.next ?_
    refine Cq.seq ?_
    refine Cq.block ?_
    refine Cq.seq ?_
    refine Cq.region ?_
    have hk0 : k = 0 := by omega
    obtain rfl := hov hk0
    have hms0 : ms = (ws.map (nodeOf f s)) := by rw [hms, if_pos hk0]
    have hk1 : ([q] : List Int).getD k.toNat 0 = q := by rw [hk0]; rfl
    refine Sq.idxInts sl52 one3 hx .plain rfl rfl rfl .plain rfl rfl (by omega) (by simp only [List.length_singleton]; omega) ?_
    rw [hk1]
    refine Sq.assign .plain rfl rfl ?_
    refine Sq.nil ?_
    refine Eq.next ?_
    refine Cq.seq ?_
    refine Cq.region ?_
    refine Sq.loadB one23 .plain rfl rfl hSb rfl ?_
    refine Sq.move .plain rfl rfl ?_
    refine Sq.idxBools sl23 one4 (Own.row hSeen) .plain rfl rfl rfl .plain rfl rfl (by omega) (by omega) ?_
    refine Sq.partB (fun hse => ?_) (fun hse => ?_)
    · refine Sq.notT .plain rfl rfl ?_
      refine Sq.nil ?_
      refine Eq.next ?_
      refine Cq.els rfl ?_
      refine Cq.skip ?_
      refine Eq.end ?_
      refine Eq.next ?_
      refine Cq.region ?_
      refine Sq.add .plain rfl rfl rfl (by omega) ?_
      refine Sq.move .plain rfl rfl ?_
      refine Sq.nil ?_
      have hnin : q ∈ (ws.map (nodeOf f s)) := by rw [seenOf_at hqn, hms0] at hse; simpa using hse
      refine Eq.round _ _ ⟨k + 1, _, [], _, _, rfl, by omega, by omega, hSeen, by rw [if_neg (by omega), addNode_T hnin, hms0], fun h => absurd h (by omega), Own.nil _ _ _, by rw [if_pos (.inr hnin)], by rw [hbv]; simp [hk0, hnin], E, hSb, hGb, hTb, hW, hx, hSt, rfl⟩ (by omega) (.cons rfl (.cons rfl (.cons rfl (.cons rfl (.cons rfl (.cons rfl (.cons rfl (.cons rfl (.cons rfl (.cons rfl (.nil)))))))))))
    refine Sq.notF .plain rfl rfl ?_
    refine Sq.nil ?_
    refine Eq.next ?_
    refine Cq.thn rfl ?_
    refine Cq.seq ?_
    refine Cq.region ?_
    refine Sq.loadB one23 .plain rfl rfl hSb rfl ?_
    refine Sq.move .plain rfl rfl ?_
    obtain ⟨p3, hp4o⟩ := Own.at hSeen (i := q) (by omega) (by first | (simp only [List.length_map]; omega) | (simp; omega))
    refine Sq.atO sl23 hp4o .plain rfl rfl rfl ?_
    refine Sq.storeO one4 hSeen hp4o .plain rfl rfl rfl (fun w5 g6 ho7 => ?_)
    have hs8 := World.grownBy.size g6
    replace E := E.owned hSeen g6 (by omega)
    replace hSb := hSb.owned hSeen g6 (by decide)
    replace hGb := hGb.owned hSeen g6 (by decide)
    replace hTb := hTb.owned hSeen g6 (by decide)
    replace hW := hW.owned hSeen g6 (by decide)
    replace hx := hx.owned hSeen g6 (by decide)
    replace hSt := hSt.owned hSeen g6 (by decide)
    replace hSeen := ho7
    refine Sq.nil ?_
    refine Eq.next ?_
    refine Cq.seq ?_
    refine Cq.region ?_
    refine Sq.move .plain rfl rfl ?_
    refine Sq.move .plain rfl rfl ?_
    refine Sq.lit sl52 rfl rfl .plain rfl rfl (one_cons rfl one_nil) (fun b9 w10 e11 hlo12 ho13 hk14 => ?_)
    have hs15 := Below.size e11
    replace E := E.trans e11
    replace hSb := hSb.ext e11
    replace hGb := hGb.ext e11
    replace hTb := hTb.ext e11
    replace hW := hW.ext e11
    replace hx := hx.ext e11
    replace hSt := hSt.ext e11
    replace hSeen := hSeen.ext e11
    refine Sq.app1F sl52 (Own.nil _ w0.heap.size 3) (by simp) (by omega) (by simp) hk14 rfl .plain rfl rfl rfl (fun v16 w17 ho19 g18 _ _ => ?_)
    have e20 := Ext.of_grown g18
    have hs21 := Below.size e20
    replace E := E.trans e20
    replace hSb := hSb.ext e20
    replace hGb := hGb.ext e20
    replace hTb := hTb.ext e20
    replace hW := hW.ext e20
    replace hx := hx.ext e20
    replace hSt := hSt.ext e20
    replace hSeen := hSeen.ext e20
    refine Sq.assign .plain rfl rfl ?_
    refine Sq.nil ?_
    refine Eq.next ?_
    refine Cq.region ?_
    refine Sq.move .plain rfl rfl ?_
    refine Sq.beF (by rw [hbv, hk0]; rfl) ?_
    refine Sq.move .plain rfl rfl ?_
    refine Sq.loadB one72 (.met rfl rfl rfl) rfl rfl hGb rfl ?_
    refine Sq.move (.met rfl rfl rfl) rfl rfl ?_
    refine Sq.callC hFg (.met rfl rfl rfl) rfl (by rw [← hgv]; rfl) rfl (hgoal _ q E hD) ?_
    rintro _ w22 ⟨rfl, e23⟩
    have hs24 := Below.size e23
    replace E := E.trans e23
    replace hSb := hSb.ext e23
    replace hGb := hGb.ext e23
    replace hTb := hTb.ext e23
    replace hW := hW.ext e23
    replace hx := hx.ext e23
    replace hSt := hSt.ext e23
    replace hSeen := hSeen.ext e23
    replace ho19 := ho19.ext e23
    refine Sq.pickF .plain rfl rfl rfl ?_
    refine Sq.assign .plain rfl rfl ?_
    refine Sq.partB (fun hgq => ?_) (fun hgq => ?_)
    · refine Sq.nil ?_
      refine Eq.end ?_
      refine Eq.next ?_
      refine Cq.region ?_
      refine Sq.add .plain rfl rfl rfl (by omega) ?_
      refine Sq.move .plain rfl rfl ?_
      refine Sq.nil ?_
      have hnin : q ∉ (ws.map (nodeOf f s)) := by rw [seenOf_at hqn, hms0] at hse; simpa using hse
      refine Eq.round _ _ ⟨k + 1, _, [q], _, _, rfl, by omega, by omega, by rw [← seenOf_set hqn.1, List.map_set]; exact hSeen, by rw [if_neg (by omega), addNode_F hnin, hms0], fun h => absurd h (by omega), by simpa using ho19, by rw [if_neg (by rintro (h | h); omega; exact hnin h)], by simp [hk0, hnin, hgq], E, hSb, hGb, hTb, hW, hx, hSt, rfl⟩ (by omega) (.cons rfl (.cons rfl (.cons rfl (.cons rfl (.cons rfl (.cons rfl (.cons rfl (.cons rfl (.cons rfl (.cons rfl (.nil)))))))))))
    refine Sq.nil ?_
    refine Eq.end ?_
    refine Eq.next ?_
    refine Cq.region ?_
    refine Sq.add .plain rfl rfl rfl (by omega) ?_
    refine Sq.move .plain rfl rfl ?_
    refine Sq.nil ?_
    have hnin : q ∉ (ws.map (nodeOf f s)) := by rw [seenOf_at hqn, hms0] at hse; simpa using hse
    refine Eq.round _ _ ⟨k + 1, _, [q], _, _, rfl, by omega, by omega, by rw [← seenOf_set hqn.1, List.map_set]; exact hSeen, by rw [if_neg (by omega), addNode_F hnin, hms0], fun h => absurd h (by omega), by simpa using ho19, by rw [if_neg (by rintro (h | h); omega; exact hnin h)], by simp [hk0, hnin, hgq], E, hSb, hGb, hTb, hW, hx, hSt, rfl⟩ (by omega) (.cons rfl (.cons rfl (.cons rfl (.cons rfl (.cons rfl (.cons rfl (.cons rfl (.cons rfl (.cons rfl (.cons rfl (.nil)))))))))))
  refine Sq.nil ?_
  refine Eq.next ?_
  refine Cq.seq ?_
  refine Cq.els rfl ?_
  refine Cq.exit ?_
  refine Eq.past ?_
  refine Eq.past ?_
  refine Eq.hit ?_
  refine Eq.next ?_
  refine Cq.seq ?_
  refine Cq.seq ?_
  refine Cq.region ?_
  have hkk : k = 1 := by omega
  refine Sq.move .plain rfl rfl ?_
  refine Sq.lenInts (Own.row ho) .plain rfl und52 rfl ?_
  refine Sq.gtr .plain rfl rfl rfl ?_
  refine Sq.part (fun hfr => ?_) (fun hfr => ?_)
  · refine Sq.nil ?_
    refine Eq.next ?_
    refine Cq.thn rfl ?_
    refine Cq.region ?_
    have hnin : q ∉ (ws.map (nodeOf f s)) := fun h => by rw [hxs, if_pos (.inr h)] at hfr; exact absurd hfr (by decide)
    have hx1 : (xs.map (Value.int .i64)) = [q].map (Value.int .i64) := by rw [hxs, if_neg (by rintro (h | h); omega; exact hnin h)]
    refine Sq.loadB one104 .plain rfl rfl hTb rfl ?_
    refine Sq.move .plain rfl rfl ?_
    refine Sq.move .plain rfl rfl ?_
    refine Sq.move .plain rfl rfl ?_
    refine Sq.build st106 rfl rfl .plain rfl rfl (one_cons rfl (one_cons rfl (one_cons (Row.one (Own.row ho)) one_nil))) rfl ?_
    refine Sq.litW slw104 rfl rfl (by decide) .plain rfl (rows := [[Value.int .i64 p, Value.int .i64 l, ov]]) rfl (fun r hr => by rw [List.mem_singleton.1 hr]; exact ⟨rfl, one_cons rfl (one_cons rfl (one_cons (Row.one (Own.row ho)) one_nil))⟩) (fun b25 w26 e27 hlo28 hw29 hk30 => ?_)
    have hs35 := Below.size e27
    replace E := E.trans e27
    replace hSb := hSb.ext e27
    replace hGb := hGb.ext e27
    replace hTb := hTb.ext e27
    replace hW := hW.ext e27
    replace hSt := hSt.ext e27
    replace hSeen := hSeen.ext e27
    replace ho := ho.ext e27
    refine Sq.appS slw104 hW (by omega) (by rw [rows3_length]; omega) (r := [Value.int .i64 p, Value.int .i64 l, ov]) hk30 ⟨rfl, one_cons rfl (one_cons rfl (one_cons (Row.one (Own.row ho)) one_nil))⟩ .plain rfl rfl rfl (fun v31 w32 hW34 g33 _ _ => ?_)
    have hs36 := World.grownBy.size g33
    replace E := E.wid hW g33 (by omega)
    replace hSb := hSb.wid hW g33 (by decide)
    replace hGb := hGb.wid hW g33 (by decide)
    replace hTb := hTb.wid hW g33 (by decide)
    replace hSt := hSt.wid hW g33 (by decide)
    replace hSeen := hSeen.wid hW g33 (by decide)
    replace ho := ho.wid hW g33 (by decide)
    replace hW : Wid w32 B 106 3 v31 (rows3 (rs ++ [(p, l, ov)])) := by rw [rows3_snoc]; exact hW34
    refine Sq.store one104 .plain rfl rfl (Wid.one hW) hTb (by simp) (fun w37 g38 hB39 => ?_)
    have hs40 := World.grownBy.size g38
    replace E := E.grown g38 (fun k hk => by injection hk with hk; subst hk; omega)
    replace hSb := hSb.grown g38 (by intro h; injection h with h; omega)
    replace hGb := hGb.grown g38 (by intro h; injection h with h; omega)
    replace hW := hW.stored g38 hTb (by decide)
    replace hSt := hSt.stored g38 hTb (by decide)
    replace hSeen := hSeen.stored g38 hTb (by decide)
    replace ho := ho.stored g38 hTb (by decide)
    replace hTb := hB39
    refine Sq.nil ?_
    refine Eq.next ?_
    refine Cq.seq ?_
    refine Cq.region ?_
    refine Sq.move .plain rfl rfl ?_
    refine Sq.assign .plain rfl rfl ?_
    refine Sq.nil ?_
    refine Eq.next ?_
    refine Cq.ret ?_
    refine Eq.ret1 rfl rfl ?_
    have hq2 := hq
    have hn2 : nodeOf f s v0 ∉ (ws.map (nodeOf f s)) := by rw [← hq]; exact hnin
    refine ⟨by rw [hbv]; simp [hkk, hnin], ?_⟩
    rw [wadd_F hn2]
    rw [hms, if_neg (by omega), addNode_F hnin] at hSeen
    exact ⟨sv, _, _, hSb, by rw [List.map_append, List.map_cons, List.map_nil, ← hq]; exact hSeen, hTb, hW, hSt.snoc hl (by rw [← hq]; show Row _ _ _ ([q].map (Value.int .i64)); rw [← hx1]; exact Own.row ho) hv0, hGb, E, by omega, by omega, by omega, by omega⟩
  refine Sq.nil ?_
  refine Eq.next ?_
  refine Cq.els rfl ?_
  refine Cq.skip ?_
  refine Eq.next ?_
  refine Cq.seq ?_
  refine Cq.region ?_
  have hnin : q ∈ (ws.map (nodeOf f s)) := Classical.byContradiction fun h => hfr (by rw [hxs, if_neg (by rintro (h' | h'); omega; exact h h')]; show (0 : Int) < 1; decide)
  refine Sq.move .plain rfl rfl ?_
  refine Sq.assign .plain rfl rfl ?_
  refine Sq.nil ?_
  refine Eq.next ?_
  refine Cq.ret ?_
  refine Eq.ret1 rfl rfl ?_
  have hn2 : nodeOf f s v0 ∈ (ws.map (nodeOf f s)) := by rw [← hq]; exact hnin
  refine ⟨by rw [hbv]; simp [hkk, hnin], ?_⟩
  rw [wadd_T hn2]
  rw [hms, if_neg (by omega), addNode_T hnin] at hSeen
  exact ⟨sv, _, _, hSb, hSeen, hTb, hW, hSt, hGb, E, by omega, by omega, by omega, by omega⟩
end Go.Proofs.Ytdkdpmmfebdeaaa
set_option linter.unusedSimpArgs false
set_option linter.unusedVariables false
namespace Go.Proofs.Ytdkdpmmfebdeaaa
open Go.RowKit
set_option maxRecDepth 100000 in
theorem firstPath_c (w0 : World) (nI : Int) (n : Nat) (s : Int) (L : List Int) (sv0 lv fv gv : Value) (f : Int → Int → Int) (G : Int → Bool) (D : Int → Prop) (hnI : nI = n) (hs0 : Ints w0 3 sv0 [s]) (hx : Ints w0 3 lv L) (hLl : L.length ≤ 100) (hL : ∀ x ∈ L, 0 ≤ x ∧ x < 6) (hD0 : D s) (hD : ∀ q, D q → ∀ x ∈ L, D (f q x)) (hDn : ∀ q, D q → 0 ≤ q ∧ q < n) (hn : n ≤ 150) (hclo : NClo Try.prog w0 3 fv D f) (hgo : GClo Try.prog w0 gv D G) : Ret Try.prog 95 #[Value.int .i64 nI, sv0, lv, fv, gv] w0 (fun v w => v = .tuple #[.string (txt ((firstOf f s L G).getD [])), .bool (firstOf f s L G).isSome] ∧ Ext w0 w) := by
  have E := Ext.refl w0
  have hgo2 := hgo
  obtain ⟨kg, fg, cg, hgv0, hFg0, hgoal0⟩ := hgo2
  obtain ⟨kf, fnf, cf, hfv0, hFn, hcall⟩ := hclo
  have hbw := bfsw_range (f := f) (s := s) (L := L) hD0 hD hDn
  refine Ret.of (args := [Value.int .i64 nI, sv0, lv, fv, gv]) Try.func95 rfl rfl rfl ?_
  rintro _ rfl
  show Cq _ _ _ _ [(0, Value.int .i64 nI), (1, sv0), (2, lv), (3, fv), (4, gv)] _
  refine Cq.seq ?_
  refine Cq.region ?_
  refine Sq.box1 .plain rfl rfl (by rw [hgv0]; rfl) (fun b1 w2 e3 hB4 hlo5 => ?_)
  have hd6 := Nat.le_trans (Below.size E) hlo5
  have hs7 := Below.size e3
  replace E := E.trans e3
  refine Sq.assign .plain rfl rfl ?_
  refine Sq.assign .plain rfl rfl ?_
  refine Sq.nil ?_
  refine Eq.next ?_
  refine Cq.seq ?_
  refine Cq.region ?_
  refine Sq.move .plain rfl rfl ?_
  refine Sq.make sl23 .plain rfl rfl rfl rfl (by omega) (fun b8 w9 e10 hlo11 hB12 => ?_)
  replace hB12 := hB12 w2.heap.size (Nat.le_refl _)
  have hs13 := Below.size e10
  replace E := E.trans e10
  replace hB4 := hB4.ext e10
  refine Sq.alloc1 zero23 rfl .plain rfl (fun b14 w15 e16 hB17 hlo18 => ?_)
  have hd19 := Nat.le_trans (Below.size E) hlo18
  have hd20 := Nat.lt_of_lt_of_le hB4.lt hlo18
  have hs21 := Below.size e16
  replace E := E.trans e16
  replace hB4 := hB4.ext e16
  replace hB12 := hB12.ext e16
  refine Sq.store one23 .plain rfl rfl (Row.one (Own.row hB12)) hB17 (by simp) (fun w22 g23 hB24 => ?_)
  have hs25 := World.grownBy.size g23
  replace E := E.grown g23 (fun k hk => by injection hk with hk; subst hk; omega)
  replace hB4 := hB4.grown g23 (by intro h; injection h with h; omega)
  replace hB12 := hB12.stored g23 hB17 (by decide)
  replace hB17 := hB24
  refine Sq.nil ?_
  refine Eq.next ?_
  refine Cq.seq ?_
  refine Cq.region ?_
  refine Sq.alloc1 zero104 rfl .plain rfl (fun b26 w27 e28 hB29 hlo30 => ?_)
  have hd31 := Nat.le_trans (Below.size E) hlo30
  have hd32 := Nat.lt_of_lt_of_le hB4.lt hlo30
  have hd33 := Nat.lt_of_lt_of_le hB17.lt hlo30
  have hs34 := Below.size e28
  replace E := E.trans e28
  replace hB4 := hB4.ext e28
  replace hB12 := hB12.ext e28
  replace hB17 := hB17.ext e28
  refine Sq.nil ?_
  refine Eq.next ?_
  refine Cq.seq ?_
  refine Cq.region ?_
  refine Sq.makeFunc .plain rfl rfl ?_
  refine Sq.assign .plain rfl rfl ?_
  refine Sq.nil ?_
  refine Eq.next ?_
  refine Cq.seq ?_
  refine Cq.seq ?_
  refine Cq.region ?_
  refine Sq.move .plain rfl rfl ?_
  refine Sq.move .plain rfl rfl ?_
  have hM : SMem w0 w27 3 4 23 106 104 72 w2.heap.size b14 b26 b1 gv n f s [] := ⟨_, _, [], hB17, Own.seen0 (seen_n (by omega) hB12), hB29, Wid.nil _ _ _ _, Trail.nil _ _ _ _, hB4, E, by omega, by omega, by omega, by omega⟩
  refine Sq.callC fn106 .plain rfl rfl rfl (visit_c _ _ _ _ _ _ _ _ _ f s _ D G hgo hM _ _ s [] rfl (hs0.ext E) (.inl ⟨rfl, rfl⟩) (by simp) hD0 (hDn _ hD0) (by simp)) ?_
  rintro _ w35 ⟨rfl, hM'⟩
  clear hM
  have hM := hM'
  clear hM'
  replace E := SMem.base hM
  have hs37 := Below.size E
  refine Sq.partB (fun hg0 => ?_) (fun hg0 => ?_)
  · refine Sq.nil ?_
    refine Eq.next ?_
    refine Cq.thn rfl ?_
    refine Cq.seq ?_
    refine Cq.region ?_
    refine Sq.assign .plain rfl rfl ?_
    refine Sq.assign .plain rfl rfl ?_
    refine Sq.nil ?_
    refine Eq.next ?_
    refine Cq.ret ?_
    refine Eq.pastRet ?_
    refine Eq.ret2 rfl rfl rfl ?_
    have e1 := first_here (f := f) (L := L) (by simpa using hg0 : G s = true)
    exact ⟨by rw [e1]; rfl, E⟩
  refine Sq.nil ?_
  refine Eq.next ?_
  refine Cq.els rfl ?_
  refine Cq.skip ?_
  refine Eq.next ?_
  refine Cq.seq ?_
  refine Cq.seq ?_
  refine Cq.region ?_
  refine Sq.assign .plain rfl rfl ?_
  refine Sq.nil ?_
  refine Eq.next ?_
  refine Cq.block ?_
  have hw0 : wadd f s [] [] = bfsw f s L 0 := wadd_F (by simp)
  rw [hw0] at hM
  refine Cq.loop (fun nn w ls => ∃ (i : Int), ls = [(2, lv), (3, fv), (13, Value.pointer (some ⟨b26, 0, none⟩)), (14, Value.func (.func 106) #[] #[Value.pointer (some ⟨b14, 0, none⟩), Value.pointer (some ⟨b1, 0, none⟩), Value.pointer (some ⟨b26, 0, none⟩)]), (15, Value.int .i64 i)] ∧ (0 ≤ i ∧ i ≤ (List.length (bfsw f s L i.toNat) : Int)) ∧ SMem w0 w 3 4 23 106 104 72 w2.heap.size b14 b26 b1 gv n f s (bfsw f s L i.toNat) ∧ (∀ v ∈ (bfsw f s L i.toNat), G (nodeOf f s v) = false) ∧ Ext w0 w ∧ nn = (151 - i).toNat) _ _ ⟨0, rfl, ⟨by omega, by show (0 : Int) ≤ ((1 : Nat) : Int); omega⟩, hM, (fun v hv => by rw [show v = [] by simpa [bfsw] using hv]; simpa [nodeOf] using hg0), E, rfl⟩ (.cons rfl (.cons rfl (.cons rfl (.cons rfl (.cons rfl (.nil)))))) ?_
  rintro nn wl1 ls ⟨i, rfl, hi, hM, hG, E, rfl⟩
  have hs38 := Below.size E
  have hbl := hbw i.toNat
  have hbl1 := hbw (i.toNat + 1)
  refine Cq.seq ?_
  refine Cq.seq ?_
  refine Cq.region ?_
  refine Sq.move .plain rfl rfl ?_
  have M39 := hM
  obtain ⟨svM39, tvM39, rsM39, _, _, hTM39, hWM39, hSM39, _⟩ := M39
  refine Sq.loadB one104 .plain rfl rfl hTM39 rfl ?_
  refine Sq.lenWid hWM39 .plain rfl und104 rfl ?_
  rw [rows3_length, hSM39.len]
  refine Sq.lss .plain rfl rfl rfl ?_
  refine Sq.part (fun c40 => ?_) (fun c40 => ?_)
  · refine Sq.nil ?_
    refine Eq.next ?_
    refine Cq.thn rfl ?_
    refine Cq.skip ?_
    refine Eq.next ?_
    refine Cq.seq ?_
    refine Cq.block ?_
    refine Cq.seq ?_
    refine Cq.region ?_
    refine Sq.move .plain rfl rfl ?_
    refine Sq.lenInts (hx.ext E) .plain rfl und52 rfl ?_
    refine Sq.move .plain rfl rfl ?_
    refine Sq.nil ?_
    refine Eq.next ?_
    refine Cq.block ?_
    obtain ⟨u, hu⟩ : ∃ u, (bfsw f s L i.toNat)[i.toNat]? = some u := ⟨_, List.getElem?_eq_getElem (by omega)⟩
    have hDu : D (nodeOf f s u) := nodeOf_in hD0 hD _ _ (List.mem_of_getElem? hu)
    have hul := bfsw_lets (f := f) (s := s) (i := i.toNat) hL u (List.mem_of_getElem? hu)
    refine Cq.loop (fun nn w ls => ∃ (k : Int), ls = [(2, lv), (3, fv), (13, Value.pointer (some ⟨b26, 0, none⟩)), (14, Value.func (.func 106) #[] #[Value.pointer (some ⟨b14, 0, none⟩), Value.pointer (some ⟨b1, 0, none⟩), Value.pointer (some ⟨b26, 0, none⟩)]), (15, Value.int .i64 i), (33, lv), (34, Value.int .i64 (List.length L : Int)), (35, Value.int .i64 k)] ∧ (0 ≤ k ∧ k ≤ L.length) ∧ SMem w0 w 3 4 23 106 104 72 w2.heap.size b14 b26 b1 gv n f s (wmid f s L i.toNat u k.toNat) ∧ (∀ v ∈ (wmid f s L i.toNat u k.toNat), G (nodeOf f s v) = false) ∧ Ext w0 w ∧ nn = ((L.length : Int) - k).toNat) _ _ ⟨0, rfl, by omega, hM, hG, E, rfl⟩ (.cons rfl (.cons rfl (.cons rfl (.cons rfl (.cons rfl (.cons rfl (.cons rfl (.cons rfl (.nil))))))))) ?_
    rintro nn wl2 ls ⟨k, rfl, hk, hM, hG, E, rfl⟩
    have hs41 := Below.size E
    have hmh := (wmid_last (f := f) (s := s) (L := L) (k := k.toNat) hu).length_le
    have hum : (wmid f s L i.toNat u k.toNat)[i.toNat]? = some u := by
      obtain ⟨t, ht⟩ := wmid_more (f := f) (s := s) (L := L) i.toNat u k.toNat
      rw [← ht, List.getElem?_append_left (List.getElem?_eq_some_iff.1 hu).1]; exact hu
    refine Cq.seq ?_
    refine Cq.region ?_
    refine Sq.lss .plain rfl rfl rfl ?_
    refine Sq.part (fun c42 => ?_) (fun c42 => ?_)
    · refine Sq.nil ?_
      refine Eq.next ?_
      refine Cq.seq ?_
      refine Cq.thn rfl ?_
      refine Cq.skip ?_
      refine Eq.next ?_
      refine Cq.seq ?_
      refine Cq.block ?_
      refine Cq.seq ?_
      refine Cq.region ?_
      refine Sq.idxInts sl52 one3 (hx.ext E) .plain rfl rfl rfl .plain rfl rfl (by omega) (by omega) ?_
      refine Sq.assign .plain rfl rfl ?_
      refine Sq.nil ?_
      refine Eq.next ?_
      refine Cq.seq ?_
      refine Cq.region ?_
      refine Sq.assign .plain rfl rfl ?_
      refine Sq.nil ?_
      refine Eq.next ?_
      refine Cq.seq ?_
      refine Cq.seq ?_
      refine Cq.region ?_
      have M43 := hM
      obtain ⟨svM43, tvM43, rsM43, _, _, hTM43, hWM43, hSM43, _⟩ := M43
      obtain ⟨pp, ll, fvv, hr, hlk, hfv⟩ := hSM43.row _ _ hum
      have hlt := (List.getElem?_eq_some_iff.1 hr).1
      refine Sq.loadB one104 .plain rfl rfl hTM43 rfl ?_
      refine Sq.move .plain rfl rfl ?_
      obtain ⟨gq44, kq44, hvq44, hlq44, haq44, hbq44, hcq44⟩ := Wid.triple hWM43 (i := i) (by omega) hr
      refine Sq.val .plain rfl rfl (Still.ixV slw104 hvq44 rfl rfl (by omega)) ?_
      refine Sq.fieldAddr fld106_2 .plain rfl rfl ?_
      refine Sq.val .plain rfl rfl (Still.load one52 rfl hcq44) ?_
      refine Sq.lenInts hfv .plain rfl und52 rfl ?_
      refine Sq.move .plain rfl rfl ?_
      refine Sq.nil ?_
      refine Eq.next ?_
      refine Cq.block ?_
      have hXm : (L.getD k.toNat 0) ∈ L := getD_mem (by omega)
      have hXr := hL _ hXm
      have hlu : ∀ x ∈ u ++ [(L.getD k.toNat 0)], 0 ≤ x ∧ x < 6 := by
        intro x hx
        rcases List.mem_append.1 hx with h | h
        · exact hul x h
        · rw [List.mem_singleton.1 h]; exact hXr
      have hul2 : u.length ≤ 150 := by have := bfsw_lenw hu; omega
      have hone : (List.length ([(nodeOf f s u)] : List Int) : Int) = 1 := rfl
      refine Cq.loop (fun nn w ls => ∃ (j : Int), ∃ (rv : Value), ls = [(2, lv), (3, fv), (13, Value.pointer (some ⟨b26, 0, none⟩)), (14, Value.func (.func 106) #[] #[Value.pointer (some ⟨b14, 0, none⟩), Value.pointer (some ⟨b1, 0, none⟩), Value.pointer (some ⟨b26, 0, none⟩)]), (15, Value.int .i64 i), (17, Value.int .i64 (L.getD k.toNat 0)), (18, rv), (33, lv), (34, Value.int .i64 (List.length L : Int)), (35, Value.int .i64 k), (43, fvv), (44, Value.int .i64 ((List.length ([(nodeOf f s u)] : List Int) : Int))), (45, Value.int .i64 j)] ∧ (0 ≤ j ∧ j ≤ 1) ∧ (j = 0 → rv = .slice none 0 0) ∧ (j = 1 → Ints w 3 rv [f (nodeOf f s u) (L.getD k.toNat 0)]) ∧ Ext w0 w ∧ Ints w 3 fvv [(nodeOf f s u)] ∧ SMem w0 w 3 4 23 106 104 72 w2.heap.size b14 b26 b1 gv n f s (wmid f s L i.toNat u k.toNat) ∧ nn = (1 - j).toNat) _ _ ⟨0, _, rfl, by omega, fun _ => rfl, fun h => absurd h (by decide), E, hfv, hM, rfl⟩ (.cons rfl (.cons rfl (.cons rfl (.cons rfl (.cons rfl (.cons rfl (.cons rfl (.cons rfl (.cons rfl (.cons rfl (.cons rfl (.cons rfl (.cons rfl (.nil)))))))))))))) ?_
      rintro nn wl3 ls ⟨j, rv, rfl, hj, hrv, hrr, E, hfv, hM, rfl⟩
      have hs45 := Below.size E
      refine Cq.seq ?_
      refine Cq.region ?_
      refine Sq.lss .plain rfl rfl rfl ?_
      refine Sq.part (fun c46 => ?_) (fun c46 => ?_)
      · refine Sq.nil ?_
        refine Eq.next ?_
        refine Cq.seq ?_
        refine Cq.thn rfl ?_
        refine Cq.skip ?_
        refine Eq.next ?_
        refine Cq.seq ?_
        refine Cq.block ?_
        refine Cq.seq ?_
        refine Cq.region ?_
        have hj0 : j = 0 := by omega
        obtain rfl := hrv hj0
        have hj1 : ([(nodeOf f s u)] : List Int).getD j.toNat 0 = (nodeOf f s u) := by rw [hj0]; rfl
        refine Sq.idxInts sl52 one3 hfv .plain rfl rfl rfl .plain rfl rfl (by omega) (by simp only [List.length_singleton]; omega) ?_
        rw [hj1]
        refine Sq.assign .plain rfl rfl ?_
        refine Sq.nil ?_
        refine Eq.next ?_
        refine Cq.region ?_
        refine Sq.move .plain rfl rfl ?_
        refine Sq.move .plain rfl rfl ?_
        refine Sq.move .plain rfl rfl ?_
        refine Sq.move .plain rfl rfl ?_
        refine Sq.callC hFn .plain rfl (by rw [← hfv0]; rfl) rfl (hcall _ _ _ E hDu hXr) ?_
        rintro vw47 w47 ⟨ho48, e49⟩
        have hs50 := Below.size e49
        replace E := E.trans e49
        replace hfv := hfv.ext e49
        replace hM := hM.ext e49
        refine Sq.assign .plain rfl rfl ?_
        refine Sq.nil ?_
        refine Eq.end ?_
        refine Eq.next ?_
        refine Cq.region ?_
        refine Sq.add .plain rfl rfl rfl (by omega) ?_
        refine Sq.move .plain rfl rfl ?_
        refine Sq.nil ?_
        refine Eq.round _ _ ⟨j + 1, _, rfl, by omega, fun h => absurd h (by omega), fun _ => Own.row ho48, E, hfv, hM, rfl⟩ (by omega) (.cons rfl (.cons rfl (.cons rfl (.cons rfl (.cons rfl (.cons rfl (.cons rfl (.cons rfl (.cons rfl (.cons rfl (.cons rfl (.cons rfl (.cons rfl (.nil))))))))))))))
      refine Sq.nil ?_
      refine Eq.next ?_
      refine Cq.seq ?_
      refine Cq.els rfl ?_
      refine Cq.exit ?_
      refine Eq.past ?_
      refine Eq.past ?_
      refine Eq.hit ?_
      refine Eq.next ?_
      refine Cq.seq ?_
      refine Cq.region ?_
      refine Sq.move .plain rfl rfl ?_
      refine Sq.move .plain rfl rfl ?_
      refine Sq.move .plain rfl rfl ?_
      refine Sq.move .plain rfl rfl ?_
      refine Sq.callC fn106 .plain rfl rfl rfl (visit_c _ _ _ _ _ _ _ _ _ f s _ D G hgo hM i (L.getD k.toNat 0) _ (u ++ [(L.getD k.toNat 0)]) (nodeOf_snoc ..).symm (hrr (by omega)) (.inr ⟨u, rfl, hi.1, hum⟩) hlu (hD _ hDu _ hXm) (hDn _ (hD _ hDu _ hXm)) (by omega)) ?_
      rintro _ w51 ⟨rfl, hM'⟩
      clear hM
      have hM := hM'
      clear hM'
      replace E := SMem.base hM
      have hs53 := Below.size E
      refine Sq.partB (fun hfd => ?_) (fun hfd => ?_)
      · refine Sq.nil ?_
        refine Eq.next ?_
        refine Cq.thn rfl ?_
        refine Cq.seq ?_
        refine Cq.region ?_
        have hnew : nodeOf f s (u ++ [(L.getD k.toNat 0)]) ∉ (wmid f s L i.toNat u k.toNat).map (nodeOf f s) ∧ G (nodeOf f s (u ++ [(L.getD k.toNat 0)])) = true := by rw [nodeOf_snoc]; simpa using hfd
        rw [wadd_F hnew.1] at hM
        have M54 := hM
        obtain ⟨svM54, tvM54, rsM54, _, _, hTM54, hWM54, hSM54, _⟩ := M54
        refine Sq.loadB one104 .plain rfl rfl hTM54 rfl ?_
        refine Sq.call fn107 .plain rfl rfl (pathWord_c _ _ _ _ f s _ hWM54 hSM54 (u ++ [(L.getD k.toNat 0)]) (by rw [List.length_append, List.length_singleton, Nat.add_sub_cancel, List.getElem?_append_right (Nat.le_refl _), Nat.sub_self]; rfl) (by rw [List.length_append, List.length_singleton]; omega) (by rw [List.length_append, List.length_singleton]; omega)) ?_
        rintro _ w55 ⟨rfl, e56⟩
        have hs57 := Below.size e56
        replace E := E.trans e56
        refine Sq.assign .plain rfl rfl ?_
        refine Sq.assign .plain rfl rfl ?_
        refine Sq.nil ?_
        refine Eq.next ?_
        refine Cq.ret ?_
        refine Eq.outRet ?_
        refine Eq.pastRet ?_
        refine Eq.pastRet ?_
        refine Eq.outRet ?_
        refine Eq.outRet ?_
        refine Eq.pastRet ?_
        refine Eq.pastRet ?_
        refine Eq.outRet ?_
        refine Eq.pastRet ?_
        refine Eq.ret2 rfl rfl rfl ?_
        have e1 := first_found hu (by omega) (by omega) hG hnew.1 hnew.2
        exact ⟨by rw [e1]; rfl, E⟩
      refine Sq.nil ?_
      refine Eq.next ?_
      refine Cq.els rfl ?_
      refine Cq.skip ?_
      refine Eq.end ?_
      refine Eq.next ?_
      refine Cq.region ?_
      refine Sq.add .plain rfl rfl rfl (by omega) ?_
      refine Sq.move .plain rfl rfl ?_
      refine Sq.nil ?_
      have e2 := toNat_succ hk.1
      have e5 := wmid_succ (f := f) (s := s) (i := i.toNat) (u := u) (k := k.toNat) (L := L) (by omega)
      refine Eq.round _ _ ⟨k + 1, rfl, by omega, by rw [e2, e5]; exact hM, by rw [e2, e5]; exact wadd_miss hG (by rw [nodeOf_snoc]; exact hfd), E, rfl⟩ (by omega) (.cons rfl (.cons rfl (.cons rfl (.cons rfl (.cons rfl (.cons rfl (.cons rfl (.cons rfl (.nil)))))))))
    refine Sq.nil ?_
    refine Eq.next ?_
    refine Cq.seq ?_
    refine Cq.els rfl ?_
    refine Cq.exit ?_
    refine Eq.past ?_
    refine Eq.past ?_
    refine Eq.hit ?_
    refine Eq.end ?_
    refine Eq.next ?_
    refine Cq.region ?_
    refine Sq.move .plain rfl rfl ?_
    refine Sq.add .plain rfl rfl rfl (by omega) ?_
    refine Sq.assign .plain rfl rfl ?_
    refine Sq.nil ?_
    have e1 := toNat_succ hi.1
    have e3 := wmid_done (k := k.toNat) (by omega) hu
    have e4 := (bfsw_prefix1 (f := f) (s := s) (L := L) i.toNat).length_le
    refine Eq.round _ _ ⟨i + 1, rfl, by rw [e1]; omega, by rw [e1, ← e3]; exact hM, by rw [e1, ← e3]; exact hG, E, rfl⟩ (by omega) (.cons rfl (.cons rfl (.cons rfl (.cons rfl (.cons rfl (.nil))))))
  refine Sq.nil ?_
  refine Eq.next ?_
  refine Cq.els rfl ?_
  refine Cq.exit ?_
  refine Eq.past ?_
  refine Eq.past ?_
  refine Eq.hit ?_
  refine Eq.next ?_
  refine Cq.seq ?_
  refine Cq.region ?_
  refine Sq.assign .plain rfl rfl ?_
  refine Sq.assign .plain rfl rfl ?_
  refine Sq.nil ?_
  refine Eq.next ?_
  refine Cq.ret ?_
  refine Eq.ret2 rfl rfl rfl ?_
  have e1 := first_missed (f := f) (s := s) (L := L) (G := G) (i := i.toNat) (by omega) (by omega) hG
  exact ⟨by rw [e1]; rfl, E⟩
end Go.Proofs.Ytdkdpmmfebdeaaa
set_option linter.unusedSimpArgs false
set_option linter.unusedVariables false
namespace Go.Proofs.Ytdkdpmmfebdeaaa
open Go.RowKit
set_option maxRecDepth 100000 in
theorem la1_c (w0 : World) (q x : Int) (a : A) (bt b : Nat) (xs : List Int) (hB : Blk w0 bt 60 [Value.slice (some ⟨b, 0, none⟩) a.next.length a.next.length]) (hT : Blk w0 b 64 (xs.map (Value.int .i64))) (hTab : Tab a xs) (hq : 0 ≤ q ∧ q < a.next.length) (hx : 0 ≤ x ∧ x < 6) : Ret Try.prog 100 #[Value.int .i64 q, Value.int .i64 x, Value.slice none 0 0, Value.pointer (some ⟨bt, 0, none⟩)] w0 (fun v w => Own w w0.heap.size 3 v [Value.int .i64 (goA a q x)] ∧ Ext w0 w) := by
  have E := Ext.refl w0
  refine Ret.of (args := [Value.int .i64 q, Value.int .i64 x, Value.slice none 0 0, Value.pointer (some ⟨bt, 0, none⟩)]) Try.func100 rfl rfl rfl ?_
  rintro _ rfl
  show Cq _ _ _ _ [(0, Value.int .i64 q), (1, Value.int .i64 x), (2, Value.slice none 0 0), (3, Value.pointer (some ⟨bt, 0, none⟩))] _
  refine Cq.seq ?_
  refine Cq.region ?_
  refine Sq.assign .plain rfl rfl ?_
  refine Sq.nil ?_
  refine Eq.next ?_
  refine Cq.seq ?_
  refine Cq.region ?_
  refine Sq.move .plain rfl rfl ?_
  refine Sq.loadB one60 .plain rfl rfl hB rfl ?_
  refine Sq.move .plain rfl rfl ?_
  refine Sq.move .plain rfl rfl ?_
  refine Sq.val .plain rfl rfl (Still.ixS slk60 rfl rfl (by omega) (by omega)) ?_
  refine Sq.val .plain rfl rfl (Still.ixA ar64 rfl rfl (by omega) (by omega)) ?_
  refine Sq.val .plain rfl rfl (Still.loadB one3 rfl hT (by rw [Nat.zero_add, List.getElem?_map, hTab.2 q x (by first | omega | assumption) (by omega)]; rfl)) ?_
  refine Sq.app1 sl52 (Own.nil w0 (w0.heap.size) 3) (by omega) (by simp) .plain rfl rfl rfl rfl rfl rfl rfl (fun v1 w2 ho4 g3 _ => ?_)
  have hs5 := g3.size
  replace E := E.owned (Own.nil w0 (w0.heap.size) 3) g3 (by omega)
  refine Sq.assign .plain rfl rfl ?_
  refine Sq.nil ?_
  refine Eq.next ?_
  refine Cq.ret ?_
  refine Eq.ret1 rfl rfl ?_
  exact ⟨by simpa using ho4, E⟩
set_option maxRecDepth 100000 in
theorem la2_c (w0 : World) (q : Int) (a : A) (nx ac : Value) (b : Nat) (hB : Blk w0 b 27 [Value.int .i64 a.al, nx, ac]) (hac : Bools w0 4 ac a.acc) (hq : 0 ≤ q ∧ q < a.acc.length) : Ret Try.prog 101 #[Value.int .i64 q, Value.pointer (some ⟨b, 0, none⟩)] w0 (fun v w => v = .bool (accA a q) ∧ w0 = w) := by
  refine Ret.of (args := [Value.int .i64 q, Value.pointer (some ⟨b, 0, none⟩)]) Try.func101 rfl rfl rfl ?_
  rintro _ rfl
  show Cq _ _ _ _ [(0, Value.int .i64 q), (1, Value.pointer (some ⟨b, 0, none⟩))] _
  refine Cq.seq ?_
  refine Cq.region ?_
  refine Sq.assign .plain rfl rfl ?_
  refine Sq.nil ?_
  refine Eq.next ?_
  refine Cq.seq ?_
  refine Cq.region ?_
  refine Sq.fieldAddr fld27_2 .plain rfl rfl ?_
  refine Sq.loadB one23 .plain rfl rfl hB rfl ?_
  refine Sq.move .plain rfl rfl ?_
  refine Sq.idxBools sl23 one4 hac .plain rfl rfl rfl .plain rfl rfl (by omega) (by omega) ?_
  refine Sq.assign .plain rfl rfl ?_
  refine Sq.nil ?_
  refine Eq.next ?_
  refine Cq.ret ?_
  refine Eq.ret1 rfl rfl ?_
  exact ⟨rfl, rfl⟩
set_option maxRecDepth 100000 in
theorem leads_c (w0 : World) (a : A) (nx ac : Value) (hnx : Rows w0 52 3 nx a.next) (hac : Bools w0 4 ac a.acc) (hv : validA a = true) (s : Int) (hs : 0 ≤ s ∧ s < a.next.length) : Ret Try.prog 72 #[Value.agg #[Value.int .i64 a.al, nx, ac], Value.int .i64 s] w0 (fun v w => v = .bool (firstA a s (accA a)).isSome ∧ Ext w0 w) := by
  have E := Ext.refl w0
  have hal := (validA_spec.1 hv).1
  refine Ret.of (args := [Value.agg #[Value.int .i64 a.al, nx, ac], Value.int .i64 s]) Try.func72 rfl rfl rfl ?_
  rintro _ rfl
  show Cq _ _ _ _ [(0, Value.agg #[Value.int .i64 a.al, nx, ac]), (1, Value.int .i64 s)] _
  refine Cq.seq ?_
  refine Cq.region ?_
  refine Sq.box .plain rfl rfl (fun b1 w2 e3 hB4 hlo5 => ?_)
  have hd6 := Nat.le_trans (Below.size E) hlo5
  have hs7 := Below.size e3
  replace E := E.trans e3
  refine Sq.assign .plain rfl rfl ?_
  refine Sq.nil ?_
  refine Eq.next ?_
  refine Cq.seq ?_
  refine Cq.region ?_
  refine Sq.loadAgg agg27 .plain rfl rfl hB4 rfl ?_
  have hd16 := hB4.lt
  refine Sq.call fn56 .plain rfl rfl (tableOf_c _ a _ _ (hnx.ext E) (hac.ext E) hv) ?_
  rintro _ w9 ⟨⟨b11, xs12, rfl, hlo13, hT14, hTab15⟩, e10⟩
  have hs17 := Below.size E
  have hs18 := Below.size e10
  replace E := E.trans e10
  replace hB4 := hB4.ext e10
  refine Sq.alloc1 zero60 rfl .plain rfl (fun b19 w20 e21 hB22 hlo23 => ?_)
  have hd24 := Nat.le_trans (Below.size E) hlo23
  have hd25 := Nat.lt_of_lt_of_le hB4.lt hlo23
  have hd26 := Nat.lt_of_lt_of_le hT14.lt hlo23
  have hs27 := Below.size e21
  replace E := E.trans e21
  replace hB4 := hB4.ext e21
  replace hT14 := hT14.ext e21
  refine Sq.store one60 .plain rfl rfl rfl hB22 (by simp) (fun w28 g29 hB30 => ?_)
  have hs31 := World.grownBy.size g29
  replace E := E.grown g29 (fun k hk => by injection hk with hk; subst hk; omega)
  replace hB4 := hB4.grown g29 (by intro h; injection h with h; omega)
  replace hT14 := hT14.grown g29 (by intro h; injection h with h; omega)
  replace hB22 := hB30
  refine Sq.nil ?_
  refine Eq.next ?_
  refine Cq.seq ?_
  refine Cq.drawS 14 (fun w' => Blk w' b1 27 [Value.int .i64 a.al, nx, ac] ∧ Blk w' b19 60 [Value.slice (some ⟨b11, 0, none⟩) a.next.length a.next.length] ∧ Blk w' b11 64 (xs12.map (Value.int .i64)) ∧ Ext w0 w') mixed (⟨hB4, hB22, hT14, E⟩) (fun w32 e33 hS => ?_)
  clear hS
  have hs34 := Below.size e33
  replace E := E.trans e33
  replace hB4 := hB4.ext e33
  replace hT14 := hT14.ext e33
  replace hB22 := hB22.ext e33
  refine Gq.st 0 rfl (by kernel_rfl) rfl .plain rfl (fun _ _ _ h => h) ⟨hB4, hB22, hT14, E⟩ (fun w' x => Still.loadB one60 rfl x.2.1 rfl) ?_
  refine Gq.st 1 rfl (by kernel_rfl) rfl .plain rfl (fun _ _ _ h => h) ⟨hB4, hB22, hT14, E⟩ (fun w' x => Still.len und60 rfl) ?_
  refine Gq.st 2 rfl (by kernel_rfl) rfl .plain rfl (fun _ _ _ h => h) ⟨hB4, hB22, hT14, E⟩ (fun w' x => Still.move rfl) ?_
  refine Gq.st 4 rfl (by kernel_rfl) rfl .plain rfl (fun _ _ _ h => h) ⟨hB4, hB22, hT14, E⟩ (fun w' x => Still.fieldAddr fld27_0 rfl) ?_
  refine Gq.st 5 rfl (by kernel_rfl) rfl .plain rfl (fun _ _ _ h => h) ⟨hB4, hB22, hT14, E⟩ (fun w' x => Still.loadB one3 rfl x.1 rfl) ?_
  refine Gq.st 7 rfl (by kernel_rfl) rfl .plain rfl (fun _ _ _ h => h) ⟨hB4, hB22, hT14, E⟩ (fun w' x => Still.makeFunc rfl) ?_
  refine Gq.st 8 rfl (by kernel_rfl) rfl .plain rfl (fun _ _ _ h => h) ⟨hB4, hB22, hT14, E⟩ (fun w' x => Still.makeFunc rfl) ?_
  refine Gq.two 3 6 rfl rfl (by kernel_rfl) ?_ ?_
  · refine Sq.lit sl52 rfl rfl .plain rfl rfl (one_cons rfl one_nil) (fun b35 w36 e37 hlo38 ho39 _ => ?_)
    replace ho39 := ho39 w32.heap.size (Nat.le_refl _)
    have hs41 := Below.size e37
    replace E := E.trans e37
    replace hB4 := hB4.ext e37
    replace hT14 := hT14.ext e37
    replace hB22 := hB22.ext e37
    refine Sq.nil ?_
    refine Eq.goes (fun _ => ⟨hB4, hB22, hT14, E⟩) ?_
    refine Gq.one 6 rfl (by kernel_rfl) ?_
    have hd46 := hB4.lt
    have hd47 := hT14.lt
    have hd48 := hB22.lt
    refine Sq.call fn58 .plain rfl rfl (lettersOf_c a.al (by omega) _) ?_
    rintro v42 w43 ⟨hl45, e44⟩
    have hs49 := Below.size E
    have hs50 := Below.size e44
    replace E := E.trans e44
    replace hB4 := hB4.ext e44
    replace hT14 := hT14.ext e44
    replace hB22 := hB22.ext e44
    replace ho39 := ho39.ext e44
    refine Sq.nil ?_
    refine Eq.goes (fun _ => ⟨hB4, hB22, hT14, E⟩) ?_
    refine Gq.one 9 rfl (by kernel_rfl) ?_
    have hd53 := hB4.lt
    have hd54 := hT14.lt
    have hd55 := hB22.lt
    have hvs := validA_spec.1 hv
    have hlet := letters_len6 a.al
    refine Sq.call fn95 .plain rfl rfl (firstPath_c _ (List.length a.next : Int) a.next.length s (letters a.al) _ _ _ _ (goA a) (accA a) (fun q => 0 ≤ q ∧ q < (a.next.length : Int)) rfl (Own.row ho39) (Own.row hl45) (by omega) (fun x hx => ⟨(mem_letters hx).1, (mem_letters hx).2.1⟩) hs (fun q hq x hx => goA_in hv hq ⟨(mem_letters hx).1, (mem_letters hx).2.1⟩) (fun q hq => hq) (by omega) ⟨100, _, [Value.pointer (some ⟨b19, 0, none⟩)], rfl, fn100, fun w q x hx hq hxx => la1_c w q x a _ _ _ (hB22.ext hx) (hT14.ext hx) hTab15 hq hxx⟩ ⟨101, _, [Value.pointer (some ⟨b1, 0, none⟩)], rfl, fn101, fun w q hx hq => (la2_c w q a _ _ _ (hB4.ext hx) ((hac.ext E).ext hx) (by have := (validA_spec.1 hv).2; omega)).mono fun v w' h => ⟨h.1, h.2 ▸ Ext.refl w⟩⟩) ?_
    rintro _ w51 ⟨rfl, e52⟩
    have hs56 := Below.size E
    have hs57 := Below.size e52
    replace E := E.trans e52
    replace hB4 := hB4.ext e52
    replace hT14 := hT14.ext e52
    replace hB22 := hB22.ext e52
    refine Sq.nil ?_
    refine Eq.goes (fun _ => ⟨hB4, hB22, hT14, E⟩) ?_
    refine Gq.st 10 rfl (by kernel_rfl) rfl .plain rfl (fun _ _ _ h => h) ⟨hB4, hB22, hT14, E⟩ (fun w' x => Still.move rfl) ?_
    refine Gq.st 11 rfl (by kernel_rfl) rfl .plain rfl (fun _ _ _ h => h) ⟨hB4, hB22, hT14, E⟩ (fun w' x => Still.extract rfl rfl) ?_
    refine Gq.st 12 rfl (by kernel_rfl) rfl .plain rfl (fun _ _ _ h => h) ⟨hB4, hB22, hT14, E⟩ (fun w' x => Still.extract rfl rfl) ?_
    refine Gq.st 13 rfl (by kernel_rfl) rfl .plain rfl (fun _ _ _ h => h) ⟨hB4, hB22, hT14, E⟩ (fun w' x => Still.assign rfl) ?_
    refine Gq.one 14 rfl (by kernel_rfl) ?_
    refine Sq.assign .plain rfl rfl ?_
    refine Sq.nil ?_
    refine Eq.goes (fun h => absurd h (by decide)) ?_
    refine Gq.done (by kernel_rfl) ?_
    refine Eq.next ?_
    refine Cq.seq ?_
    refine Cq.region ?_
    refine Sq.move .plain rfl rfl ?_
    refine Sq.assign .plain rfl rfl ?_
    refine Sq.nil ?_
    refine Eq.next ?_
    refine Cq.ret ?_
    refine Eq.ret1 rfl rfl ?_
    exact ⟨rfl, E⟩
  have hd62 := hB4.lt
  have hd63 := hT14.lt
  have hd64 := hB22.lt
  refine Sq.call fn58 .plain rfl rfl (lettersOf_c a.al (by omega) _) ?_
  rintro v58 w59 ⟨hl61, e60⟩
  have hs65 := Below.size E
  have hs66 := Below.size e60
  replace E := E.trans e60
  replace hB4 := hB4.ext e60
  replace hT14 := hT14.ext e60
  replace hB22 := hB22.ext e60
  refine Sq.nil ?_
  refine Eq.goes (fun _ => ⟨hB4, hB22, hT14, E⟩) ?_
  refine Gq.one 3 rfl (by kernel_rfl) ?_
  refine Sq.lit sl52 rfl rfl .plain rfl rfl (one_cons rfl one_nil) (fun b67 w68 e69 hlo70 ho71 _ => ?_)
  replace ho71 := ho71 w59.heap.size (Nat.le_refl _)
  have hs73 := Below.size e69
  replace E := E.trans e69
  replace hB4 := hB4.ext e69
  replace hT14 := hT14.ext e69
  replace hB22 := hB22.ext e69
  replace hl61 := hl61.ext e69
  refine Sq.nil ?_
  refine Eq.goes (fun _ => ⟨hB4, hB22, hT14, E⟩) ?_
  refine Gq.one 9 rfl (by kernel_rfl) ?_
  have hd76 := hB4.lt
  have hd77 := hT14.lt
  have hd78 := hB22.lt
  have hvs := validA_spec.1 hv
  have hlet := letters_len6 a.al
  refine Sq.call fn95 .plain rfl rfl (firstPath_c _ (List.length a.next : Int) a.next.length s (letters a.al) _ _ _ _ (goA a) (accA a) (fun q => 0 ≤ q ∧ q < (a.next.length : Int)) rfl (Own.row ho71) (Own.row hl61) (by omega) (fun x hx => ⟨(mem_letters hx).1, (mem_letters hx).2.1⟩) hs (fun q hq x hx => goA_in hv hq ⟨(mem_letters hx).1, (mem_letters hx).2.1⟩) (fun q hq => hq) (by omega) ⟨100, _, [Value.pointer (some ⟨b19, 0, none⟩)], rfl, fn100, fun w q x hx hq hxx => la1_c w q x a _ _ _ (hB22.ext hx) (hT14.ext hx) hTab15 hq hxx⟩ ⟨101, _, [Value.pointer (some ⟨b1, 0, none⟩)], rfl, fn101, fun w q hx hq => (la2_c w q a _ _ _ (hB4.ext hx) ((hac.ext E).ext hx) (by have := (validA_spec.1 hv).2; omega)).mono fun v w' h => ⟨h.1, h.2 ▸ Ext.refl w⟩⟩) ?_
  rintro _ w74 ⟨rfl, e75⟩
  have hs79 := Below.size E
  have hs80 := Below.size e75
  replace E := E.trans e75
  replace hB4 := hB4.ext e75
  replace hT14 := hT14.ext e75
  replace hB22 := hB22.ext e75
  refine Sq.nil ?_
  refine Eq.goes (fun _ => ⟨hB4, hB22, hT14, E⟩) ?_
  refine Gq.st 10 rfl (by kernel_rfl) rfl .plain rfl (fun _ _ _ h => h) ⟨hB4, hB22, hT14, E⟩ (fun w' x => Still.move rfl) ?_
  refine Gq.st 11 rfl (by kernel_rfl) rfl .plain rfl (fun _ _ _ h => h) ⟨hB4, hB22, hT14, E⟩ (fun w' x => Still.extract rfl rfl) ?_
  refine Gq.st 12 rfl (by kernel_rfl) rfl .plain rfl (fun _ _ _ h => h) ⟨hB4, hB22, hT14, E⟩ (fun w' x => Still.extract rfl rfl) ?_
  refine Gq.st 13 rfl (by kernel_rfl) rfl .plain rfl (fun _ _ _ h => h) ⟨hB4, hB22, hT14, E⟩ (fun w' x => Still.assign rfl) ?_
  refine Gq.one 14 rfl (by kernel_rfl) ?_
  refine Sq.assign .plain rfl rfl ?_
  refine Sq.nil ?_
  refine Eq.goes (fun h => absurd h (by decide)) ?_
  refine Gq.done (by kernel_rfl) ?_
  refine Eq.next ?_
  refine Cq.seq ?_
  refine Cq.region ?_
  refine Sq.move .plain rfl rfl ?_
  refine Sq.assign .plain rfl rfl ?_
  refine Sq.nil ?_
  refine Eq.next ?_
  refine Cq.ret ?_
  refine Eq.ret1 rfl rfl ?_
  exact ⟨rfl, E⟩
end Go.Proofs.Ytdkdpmmfebdeaaa
set_option linter.unusedSimpArgs false
set_option linter.unusedVariables false
namespace Go.Proofs.Ytdkdpmmfebdeaaa
open Go.RowKit
set_option maxRecDepth 100000 in
theorem l4Sizes_c (w0 : World) (aa : List A) (av sv : Value) (ss : List Int) (lt kd gl : Int) (hN : NetA w0 27 52 3 4 av aa) (hS : Ints w0 3 sv ss) (hlen : aa.length ≤ 2) : Ret Try.prog 87 #[Value.agg #[Value.slice none 0 0, av, sv, Value.int .i64 lt, Value.int .i64 kd, Value.int .i64 gl]] w0 (fun v w => Own w w0.heap.size 3 v ((szs aa).map (Value.int .i64)) ∧ Ext w0 w) := by
  have E := Ext.refl w0
  obtain ⟨BN, rows, hW, hrl, hat⟩ := id hN
  refine Ret.of (args := [Value.agg #[Value.slice none 0 0, av, sv, Value.int .i64 lt, Value.int .i64 kd, Value.int .i64 gl]]) Try.func87 rfl rfl rfl ?_
  rintro _ rfl
  show Cq _ _ _ _ [(0, Value.agg #[Value.slice none 0 0, av, sv, Value.int .i64 lt, Value.int .i64 kd, Value.int .i64 gl])] _
  refine Cq.seq ?_
  refine Cq.region ?_
  refine Sq.box .plain rfl rfl (fun b1 w2 e3 hB4 hlo5 => ?_)
  have hd6 := Nat.le_trans (Below.size E) hlo5
  have hs7 := Below.size e3
  replace E := E.trans e3
  replace hW := hW.ext e3
  refine Sq.assign .plain rfl rfl ?_
  refine Sq.nil ?_
  refine Eq.next ?_
  refine Cq.seq ?_
  refine Cq.region ?_
  refine Sq.lit sl52 rfl rfl .plain rfl rfl one_nil (fun b8 w9 e10 hlo11 ho12 _ => ?_)
  replace ho12 := ho12 w2.heap.size (Nat.le_refl _)
  have hs14 := Below.size e10
  replace E := E.trans e10
  replace hW := hW.ext e10
  replace hB4 := hB4.ext e10
  refine Sq.assign .plain rfl rfl ?_
  refine Sq.nil ?_
  refine Eq.next ?_
  refine Cq.seq ?_
  refine Cq.seq ?_
  refine Cq.region ?_
  refine Sq.assign .plain rfl rfl ?_
  refine Sq.nil ?_
  refine Eq.next ?_
  refine Cq.block ?_
  refine Cq.loop (fun nn w ls => ∃ (k : Int), ∃ (ov : Value), ls = [(1, Value.pointer (some ⟨b1, 0, none⟩)), (3, ov), (4, Value.int .i64 k)] ∧ k = 0 ∧ Own w w0.heap.size 3 ov ([] : List Value) ∧ Ext w0 w ∧ Blk w b1 70 [Value.slice none 0 0, av, sv, Value.int .i64 lt, Value.int .i64 kd, Value.int .i64 gl] ∧ Wid w BN 27 3 av rows ∧ nn = k.toNat) _ _ ⟨0, _, rfl, rfl, Own.mono ho12 (by omega), E, hB4, hW, rfl⟩ (.cons rfl (.cons rfl (.cons rfl (.nil)))) ?_
  rintro nn wl1 ls ⟨k, ov, rfl, hk, ho, E, hB4, hW, rfl⟩
  have hs15 := Below.size E
  refine Cq.seq ?_
  refine Cq.seq ?_
  refine Cq.region ?_
  refine Sq.move .plain rfl rfl ?_
  refine Sq.fieldAddr fld70_0 .plain rfl rfl ?_
  refine Sq.loadB one68 .plain rfl rfl hB4 rfl ?_
  refine Sq.len .plain rfl und68 rfl ?_
  refine Sq.lss .plain rfl rfl rfl ?_
  refine Sq.part (fun c16 => ?_) (fun c16 => ?_)
  · refine Sq.nil ?_
    refine Eq.next ?_
    refine Cq.thn rfl ?_
    refine Cq.skip ?_
    refine Eq.next ?_
    refine Cq.seq ?_
    refine Cq.block ?_
    refine Cq.region ?_
    exfalso
    omega
  refine Sq.nil ?_
  refine Eq.next ?_
  refine Cq.els rfl ?_
  refine Cq.exit ?_
  refine Eq.past ?_
  refine Eq.past ?_
  refine Eq.hit ?_
  refine Eq.next ?_
  refine Cq.seq ?_
  refine Cq.seq ?_
  refine Cq.region ?_
  refine Sq.assign .plain rfl rfl ?_
  refine Sq.nil ?_
  refine Eq.next ?_
  refine Cq.block ?_
  refine Cq.loop (fun nn w ls => ∃ (k : Int), ∃ (ov : Value), ls = [(1, Value.pointer (some ⟨b1, 0, none⟩)), (3, ov), (5, Value.int .i64 k)] ∧ (0 ≤ k ∧ k ≤ aa.length) ∧ Own w w0.heap.size 3 ov (((szs aa).take k.toNat).map (Value.int .i64)) ∧ Ext w0 w ∧ Blk w b1 70 [Value.slice none 0 0, av, sv, Value.int .i64 lt, Value.int .i64 kd, Value.int .i64 gl] ∧ Wid w BN 27 3 av rows ∧ nn = ((aa.length : Int) - k).toNat) _ _ ⟨0, _, rfl, by omega, Own.mono ho (by omega), E, hB4, hW, rfl⟩ (.cons rfl (.cons rfl (.cons rfl (.nil)))) ?_
  rintro nn wl2 ls ⟨k, ov, rfl, hk, ho, E, hB4, hW, rfl⟩
  have hs17 := Below.size E
  refine Cq.seq ?_
  refine Cq.seq ?_
  refine Cq.region ?_
  refine Sq.move .plain rfl rfl ?_
  refine Sq.fieldAddr fld70_1 .plain rfl rfl ?_
  refine Sq.loadB one67 .plain rfl rfl hB4 rfl ?_
  refine Sq.lenWid hW .plain rfl und67 rfl ?_
  rw [hrl]
  refine Sq.lss .plain rfl rfl rfl ?_
  refine Sq.part (fun c18 => ?_) (fun c18 => ?_)
  · refine Sq.nil ?_
    refine Eq.next ?_
    refine Cq.thn rfl ?_
    refine Cq.skip ?_
    refine Eq.next ?_
    refine Cq.seq ?_
    refine Cq.block ?_
    refine Cq.region ?_
    refine Sq.move .plain rfl rfl ?_
    refine Sq.fieldAddr fld70_1 .plain rfl rfl ?_
    refine Sq.loadB one67 .plain rfl rfl hB4 rfl ?_
    refine Sq.move .plain rfl rfl ?_
    obtain ⟨nxq19, acq19, hrq19, hnxq19, hacq19⟩ := hat k.toNat (aa.getD k.toNat zeroA) (at_getD (by omega))
    obtain ⟨gq19, cq19, hvq19, hlq19⟩ := Wid.rowAt hW (i := k) (by omega) hrq19
    refine Sq.val .plain rfl rfl (Still.ixV slw67 hvq19 rfl rfl (by omega)) ?_
    refine Sq.fieldAddr fld27_1 .plain rfl rfl ?_
    refine Sq.val .plain rfl rfl (Still.load one22 rfl (Wid.cellR hvq19 hW (by omega) hrq19 (j := 1) (by decide))) ?_
    refine Sq.lenRows (hnxq19.ext E) .plain rfl und22 rfl ?_
    refine Sq.app1 sl52 ho (by omega) (by rw [List.length_map, List.length_take]; omega) .plain rfl rfl rfl rfl rfl rfl rfl (fun v20 w21 ho23 g22 _ => ?_)
    have hs24 := g22.size
    replace E := E.owned ho g22 (by omega)
    replace hB4 := hB4.owned ho g22 (by decide)
    replace hW := hW.owned ho g22 (by decide)
    refine Sq.assign .plain rfl rfl ?_
    refine Sq.nil ?_
    refine Eq.end ?_
    refine Eq.next ?_
    refine Cq.region ?_
    refine Sq.move .plain rfl rfl ?_
    refine Sq.add .plain rfl rfl rfl (by omega) ?_
    refine Sq.assign .plain rfl rfl ?_
    refine Sq.nil ?_
    have e1 := toNat_succ hk.1
    refine Eq.round _ _ ⟨k + 1, _, rfl, by omega, by rw [e1, take_snoc 0 (by rw [szs_length]; omega), List.map_append, szs_at (by omega)]; exact ho23, E, hB4, hW, rfl⟩ (by omega) (.cons rfl (.cons rfl (.cons rfl (.nil))))
  refine Sq.nil ?_
  refine Eq.next ?_
  refine Cq.els rfl ?_
  refine Cq.exit ?_
  refine Eq.past ?_
  refine Eq.past ?_
  refine Eq.hit ?_
  refine Eq.next ?_
  refine Cq.seq ?_
  refine Cq.region ?_
  refine Sq.move .plain rfl rfl ?_
  refine Sq.assign .plain rfl rfl ?_
  refine Sq.nil ?_
  refine Eq.next ?_
  refine Cq.ret ?_
  refine Eq.ret1 rfl rfl ?_
  rw [List.take_of_length_le (by rw [szs_length]; omega)] at ho
  exact ⟨ho, E⟩
set_option maxRecDepth 100000 in
theorem l4Decode_c (w0 : World) (ss : List Int) (r : Value) (hr : Ints w0 3 r ss) (q : Int) (hs : SzOk ss) (hq : 0 ≤ q ∧ q ≤ 1000) : Ret Try.prog 90 #[r, Value.int .i64 q] w0 (fun v w => Own w w0.heap.size 3 v ((decL ss q).map (Value.int .i64)) ∧ Ext w0 w) := by
  have E := Ext.refl w0
  have hsl := hs.1
  refine Ret.of (args := [r, Value.int .i64 q]) Try.func90 rfl rfl rfl ?_
  rintro _ rfl
  show Cq _ _ _ _ [(0, r), (1, Value.int .i64 q)] _
  refine Cq.seq ?_
  refine Cq.region ?_
  refine Sq.assign .plain rfl rfl ?_
  refine Sq.nil ?_
  refine Eq.next ?_
  refine Cq.seq ?_
  refine Cq.region ?_
  refine Sq.move .plain rfl rfl ?_
  refine Sq.lenInts (hr.ext E) .plain rfl und52 rfl ?_
  refine Sq.make sl52 .plain rfl rfl rfl rfl (by omega) (fun b1 w2 e3 hlo4 hB5 => ?_)
  replace hB5 := hB5 w0.heap.size (Nat.le_refl _)
  have hs6 := Below.size e3
  replace E := E.trans e3
  refine Sq.assign .plain rfl rfl ?_
  refine Sq.nil ?_
  refine Eq.next ?_
  refine Cq.seq ?_
  refine Cq.seq ?_
  refine Cq.region ?_
  refine Sq.move .plain rfl rfl ?_
  refine Sq.lenInts (hr.ext E) .plain rfl und52 rfl ?_
  refine Sq.sub .plain rfl rfl rfl (by omega) ?_
  refine Sq.assign .plain rfl rfl ?_
  refine Sq.nil ?_
  refine Eq.next ?_
  refine Cq.block ?_
  refine Cq.loop (fun nn w ls => ∃ (i : Int), ∃ (qv : Int), ls = [(0, r), (1, Value.int .i64 qv), (5, Value.slice (some ⟨b1, 0, none⟩) (List.length ss : Int).toNat (List.length ss : Int).toNat), (6, Value.int .i64 i)] ∧ (-1 ≤ i ∧ i < ss.length) ∧ qv = q / prodFrom ss (i + 1).toNat ∧ Own w w0.heap.size 3 (Value.slice (some ⟨b1, 0, none⟩) (List.length ss : Int).toNat (List.length ss : Int).toNat) ((decTo ss q (i + 1).toNat).map (Value.int .i64)) ∧ Ext w0 w ∧ nn = (i + 1).toNat) _ _ ⟨(List.length ss : Int) - 1, q, rfl, by omega, by rw [prodFrom_end (by omega), Int.ediv_one], by rw [decTo_all q (by omega), List.map_replicate]; exact hB5, E, rfl⟩ (.cons rfl (.cons rfl (.cons rfl (.cons rfl (.nil))))) ?_
  rintro nn wl1 ls ⟨i, qv, rfl, hi, hqv, ho, E, rfl⟩
  have hs7 := Below.size E
  have hnb := node_bd hs hq (i + 1).toNat
  rw [← hqv] at hnb
  have hdl := decTo_length ss q (i + 1).toNat
  have hsi : 0 ≤ i → 1 ≤ ss.getD i.toNat 0 ∧ ss.getD i.toNat 0 ≤ 12 := fun h => hs.2 _ (by omega)
  refine Cq.seq ?_
  refine Cq.seq ?_
  refine Cq.region ?_
  refine Sq.move .plain rfl rfl ?_
  refine Sq.geq .plain rfl rfl rfl ?_
  refine Sq.part (fun c8 => ?_) (fun c8 => ?_)
  · refine Sq.nil ?_
    refine Eq.next ?_
    refine Cq.thn rfl ?_
    refine Cq.skip ?_
    refine Eq.next ?_
    refine Cq.seq ?_
    refine Cq.block ?_
    refine Cq.seq ?_
    refine Cq.region ?_
    refine Sq.move .plain rfl rfl ?_
    refine Sq.move .plain rfl rfl ?_
    refine Sq.move .plain rfl rfl ?_
    refine Sq.move .plain rfl rfl ?_
    refine Sq.move .plain rfl rfl ?_
    refine Sq.idxInts sl52 one3 (hr.ext E) .plain rfl rfl rfl .plain rfl rfl (by omega) (by omega) ?_
    refine Sq.rem .plain rfl rfl rfl (by have := hsi (by omega); omega) ?_
    obtain ⟨p9, hp10o⟩ := Own.at ho (i := i) (by omega) (by first | (simp only [List.length_map]; omega) | (simp; omega))
    refine Sq.atO sl52 hp10o .plain rfl rfl rfl ?_
    refine Sq.storeO one3 ho hp10o .plain rfl rfl rfl (fun w11 g12 ho13 => ?_)
    have hs14 := World.grownBy.size g12
    replace E := E.owned ho g12 (by omega)
    replace ho := ho13
    refine Sq.nil ?_
    refine Eq.next ?_
    refine Cq.region ?_
    refine Sq.move .plain rfl rfl ?_
    refine Sq.move .plain rfl rfl ?_
    refine Sq.move .plain rfl rfl ?_
    refine Sq.idxInts sl52 one3 (hr.ext E) .plain rfl rfl rfl .plain rfl rfl (by omega) (by omega) ?_
    refine Sq.quo .plain rfl rfl rfl (by have := hsi (by omega); omega) ?_
    refine Sq.assign .plain rfl rfl ?_
    refine Sq.nil ?_
    refine Eq.end ?_
    refine Eq.next ?_
    refine Cq.region ?_
    refine Sq.move .plain rfl rfl ?_
    refine Sq.sub .plain rfl rfl rfl (by omega) ?_
    refine Sq.assign .plain rfl rfl ?_
    refine Sq.nil ?_
    have e1 : (i + 1).toNat = i.toNat + 1 := toNat_succ (by omega)
    have e2 : (i - 1 + 1).toNat = i.toNat := by omega
    refine Eq.round _ _ ⟨i - 1, _, rfl, by omega, by rw [e2, hqv, e1, prod_node (by omega) hs], by rw [e2, ← decTo_step (q := q) (m := i.toNat) (by omega), List.map_set, ← e1, ← hqv]; exact ho, E, rfl⟩ (by omega) (.cons rfl (.cons rfl (.cons rfl (.cons rfl (.nil)))))
  refine Sq.nil ?_
  refine Eq.next ?_
  refine Cq.els rfl ?_
  refine Cq.exit ?_
  refine Eq.past ?_
  refine Eq.past ?_
  refine Eq.hit ?_
  refine Eq.next ?_
  refine Cq.seq ?_
  refine Cq.region ?_
  refine Sq.move .plain rfl rfl ?_
  refine Sq.assign .plain rfl rfl ?_
  refine Sq.nil ?_
  refine Eq.next ?_
  refine Cq.ret ?_
  refine Eq.ret1 rfl rfl ?_
  have e3 : (i + 1).toNat = 0 := by omega
  rw [e3, decTo_zero] at ho
  exact ⟨ho, E⟩
set_option maxRecDepth 100000 in
theorem l4Encode_c (w0 : World) (ss st : List Int) (r u : Value) (hr : Ints w0 3 r ss) (hu : Ints w0 3 u st) (hs : SzOk ss) (hst : StOk ss st) (hl : st.length = ss.length) : Ret Try.prog 92 #[r, u] w0 (fun v w => v = .int .i64 (encTo ss st ss.length) ∧ Ext w0 w) := by
  have E := Ext.refl w0
  have hsl := hs.1
  refine Ret.of (args := [r, u]) Try.func92 rfl rfl rfl ?_
  rintro _ rfl
  show Cq _ _ _ _ [(0, r), (1, u)] _
  refine Cq.seq ?_
  refine Cq.region ?_
  refine Sq.assign .plain rfl rfl ?_
  refine Sq.nil ?_
  refine Eq.next ?_
  refine Cq.seq ?_
  refine Cq.region ?_
  refine Sq.assign .plain rfl rfl ?_
  refine Sq.nil ?_
  refine Eq.next ?_
  refine Cq.seq ?_
  refine Cq.seq ?_
  refine Cq.region ?_
  refine Sq.assign .plain rfl rfl ?_
  refine Sq.nil ?_
  refine Eq.next ?_
  refine Cq.block ?_
  refine Cq.loop (fun nn w ls => ∃ (k : Int), ls = [(0, r), (1, u), (5, Value.int .i64 (encTo ss st k.toNat)), (6, Value.int .i64 k)] ∧ (0 ≤ k ∧ k ≤ ss.length) ∧ Ext w0 w ∧ Ints w 3 r ss ∧ Ints w 3 u st ∧ nn = ((ss.length : Int) - k).toNat) _ _ ⟨0, rfl, by omega, E, hr, hu, rfl⟩ (.cons rfl (.cons rfl (.cons rfl (.cons rfl (.nil))))) ?_
  rintro nn wl1 ls ⟨k, rfl, hk, E, hr, hu, rfl⟩
  have hs1 := Below.size E
  refine Cq.seq ?_
  refine Cq.seq ?_
  refine Cq.region ?_
  refine Sq.move .plain rfl rfl ?_
  refine Sq.move .plain rfl rfl ?_
  refine Sq.lenInts hr .plain rfl und52 rfl ?_
  refine Sq.lss .plain rfl rfl rfl ?_
  refine Sq.part (fun c2 => ?_) (fun c2 => ?_)
  · refine Sq.nil ?_
    refine Eq.next ?_
    refine Cq.thn rfl ?_
    refine Cq.skip ?_
    refine Eq.next ?_
    refine Cq.seq ?_
    refine Cq.block ?_
    obtain ⟨phpA, hpA⟩ := Ints.at hr (i := k) (by omega) (by omega)
    obtain ⟨phpB, hpB⟩ := Ints.at hu (i := k) (by omega) (by omega)
    have heb := enc_bd hs hst (k := k.toNat) (by omega)
    have hsb := hst k.toNat (by omega)
    have hsb2 := hs.2 k.toNat (by omega)
    refine Cq.drawS 11 (fun w' => At w' 3 r k phpA (.int .i64 (ss.getD k.toNat 0)) ∧ At w' 3 u k phpB (.int .i64 (st.getD k.toNat 0))) mixed (⟨hpA, hpB⟩) (fun w3 e4 hS => ?_)
    clear hS
    have hs5 := Below.size e4
    replace E := E.trans e4
    replace hr := hr.ext e4
    replace hu := hu.ext e4
    replace hpA := hpA.ext e4
    replace hpB := hpB.ext e4
    refine Gq.st 0 rfl (by kernel_rfl) rfl .plain rfl (fun _ _ _ h => h) ⟨hpA, hpB⟩ (fun w' x => Still.move rfl) ?_
    refine Gq.st 1 rfl (by kernel_rfl) rfl .plain rfl (fun _ _ _ h => h) ⟨hpA, hpB⟩ (fun w' x => Still.move rfl) ?_
    refine Gq.st 2 rfl (by kernel_rfl) rfl .plain rfl (fun _ _ _ h => h) ⟨hpA, hpB⟩ (fun w' x => Still.move rfl) ?_
    refine Gq.st 3 rfl (by kernel_rfl) rfl .plain rfl (fun _ _ _ h => h) ⟨hpA, hpB⟩ (fun w' x => Still.at' sl52 hpA rfl rfl) ?_
    refine Gq.st 4 rfl (by kernel_rfl) rfl .plain rfl (fun _ _ _ h => h) ⟨hpA, hpB⟩ (fun w' x => Still.loadA one3 rfl (x.1).1) ?_
    refine Gq.st 5 rfl (by kernel_rfl) rfl .plain rfl (fun _ _ _ h => h) ⟨hpA, hpB⟩ (fun w' x => Still.mul rfl rfl (by omega)) ?_
    refine Gq.st 6 rfl (by kernel_rfl) rfl .plain rfl (fun _ _ _ h => h) ⟨hpA, hpB⟩ (fun w' x => Still.move rfl) ?_
    refine Gq.st 7 rfl (by kernel_rfl) rfl .plain rfl (fun _ _ _ h => h) ⟨hpA, hpB⟩ (fun w' x => Still.move rfl) ?_
    refine Gq.st 8 rfl (by kernel_rfl) rfl .plain rfl (fun _ _ _ h => h) ⟨hpA, hpB⟩ (fun w' x => Still.at' sl52 hpB rfl rfl) ?_
    refine Gq.st 9 rfl (by kernel_rfl) rfl .plain rfl (fun _ _ _ h => h) ⟨hpA, hpB⟩ (fun w' x => Still.loadA one3 rfl (x.2).1) ?_
    refine Gq.st 10 rfl (by kernel_rfl) rfl .plain rfl (fun _ _ _ h => h) ⟨hpA, hpB⟩ (fun w' x => Still.add rfl rfl (by omega)) ?_
    refine Gq.one 11 rfl (by kernel_rfl) ?_
    refine Sq.assign .plain rfl rfl ?_
    refine Sq.nil ?_
    refine Eq.goes (fun h => absurd h (by decide)) ?_
    refine Gq.done (by kernel_rfl) ?_
    refine Eq.end ?_
    refine Eq.next ?_
    refine Cq.region ?_
    refine Sq.move .plain rfl rfl ?_
    refine Sq.add .plain rfl rfl rfl (by omega) ?_
    refine Sq.assign .plain rfl rfl ?_
    refine Sq.nil ?_
    have e1 := toNat_succ hk.1
    rw [show encTo ss st k.toNat * ss.getD k.toNat 0 + st.getD k.toNat 0 = encTo ss st (k + 1).toNat by rw [e1]; rfl]
    refine Eq.round _ _ ⟨k + 1, rfl, by omega, E, hr, hu, rfl⟩ (by omega) (.cons rfl (.cons rfl (.cons rfl (.cons rfl (.nil)))))
  refine Sq.nil ?_
  refine Eq.next ?_
  refine Cq.els rfl ?_
  refine Cq.exit ?_
  refine Eq.past ?_
  refine Eq.past ?_
  refine Eq.hit ?_
  refine Eq.next ?_
  refine Cq.seq ?_
  refine Cq.region ?_
  refine Sq.move .plain rfl rfl ?_
  refine Sq.assign .plain rfl rfl ?_
  refine Sq.nil ?_
  refine Eq.next ?_
  refine Cq.ret ?_
  refine Eq.ret1 rfl rfl ?_
  have e2 : k.toNat = ss.length := by omega
  exact ⟨by rw [e2], E⟩
set_option maxRecDepth 100000 in
theorem l4Choices_c (w0 : World) (aa : List A) (av sv : Value) (ss : List Int) (lt kd gl : Int) (hN : NetA w0 27 52 3 4 av aa) (hS : Ints w0 3 sv ss) (hok : NetOk aa) (i q x : Int) (hi : 0 ≤ i ∧ i < aa.length) (hq : 0 ≤ q ∧ q < ((aa.getD i.toNat zeroA).next.length : Int)) (hx : 0 ≤ x ∧ x < 6) : Ret Try.prog 108 #[Value.agg #[Value.slice none 0 0, av, sv, Value.int .i64 lt, Value.int .i64 kd, Value.int .i64 gl], Value.int .i64 i, Value.int .i64 q, Value.int .i64 x] w0 (fun v w => Own w w0.heap.size 3 v [Value.int .i64 (goA (aa.getD i.toNat zeroA) q x)] ∧ Ext w0 w) := by
  have E := Ext.refl w0
  obtain ⟨BN, rows, hW, hrl, hat⟩ := id hN
  have hlen := hok.1
  have hv := (net_at hok (k := i.toNat) (by omega)).2.1
  refine Ret.of (args := [Value.agg #[Value.slice none 0 0, av, sv, Value.int .i64 lt, Value.int .i64 kd, Value.int .i64 gl], Value.int .i64 i, Value.int .i64 q, Value.int .i64 x]) Try.func108 rfl rfl rfl ?_
  rintro _ rfl
  show Cq _ _ _ _ [(0, Value.agg #[Value.slice none 0 0, av, sv, Value.int .i64 lt, Value.int .i64 kd, Value.int .i64 gl]), (1, Value.int .i64 i), (2, Value.int .i64 q), (3, Value.int .i64 x)] _
  refine Cq.seq ?_
  refine Cq.region ?_
  refine Sq.box .plain rfl rfl (fun b1 w2 e3 hB4 hlo5 => ?_)
  have hd6 := Nat.le_trans (Below.size E) hlo5
  have hs7 := Below.size e3
  replace E := E.trans e3
  replace hW := hW.ext e3
  refine Sq.assign .plain rfl rfl ?_
  refine Sq.nil ?_
  refine Eq.next ?_
  refine Cq.seq ?_
  refine Cq.seq ?_
  refine Cq.region ?_
  refine Sq.move .plain rfl rfl ?_
  refine Sq.fieldAddr fld70_0 .plain rfl rfl ?_
  refine Sq.loadB one68 .plain rfl rfl hB4 rfl ?_
  refine Sq.len .plain rfl und68 rfl ?_
  refine Sq.geq .plain rfl rfl rfl ?_
  refine Sq.isT (by omega) ?_
  refine Sq.nil ?_
  refine Eq.next ?_
  refine Cq.thn rfl ?_
  refine Cq.seq ?_
  refine Cq.region ?_
  refine Sq.fieldAddr fld70_1 .plain rfl rfl ?_
  refine Sq.loadB one67 .plain rfl rfl hB4 rfl ?_
  refine Sq.move .plain rfl rfl ?_
  refine Sq.fieldAddr fld70_0 .plain rfl rfl ?_
  refine Sq.loadB one68 .plain rfl rfl hB4 rfl ?_
  refine Sq.len .plain rfl und68 rfl ?_
  refine Sq.sub .plain rfl rfl rfl (by omega) ?_
  rw [show i - ((0 : Nat) : Int) = i by omega]
  obtain ⟨nxq8, acq8, hrq8, hnxq8, hacq8⟩ := hat i.toNat (aa.getD i.toNat zeroA) (at_getD (by omega))
  obtain ⟨gq8, cq8, hvq8, hlq8⟩ := Wid.rowAt hW (i := i) (by omega) hrq8
  refine Sq.val .plain rfl rfl (Still.ixV slw67 hvq8 rfl rfl (by omega)) ?_
  refine Sq.val .plain rfl rfl (Still.loadAggW agg27 rfl rfl (fun j hj => Wid.cellR hvq8 hW (by omega) hrq8 hj)) ?_
  refine Sq.move .plain rfl rfl ?_
  refine Sq.move .plain rfl rfl ?_
  have hd12 := hB4.lt
  refine Sq.call fn53 .plain rfl rfl (l3Go_c _ (aa.getD i.toNat zeroA) _ _ (hnxq8.ext E) (hacq8.ext E) hv q x (by omega) (by omega)) ?_
  rintro _ w10 ⟨rfl, e11⟩
  have hs13 := Below.size E
  have hs14 := Below.size e11
  replace E := E.trans e11
  refine Sq.lit sl52 rfl rfl .plain rfl rfl (one_cons rfl one_nil) (fun b15 w16 e17 hlo18 ho19 _ => ?_)
  replace ho19 := ho19 w10.heap.size (Nat.le_refl _)
  have hs21 := Below.size e17
  replace E := E.trans e17
  refine Sq.assign .plain rfl rfl ?_
  refine Sq.nil ?_
  refine Eq.next ?_
  refine Cq.ret ?_
  refine Eq.pastRet ?_
  refine Eq.ret1 rfl rfl ?_
  exact ⟨Own.mono ho19 (by omega), E⟩
end Go.Proofs.Ytdkdpmmfebdeaaa
set_option linter.unusedSimpArgs false
set_option linter.unusedVariables false
namespace Go.Proofs.Ytdkdpmmfebdeaaa
open Go.RowKit
set_option maxRecDepth 100000 in
theorem l4Ok_c (w0 : World) (aa : List A) (av sv : Value) (ss : List Int) (lt kd gl : Int) (hN : NetA w0 27 52 3 4 av aa) (hS : Ints w0 3 sv ss) (u : Value) (st : List Int) (hu : Ints w0 3 u st) (hok : NetOk aa) (hst : StOk (szs aa) st) (hsl : st.length = aa.length) (i : Int) (hi : 0 ≤ i ∧ i < aa.length) : Ret Try.prog 104 #[Value.agg #[Value.slice none 0 0, av, sv, Value.int .i64 lt, Value.int .i64 kd, Value.int .i64 gl], u, Value.int .i64 i] w0 (fun v w => v = .bool (accA (aa.getD i.toNat zeroA) (st.getD i.toNat 0)) ∧ Ext w0 w) := by
  have E := Ext.refl w0
  obtain ⟨BN, rows, hW, hrl, hat⟩ := id hN
  have hlen := hok.1
  refine Ret.of (args := [Value.agg #[Value.slice none 0 0, av, sv, Value.int .i64 lt, Value.int .i64 kd, Value.int .i64 gl], u, Value.int .i64 i]) Try.func104 rfl rfl rfl ?_
  rintro _ rfl
  show Cq _ _ _ _ [(0, Value.agg #[Value.slice none 0 0, av, sv, Value.int .i64 lt, Value.int .i64 kd, Value.int .i64 gl]), (1, u), (2, Value.int .i64 i)] _
  refine Cq.seq ?_
  refine Cq.region ?_
  refine Sq.box .plain rfl rfl (fun b1 w2 e3 hB4 hlo5 => ?_)
  have hd6 := Nat.le_trans (Below.size E) hlo5
  have hs7 := Below.size e3
  replace E := E.trans e3
  replace hW := hW.ext e3
  refine Sq.assign .plain rfl rfl ?_
  refine Sq.nil ?_
  refine Eq.next ?_
  refine Cq.seq ?_
  obtain ⟨nxq, acq, hrq, hnxq, hacq⟩ := hat i.toNat (aa.getD i.toNat zeroA) (at_getD (by omega))
  obtain ⟨gq, cq, hvq, hlq⟩ := Wid.rowAt hW (i := i) (by omega) hrq
  have hcC : Cell1 w2 ⟨gq, i.toNat * 3 + 2, none⟩ acq := Wid.cellR hvq hW (by omega) hrq (j := 2) (by decide)
  obtain ⟨phpS, hpS⟩ := Ints.at hu (i := i) (by omega) (by omega)
  replace hpS : At w2 3 u (((0 : Nat) : Int) + i) phpS (.int .i64 (st.getD i.toNat 0)) := by rw [show (((0 : Nat) : Int) + i) = i by omega]; exact hpS.ext E
  have hsti := st_at hst (k := i.toNat) (by omega)
  have hnat := net_at hok (k := i.toNat) (by omega)
  obtain ⟨phpC, hpC⟩ := Bools.at hacq (i := st.getD i.toNat 0) (by omega) (by omega)
  replace hpC := hpC.ext E
  refine Cq.drawS 16 (fun w' => Blk w' b1 70 [Value.slice none 0 0, av, sv, Value.int .i64 lt, Value.int .i64 kd, Value.int .i64 gl] ∧ Cell1 w' ⟨gq, i.toNat * 3 + 2, none⟩ acq ∧ At w' 3 u (((0 : Nat) : Int) + i) phpS (.int .i64 (st.getD i.toNat 0)) ∧ At w' 4 acq (st.getD i.toNat 0) phpC (.bool ((aa.getD i.toNat zeroA).acc.getD (st.getD i.toNat 0).toNat false))) mixed (⟨hB4, hcC, hpS, hpC⟩) (fun w8 e9 hS => ?_)
  clear hS
  have hs10 := Below.size e9
  replace E := E.trans e9
  replace hB4 := hB4.ext e9
  replace hcC := hcC.ext e9
  replace hpS := hpS.ext e9
  replace hpC := hpC.ext e9
  refine Gq.st 0 rfl (by kernel_rfl) rfl .plain rfl (fun _ _ _ h => h) ⟨hB4, hcC, hpS, hpC⟩ (fun w' x => Still.fieldAddr fld70_1 rfl) ?_
  refine Gq.st 1 rfl (by kernel_rfl) rfl .plain rfl (fun _ _ _ h => h) ⟨hB4, hcC, hpS, hpC⟩ (fun w' x => Still.loadB one67 rfl x.1 rfl) ?_
  refine Gq.st 2 rfl (by kernel_rfl) rfl .plain rfl (fun _ _ _ h => h) ⟨hB4, hcC, hpS, hpC⟩ (fun w' x => Still.move rfl) ?_
  refine Gq.st 3 rfl (by kernel_rfl) rfl .plain rfl (fun _ _ _ h => h) ⟨hB4, hcC, hpS, hpC⟩ (fun w' x => Still.ixV slw67 hvq rfl rfl (by omega)) ?_
  refine Gq.st 4 rfl (by kernel_rfl) rfl .plain rfl (fun _ _ _ h => h) ⟨hB4, hcC, hpS, hpC⟩ (fun w' x => Still.fieldAddr fld27_2 rfl) ?_
  refine Gq.st 5 rfl (by kernel_rfl) rfl .plain rfl (fun _ _ _ h => h) ⟨hB4, hcC, hpS, hpC⟩ (fun w' x => Still.load one23 rfl (x.2.1)) ?_
  refine Gq.st 6 rfl (by kernel_rfl) rfl .plain rfl (fun _ _ _ h => h) ⟨hB4, hcC, hpS, hpC⟩ (fun w' x => Still.move rfl) ?_
  refine Gq.st 7 rfl (by kernel_rfl) rfl .plain rfl (fun _ _ _ h => h) ⟨hB4, hcC, hpS, hpC⟩ (fun w' x => Still.fieldAddr fld70_0 rfl) ?_
  refine Gq.st 8 rfl (by kernel_rfl) rfl .plain rfl (fun _ _ _ h => h) ⟨hB4, hcC, hpS, hpC⟩ (fun w' x => Still.loadB one68 rfl x.1 rfl) ?_
  refine Gq.st 9 rfl (by kernel_rfl) rfl .plain rfl (fun _ _ _ h => h) ⟨hB4, hcC, hpS, hpC⟩ (fun w' x => Still.len und68 rfl) ?_
  refine Gq.st 10 rfl (by kernel_rfl) rfl .plain rfl (fun _ _ _ h => h) ⟨hB4, hcC, hpS, hpC⟩ (fun w' x => Still.move rfl) ?_
  refine Gq.st 11 rfl (by kernel_rfl) rfl .plain rfl (fun _ _ _ h => h) ⟨hB4, hcC, hpS, hpC⟩ (fun w' x => Still.add rfl rfl (by omega)) ?_
  refine Gq.st 12 rfl (by kernel_rfl) rfl .plain rfl (fun _ _ _ h => h) ⟨hB4, hcC, hpS, hpC⟩ (fun w' x => Still.at' sl52 hpS rfl rfl) ?_
  refine Gq.st 13 rfl (by kernel_rfl) rfl .plain rfl (fun _ _ _ h => h) ⟨hB4, hcC, hpS, hpC⟩ (fun w' x => Still.loadA one3 rfl (x.2.2.1).1) ?_
  refine Gq.st 14 rfl (by kernel_rfl) rfl .plain rfl (fun _ _ _ h => h) ⟨hB4, hcC, hpS, hpC⟩ (fun w' x => Still.at' sl23 hpC rfl rfl) ?_
  refine Gq.st 15 rfl (by kernel_rfl) rfl .plain rfl (fun _ _ _ h => h) ⟨hB4, hcC, hpS, hpC⟩ (fun w' x => Still.loadA one4 rfl (x.2.2.2).1) ?_
  refine Gq.one 16 rfl (by kernel_rfl) ?_
  refine Sq.assign .plain rfl rfl ?_
  refine Sq.nil ?_
  refine Eq.goes (fun h => absurd h (by decide)) ?_
  refine Gq.done (by kernel_rfl) ?_
  refine Eq.next ?_
  refine Cq.ret ?_
  refine Eq.ret1 rfl rfl ?_
  exact ⟨rfl, E⟩
set_option maxRecDepth 100000 in
theorem l4Found_c (w0 : World) (aa : List A) (av sv : Value) (ss : List Int) (lt kd gl : Int) (hN : NetA w0 27 52 3 4 av aa) (hS : Ints w0 3 sv ss) (u : Value) (st : List Int) (hu : Ints w0 3 u st) (hok : NetOk aa) (hst : StOk (szs aa) st) (hsl : st.length = aa.length) (mv : Value) (hk : KindOk kd aa) : Ret Try.prog 89 #[Value.agg #[Value.slice none 0 0, av, sv, Value.int .i64 lt, Value.int .i64 kd, Value.int .i64 gl], u, mv] w0 (fun v w => v = .bool (foundN kd gl aa st) ∧ Ext w0 w) := by
  have E := Ext.refl w0
  have hlen := hok.1
  have hk' : kd = 0 ∨ kd = 5 ∨ ((kd = 1 ∨ kd = 2) ∧ aa.length = 2) := hk
  refine Ret.of (args := [Value.agg #[Value.slice none 0 0, av, sv, Value.int .i64 lt, Value.int .i64 kd, Value.int .i64 gl], u, mv]) Try.func89 rfl rfl rfl ?_
  rintro _ rfl
  show Cq _ _ _ _ [(0, Value.agg #[Value.slice none 0 0, av, sv, Value.int .i64 lt, Value.int .i64 kd, Value.int .i64 gl]), (1, u), (2, mv)] _
  refine Cq.seq ?_
  refine Cq.region ?_
  refine Sq.box .plain rfl rfl (fun b1 w2 e3 hB4 hlo5 => ?_)
  have hd6 := Nat.le_trans (Below.size E) hlo5
  have hs7 := Below.size e3
  replace E := E.trans e3
  refine Sq.assign .plain rfl rfl ?_
  refine Sq.nil ?_
  refine Eq.next ?_
  refine Cq.seq ?_
  refine Cq.seq ?_
  refine Cq.region ?_
  refine Sq.fieldAddr fld70_4 .plain rfl rfl ?_
  refine Sq.loadB one3 .plain rfl rfl hB4 rfl ?_
  refine Sq.nil ?_
  refine Eq.next ?_
  refine Cq.block ?_
  refine Cq.seq ?_
  refine Cq.region ?_
  refine Sq.eql .plain rfl rfl rfl ?_
  refine Sq.part (fun hk0 => ?_) (fun hk0 => ?_)
  · refine Sq.assign .plain rfl rfl ?_
    refine Sq.nil ?_
    refine Eq.next ?_
    refine Cq.thn rfl ?_
    refine Cq.seq ?_
    refine Cq.region ?_
    refine Sq.loadAgg agg70 .plain rfl rfl hB4 rfl ?_
    refine Sq.move .plain rfl rfl ?_
    have hd11 := hB4.lt
    refine Sq.call fn104 .plain rfl rfl (l4Ok_c _ aa av sv ss lt kd gl (hN.ext E) (hS.ext E) u st (hu.ext E) hok hst hsl 0 (by omega)) ?_
    rintro _ w9 ⟨rfl, e10⟩
    have hs12 := Below.size E
    have hs13 := Below.size e10
    replace E := E.trans e10
    refine Sq.assign .plain rfl rfl ?_
    refine Sq.nil ?_
    refine Eq.next ?_
    refine Cq.ret ?_
    refine Eq.outRet ?_
    refine Eq.pastRet ?_
    refine Eq.ret1 rfl rfl ?_
    exact ⟨by unfold foundN; rw [if_pos hk0]; first | done | rfl | (have hx' : accA (aa.getD 0 zeroA) (st.getD 0 0) = _ := hx; rw [hx']; first | done | rfl | (rw [Bool.true_and]; done) | (rw [Bool.true_and]; rfl) | (rw [Bool.false_and]; done) | (rw [Bool.false_and]; rfl)), E⟩
  refine Sq.assign .plain rfl rfl ?_
  refine Sq.nil ?_
  refine Eq.next ?_
  refine Cq.els rfl ?_
  refine Cq.seq ?_
  refine Cq.region ?_
  refine Sq.eql .plain rfl rfl rfl ?_
  refine Sq.part (fun hk1 => ?_) (fun hk1 => ?_)
  · refine Sq.assign .plain rfl rfl ?_
    refine Sq.nil ?_
    refine Eq.next ?_
    refine Cq.thn rfl ?_
    refine Cq.seq ?_
    refine Cq.drawS 7 (fun w' => Blk w' b1 70 [Value.slice none 0 0, av, sv, Value.int .i64 lt, Value.int .i64 kd, Value.int .i64 gl]) mixed (hB4) (fun w14 e15 hS => ?_)
    clear hS
    have hs16 := Below.size e15
    replace E := E.trans e15
    replace hB4 := hB4.ext e15
    refine Gq.st 0 rfl (by kernel_rfl) rfl .plain rfl (fun _ _ _ h => h) hB4 (fun w' x => Still.loadAgg agg70 rfl x rfl) ?_
    refine Gq.st 1 rfl (by kernel_rfl) rfl .plain rfl (fun _ _ _ h => h) hB4 (fun w' x => Still.move rfl) ?_
    refine Gq.st 3 rfl (by kernel_rfl) rfl .plain rfl (fun _ _ _ h => h) hB4 (fun w' x => Still.loadAgg agg70 rfl x rfl) ?_
    refine Gq.st 4 rfl (by kernel_rfl) rfl .plain rfl (fun _ _ _ h => h) hB4 (fun w' x => Still.move rfl) ?_
    refine Gq.one 2 rfl (by kernel_rfl) ?_
    have hd20 := hB4.lt
    refine Sq.call fn104 .plain rfl rfl (l4Ok_c _ aa av sv ss lt kd gl (hN.ext E) (hS.ext E) u st (hu.ext E) hok hst hsl 0 (by omega)) ?_
    rintro _ w18 ⟨rfl, e19⟩
    have hs21 := Below.size E
    have hs22 := Below.size e19
    replace E := E.trans e19
    replace hB4 := hB4.ext e19
    refine Sq.nil ?_
    refine Eq.goes (fun _ => hB4) ?_
    refine Gq.one 5 rfl (by kernel_rfl) ?_
    have hd26 := hB4.lt
    refine Sq.call fn104 .plain rfl rfl (l4Ok_c _ aa av sv ss lt kd gl (hN.ext E) (hS.ext E) u st (hu.ext E) hok hst hsl 1 (by omega)) ?_
    rintro _ w24 ⟨rfl, e25⟩
    have hs27 := Below.size E
    have hs28 := Below.size e25
    replace E := E.trans e25
    replace hB4 := hB4.ext e25
    refine Sq.nil ?_
    refine Eq.goes (fun _ => hB4) ?_
    refine Gq.st 6 rfl (by kernel_rfl) rfl .plain rfl (fun _ _ _ h => h) hB4 (fun w' x => Still.neqB und4 rfl rfl) ?_
    refine Gq.one 7 rfl (by kernel_rfl) ?_
    refine Sq.assign .plain rfl rfl ?_
    refine Sq.nil ?_
    refine Eq.goes (fun h => absurd h (by decide)) ?_
    refine Gq.done (by kernel_rfl) ?_
    refine Eq.next ?_
    refine Cq.ret ?_
    refine Eq.outRet ?_
    refine Eq.pastRet ?_
    refine Eq.ret1 rfl rfl ?_
    exact ⟨by unfold foundN; rw [if_neg hk0]; rw [if_pos hk1]; first | done | rfl | (have hx' : accA (aa.getD 0 zeroA) (st.getD 0 0) = _ := hx; rw [hx']; first | done | rfl | (rw [Bool.true_and]; done) | (rw [Bool.true_and]; rfl) | (rw [Bool.false_and]; done) | (rw [Bool.false_and]; rfl)), E⟩
  refine Sq.assign .plain rfl rfl ?_
  refine Sq.nil ?_
  refine Eq.next ?_
  refine Cq.els rfl ?_
  refine Cq.seq ?_
  refine Cq.region ?_
  refine Sq.eql .plain rfl rfl rfl ?_
  refine Sq.part (fun hk2 => ?_) (fun hk2 => ?_)
  · refine Sq.assign .plain rfl rfl ?_
    refine Sq.nil ?_
    refine Eq.next ?_
    refine Cq.thn rfl ?_
    refine Cq.seq ?_
    refine Cq.region ?_
    refine Sq.loadAgg agg70 .plain rfl rfl hB4 rfl ?_
    refine Sq.move .plain rfl rfl ?_
    have hd32 := hB4.lt
    refine Sq.call fn104 .plain rfl rfl (l4Ok_c _ aa av sv ss lt kd gl (hN.ext E) (hS.ext E) u st (hu.ext E) hok hst hsl 0 (by omega)) ?_
    rintro _ w30 ⟨rfl, e31⟩
    have hs33 := Below.size E
    have hs34 := Below.size e31
    replace E := E.trans e31
    replace hB4 := hB4.ext e31
    refine Sq.partB (fun hx => ?_) (fun hx => ?_)
    · refine Sq.move .plain rfl rfl ?_
      refine Sq.loadAgg agg70 (.met rfl rfl rfl) rfl rfl hB4 rfl ?_
      refine Sq.move (.met rfl rfl rfl) rfl rfl ?_
      have hd38 := hB4.lt
      refine Sq.call fn104 (.met rfl rfl rfl) rfl rfl (l4Ok_c _ aa av sv ss lt kd gl (hN.ext E) (hS.ext E) u st (hu.ext E) hok hst hsl 1 (by omega)) ?_
      rintro _ w36 ⟨rfl, e37⟩
      have hs39 := Below.size E
      have hs40 := Below.size e37
      replace E := E.trans e37
      refine Sq.not (.met rfl rfl rfl) rfl rfl ?_
      refine Sq.pickT .plain rfl rfl rfl ?_
      refine Sq.assign .plain rfl rfl ?_
      refine Sq.nil ?_
      refine Eq.next ?_
      refine Cq.ret ?_
      refine Eq.outRet ?_
      refine Eq.pastRet ?_
      refine Eq.ret1 rfl rfl ?_
      exact ⟨by unfold foundN; rw [if_neg hk0]; rw [if_neg hk1]; rw [if_pos hk2]; first | done | rfl | (have hx' : accA (aa.getD 0 zeroA) (st.getD 0 0) = _ := hx; rw [hx']; first | done | rfl | (rw [Bool.true_and]; done) | (rw [Bool.true_and]; rfl) | (rw [Bool.false_and]; done) | (rw [Bool.false_and]; rfl)), E⟩
    refine Sq.move .plain rfl rfl ?_
    refine Sq.off rfl rfl rfl rfl rfl rfl ?_
    refine Sq.off rfl rfl rfl rfl rfl rfl ?_
    refine Sq.off rfl rfl rfl rfl rfl rfl ?_
    refine Sq.off rfl rfl rfl rfl rfl rfl ?_
    refine Sq.pickF .plain rfl rfl rfl ?_
    refine Sq.assign .plain rfl rfl ?_
    refine Sq.nil ?_
    refine Eq.next ?_
    refine Cq.ret ?_
    refine Eq.outRet ?_
    refine Eq.pastRet ?_
    refine Eq.ret1 rfl rfl ?_
    exact ⟨by unfold foundN; rw [if_neg hk0]; rw [if_neg hk1]; rw [if_pos hk2]; first | done | rfl | (have hx' : accA (aa.getD 0 zeroA) (st.getD 0 0) = _ := hx; rw [hx']; first | done | rfl | (rw [Bool.true_and]; done) | (rw [Bool.true_and]; rfl) | (rw [Bool.false_and]; done) | (rw [Bool.false_and]; rfl)), E⟩
  refine Sq.assign .plain rfl rfl ?_
  refine Sq.nil ?_
  refine Eq.next ?_
  refine Cq.els rfl ?_
  refine Cq.seq ?_
  refine Cq.region ?_
  refine Sq.eql .plain rfl rfl rfl ?_
  refine Sq.isF (by omega) ?_
  refine Sq.assign .plain rfl rfl ?_
  refine Sq.nil ?_
  refine Eq.next ?_
  refine Cq.els rfl ?_
  refine Cq.seq ?_
  refine Cq.region ?_
  refine Sq.eql .plain rfl rfl rfl ?_
  refine Sq.isT (by omega) ?_
  refine Sq.assign .plain rfl rfl ?_
  refine Sq.nil ?_
  refine Eq.next ?_
  refine Cq.thn rfl ?_
  refine Cq.seq ?_
  obtain ⟨phpS, hpS⟩ := Ints.at hu (i := ((0 : Nat) : Int)) (by omega) (by omega)
  replace hpS := hpS.ext E
  refine Cq.drawS 9 (fun w' => Blk w' b1 70 [Value.slice none 0 0, av, sv, Value.int .i64 lt, Value.int .i64 kd, Value.int .i64 gl] ∧ At w' 3 u ((0 : Nat) : Int) phpS (.int .i64 (st.getD 0 0))) mixed (⟨hB4, hpS⟩) (fun w41 e42 hS => ?_)
  clear hS
  have hs43 := Below.size e42
  replace E := E.trans e42
  replace hB4 := hB4.ext e42
  replace hpS := hpS.ext e42
  refine Gq.st 0 rfl (by kernel_rfl) rfl .plain rfl (fun _ _ _ h => h) ⟨hB4, hpS⟩ (fun w' x => Still.move rfl) ?_
  refine Gq.st 1 rfl (by kernel_rfl) rfl .plain rfl (fun _ _ _ h => h) ⟨hB4, hpS⟩ (fun w' x => Still.fieldAddr fld70_0 rfl) ?_
  refine Gq.st 2 rfl (by kernel_rfl) rfl .plain rfl (fun _ _ _ h => h) ⟨hB4, hpS⟩ (fun w' x => Still.loadB one68 rfl x.1 rfl) ?_
  refine Gq.st 3 rfl (by kernel_rfl) rfl .plain rfl (fun _ _ _ h => h) ⟨hB4, hpS⟩ (fun w' x => Still.len und68 rfl) ?_
  refine Gq.st 4 rfl (by kernel_rfl) rfl .plain rfl (fun _ _ _ h => h) ⟨hB4, hpS⟩ (fun w' x => Still.at' sl52 hpS rfl rfl) ?_
  refine Gq.st 5 rfl (by kernel_rfl) rfl .plain rfl (fun _ _ _ h => h) ⟨hB4, hpS⟩ (fun w' x => Still.loadA one3 rfl (x.2).1) ?_
  refine Gq.st 6 rfl (by kernel_rfl) rfl .plain rfl (fun _ _ _ h => h) ⟨hB4, hpS⟩ (fun w' x => Still.fieldAddr fld70_5 rfl) ?_
  refine Gq.st 7 rfl (by kernel_rfl) rfl .plain rfl (fun _ _ _ h => h) ⟨hB4, hpS⟩ (fun w' x => Still.loadB one3 rfl x.1 rfl) ?_
  refine Gq.st 8 rfl (by kernel_rfl) rfl .plain rfl (fun _ _ _ h => h) ⟨hB4, hpS⟩ (fun w' x => Still.eql rfl rfl) ?_
  refine Gq.one 9 rfl (by kernel_rfl) ?_
  refine Sq.assign .plain rfl rfl ?_
  refine Sq.nil ?_
  refine Eq.goes (fun h => absurd h (by decide)) ?_
  refine Gq.done (by kernel_rfl) ?_
  refine Eq.next ?_
  refine Cq.ret ?_
  refine Eq.outRet ?_
  refine Eq.pastRet ?_
  refine Eq.ret1 rfl rfl ?_
  exact ⟨by unfold foundN; rw [if_neg hk0]; rw [if_neg hk1]; rw [if_neg hk2]; first | done | rfl | (have hx' : accA (aa.getD 0 zeroA) (st.getD 0 0) = _ := hx; rw [hx']; first | done | rfl | (rw [Bool.true_and]; done) | (rw [Bool.true_and]; rfl) | (rw [Bool.false_and]; done) | (rw [Bool.false_and]; rfl)), E⟩
set_option maxRecDepth 100000 in
theorem l4Near_c (w0 : World) (rv dv : Value) (xss : List (List Int)) (ds : List Int) (d : Int) (hr : Rows w0 52 3 rv xss) (hd : Ints w0 3 dv ds) (hb : ∀ r ∈ xss, r.length ≤ 1000 ∧ ∀ x ∈ r, 0 ≤ x ∧ x < (ds.length : Int)) (hl : xss.length ≤ 1000) : Ret Try.prog 105 #[rv, dv, Value.int .i64 d] w0 (fun v w => v = .bool (nearX ds xss d) ∧ Ext w0 w) := by
  have E := Ext.refl w0
  refine Ret.of (args := [rv, dv, Value.int .i64 d]) Try.func105 rfl rfl rfl ?_
  rintro _ rfl
  show Cq _ _ _ _ [(0, rv), (1, dv), (2, Value.int .i64 d)] _
  refine Cq.seq ?_
  refine Cq.region ?_
  refine Sq.assign .plain rfl rfl ?_
  refine Sq.nil ?_
  refine Eq.next ?_
  refine Cq.seq ?_
  refine Cq.seq ?_
  refine Cq.region ?_
  refine Sq.assign .plain rfl rfl ?_
  refine Sq.nil ?_
  refine Eq.next ?_
  refine Cq.block ?_
  refine Cq.loop (fun nn w ls => ∃ (k : Int), ls = [(0, rv), (1, dv), (2, Value.int .i64 d), (7, Value.int .i64 k)] ∧ (0 ≤ k ∧ k ≤ xss.length) ∧ nearX ds (xss.take k.toNat) d = false ∧ Ext w0 w ∧ nn = ((xss.length : Int) - k).toNat) _ _ ⟨0, rfl, by omega, rfl, E, rfl⟩ (.cons rfl (.cons rfl (.cons rfl (.cons rfl (.nil))))) ?_
  rintro nn wl1 ls ⟨k, rfl, hk, hp, E, rfl⟩
  have hs1 := Below.size E
  refine Cq.seq ?_
  refine Cq.seq ?_
  refine Cq.region ?_
  refine Sq.move .plain rfl rfl ?_
  refine Sq.move .plain rfl rfl ?_
  refine Sq.lenRows (hr.ext E) .plain rfl und22 rfl ?_
  refine Sq.lss .plain rfl rfl rfl ?_
  refine Sq.part (fun c2 => ?_) (fun c2 => ?_)
  · refine Sq.nil ?_
    refine Eq.next ?_
    refine Cq.thn rfl ?_
    refine Cq.skip ?_
    refine Eq.next ?_
    refine Cq.seq ?_
    refine Cq.block ?_
    refine Cq.seq ?_
    refine Cq.region ?_
    refine Sq.assign .plain rfl rfl ?_
    refine Sq.nil ?_
    refine Eq.next ?_
    refine Cq.block ?_
    have hbr := hb (xss.getD k.toNat []) (getD_mem (by omega))
    have hbr1 := hbr.1
    refine Cq.loop (fun nn w ls => ∃ (i : Int), ls = [(0, rv), (1, dv), (2, Value.int .i64 d), (7, Value.int .i64 k), (8, Value.int .i64 i)] ∧ (0 ≤ i ∧ i ≤ (xss.getD k.toNat []).length) ∧ (((xss.getD k.toNat []).take i.toNat).any fun x => decide (ds.getD x.toNat 0 = d)) = false ∧ Ext w0 w ∧ nn = (((xss.getD k.toNat []).length : Int) - i).toNat) _ _ ⟨0, rfl, by omega, rfl, E, rfl⟩ (.cons rfl (.cons rfl (.cons rfl (.cons rfl (.cons rfl (.nil)))))) ?_
    rintro nn wl2 ls ⟨i, rfl, hi, hq, E, rfl⟩
    have hs3 := Below.size E
    have hbx : i < ((xss.getD k.toNat []).length : Int) → 0 ≤ (xss.getD k.toNat []).getD i.toNat 0 ∧ (xss.getD k.toNat []).getD i.toNat 0 < (ds.length : Int) := fun h => hbr.2 _ (getD_mem (by omega))
    refine Cq.seq ?_
    refine Cq.seq ?_
    refine Cq.region ?_
    refine Sq.move .plain rfl rfl ?_
    refine Sq.move .plain rfl rfl ?_
    refine Sq.move .plain rfl rfl ?_
    refine Sq.idxRows sl22 one52 (hr.ext E) .plain rfl rfl rfl .plain rfl rfl (by omega) (by omega) (fun r4 hr5 => ?_)
    refine Sq.lenInts hr5 .plain rfl und52 rfl ?_
    refine Sq.lss .plain rfl rfl rfl ?_
    refine Sq.part (fun c6 => ?_) (fun c6 => ?_)
    · refine Sq.nil ?_
      refine Eq.next ?_
      refine Cq.thn rfl ?_
      refine Cq.skip ?_
      refine Eq.next ?_
      refine Cq.seq ?_
      refine Cq.block ?_
      refine Cq.seq ?_
      refine Cq.region ?_
      refine Sq.move .plain rfl rfl ?_
      refine Sq.move .plain rfl rfl ?_
      refine Sq.move .plain rfl rfl ?_
      refine Sq.idxRows sl22 one52 (hr.ext E) .plain rfl rfl rfl .plain rfl rfl (by omega) (by omega) (fun r7 hr8 => ?_)
      refine Sq.move .plain rfl rfl ?_
      refine Sq.idxInts sl52 one3 hr8 .plain rfl rfl rfl .plain rfl rfl (by omega) (by omega) ?_
      refine Sq.idxInts sl52 one3 (hd.ext E) .plain rfl rfl rfl .plain rfl rfl (by have := hbx (by omega); omega) (by have := hbx (by omega); omega) ?_
      refine Sq.move .plain rfl rfl ?_
      refine Sq.eql .plain rfl rfl rfl ?_
      refine Sq.part (fun hne => ?_) (fun hne => ?_)
      · refine Sq.nil ?_
        refine Eq.next ?_
        refine Cq.thn rfl ?_
        refine Cq.seq ?_
        refine Cq.region ?_
        refine Sq.assign .plain rfl rfl ?_
        refine Sq.nil ?_
        refine Eq.next ?_
        refine Cq.ret ?_
        refine Eq.outRet ?_
        refine Eq.pastRet ?_
        refine Eq.pastRet ?_
        refine Eq.outRet ?_
        refine Eq.outRet ?_
        refine Eq.pastRet ?_
        refine Eq.pastRet ?_
        refine Eq.outRet ?_
        refine Eq.pastRet ?_
        refine Eq.ret1 rfl rfl ?_
        exact ⟨by rw [near_yes (k := k.toNat) (i := i.toNat) (by omega) (by omega) hne], E⟩
      refine Sq.nil ?_
      refine Eq.next ?_
      refine Cq.els rfl ?_
      refine Cq.skip ?_
      refine Eq.end ?_
      refine Eq.next ?_
      refine Cq.region ?_
      refine Sq.move .plain rfl rfl ?_
      refine Sq.add .plain rfl rfl rfl (by omega) ?_
      refine Sq.assign .plain rfl rfl ?_
      refine Sq.nil ?_
      have e2 := toNat_succ hi.1
      refine Eq.round _ _ ⟨i + 1, rfl, by omega, by rw [e2, take_snoc 0 (by omega), List.any_append, hq, Bool.false_or, List.any_cons, List.any_nil, Bool.or_false]; exact decide_eq_false hne, E, rfl⟩ (by omega) (.cons rfl (.cons rfl (.cons rfl (.cons rfl (.cons rfl (.nil))))))
    refine Sq.nil ?_
    refine Eq.next ?_
    refine Cq.els rfl ?_
    refine Cq.exit ?_
    refine Eq.past ?_
    refine Eq.past ?_
    refine Eq.hit ?_
    refine Eq.end ?_
    refine Eq.next ?_
    refine Cq.region ?_
    refine Sq.move .plain rfl rfl ?_
    refine Sq.add .plain rfl rfl rfl (by omega) ?_
    refine Sq.assign .plain rfl rfl ?_
    refine Sq.nil ?_
    have e1 := toNat_succ hk.1
    refine Eq.round _ _ ⟨k + 1, rfl, by omega, by rw [List.take_of_length_le (by omega)] at hq; rw [e1, take_snoc [] (by omega)]; unfold nearX at hp ⊢; rw [List.any_append, hp, Bool.false_or, List.any_cons, List.any_nil, Bool.or_false]; exact hq, E, rfl⟩ (by omega) (.cons rfl (.cons rfl (.cons rfl (.cons rfl (.nil)))))
  refine Sq.nil ?_
  refine Eq.next ?_
  refine Cq.els rfl ?_
  refine Cq.exit ?_
  refine Eq.past ?_
  refine Eq.past ?_
  refine Eq.hit ?_
  refine Eq.next ?_
  refine Cq.seq ?_
  refine Cq.region ?_
  refine Sq.assign .plain rfl rfl ?_
  refine Sq.nil ?_
  refine Eq.next ?_
  refine Cq.ret ?_
  refine Eq.ret1 rfl rfl ?_
  exact ⟨by rw [List.take_of_length_le (by omega)] at hp; rw [hp], E⟩
end Go.Proofs.Ytdkdpmmfebdeaaa
set_option linter.unusedSimpArgs false
set_option linter.unusedVariables false
namespace Go.Proofs.Ytdkdpmmfebdeaaa
open Go.RowKit
set_option maxRecDepth 100000 in
theorem l4Dist_c (w0 wm : World) (B : Nat) (mv dv : Value) (f : Int → Int → Int) (L : List Int) (G : Int → Bool) (n : Nat) (Em : Ext wm w0) (hm : Read3 wm 22 52 3 mv ((List.range n).map fun (q : Nat) => L.map fun x => [f (q : Int) x])) (hB : wm.heap.size ≤ B) (ho : Own w0 B 3 dv ((dsOf f L G n 0).map (Value.int .i64))) (hf : ∀ q l, l ∈ L → 0 ≤ f q l ∧ f q l < n) (hn : n ≤ 1000) (hLl : L.length ≤ 100) : Ret Try.prog 91 #[mv, dv] w0 (fun v w => v = .tuple #[] ∧ (∃ d, d ≤ n ∧ Own w B 3 dv ((dsOf f L G n d).map (Value.int .i64)) ∧ ∀ q, 0 ≤ q ∧ q < (n : Int) → disTo f L G (d + 1) q = disTo f L G d q) ∧ w0.grownBy w dv.ownBlock) := by
  have E := Em
  have hgo := World.grownBy.refl w0 dv.ownBlock
  refine Ret.of (args := [mv, dv]) Try.func91 rfl rfl rfl ?_
  rintro _ rfl
  show Cq _ _ _ _ [(0, mv), (1, dv)] _
  refine Cq.seq ?_
  refine Cq.region ?_
  refine Sq.assign .plain rfl rfl ?_
  refine Sq.nil ?_
  refine Eq.next ?_
  refine Cq.seq ?_
  refine Cq.region ?_
  refine Sq.assign .plain rfl rfl ?_
  refine Sq.nil ?_
  refine Eq.next ?_
  refine Cq.block ?_
  refine Cq.loop (fun nn w ls => ∃ (d : Nat), ∃ (more : Bool), ∃ (dI : Int), ls = [(0, mv), (1, dv), (4, Value.bool more), (5, Value.int .i64 dI)] ∧ Own w B 3 dv ((dsOf f L G n d).map (Value.int .i64)) ∧ dI = (d : Int) + 1 ∧ (more = true → d + todo f L G n d 0 ≤ n) ∧ (more = false → ∃ d', d' ≤ n ∧ dsOf f L G n d = dsOf f L G n d' ∧ ∀ q, 0 ≤ q ∧ q < (n : Int) → disTo f L G (d' + 1) q = disTo f L G d' q) ∧ Ext wm w ∧ World.grownBy w0 w dv.ownBlock ∧ nn = 2 * todo f L G n d 0 + (if more = true then 1 else 0)) _ _ ⟨0, true, 1, rfl, ho, rfl, fun _ => by have := todo_le (f := f) (L := L) (G := G) (n := n) 0 0; omega, fun h => absurd h (by decide), E, hgo, rfl⟩ (.cons rfl (.cons rfl (.cons rfl (.cons rfl (.nil))))) ?_
  rintro nn wl1 ls ⟨d, more, dI, rfl, ho, hdI, hdn, hst, E, hgo, rfl⟩
  have hs1 := Below.size E
  have hdl := dsOf_length (f := f) (L := L) (G := G) (n := n) d
  refine Cq.seq ?_
  refine Cq.seq ?_
  refine Cq.region ?_
  refine Sq.move .plain rfl rfl ?_
  refine Sq.partB (fun hmore => ?_) (fun hmore => ?_)
  · refine Sq.nil ?_
    refine Eq.next ?_
    refine Cq.thn rfl ?_
    refine Cq.skip ?_
    refine Eq.next ?_
    refine Cq.seq ?_
    refine Cq.block ?_
    refine Cq.seq ?_
    refine Cq.region ?_
    refine Sq.assign .plain rfl rfl ?_
    refine Sq.nil ?_
    refine Eq.next ?_
    refine Cq.seq ?_
    refine Cq.region ?_
    refine Sq.assign .plain rfl rfl ?_
    refine Sq.nil ?_
    refine Eq.next ?_
    refine Cq.block ?_
    refine Cq.loop (fun nn w ls => ∃ (i : Int), ∃ (m2 : Bool), ls = [(0, mv), (1, dv), (4, Value.bool m2), (5, Value.int .i64 dI), (6, Value.int .i64 i)] ∧ (0 ≤ i ∧ i ≤ (n : Int)) ∧ Own w B 3 dv ((dsAt f L G n d i.toNat).map (Value.int .i64)) ∧ (m2 = true → todo f L G n d i.toNat + 1 ≤ todo f L G n d 0) ∧ (m2 = false → ∀ j : Nat, j < i.toNat → disTo f L G (d + 1) (j : Int) = disTo f L G d (j : Int)) ∧ todo f L G n d i.toNat ≤ todo f L G n d 0 ∧ Ext wm w ∧ World.grownBy w0 w dv.ownBlock ∧ nn = ((n : Int) - i).toNat) _ _ ⟨0, false, rfl, by omega, by rw [show (0 : Int).toNat = 0 from rfl, dsAt_zero]; exact ho, fun h => absurd h (by decide), fun _ j hj => absurd hj (Nat.not_lt_zero _), Nat.le_refl _, E, hgo, rfl⟩ (.cons rfl (.cons rfl (.cons rfl (.cons rfl (.cons rfl (.nil)))))) ?_
    rintro nn wl2 ls ⟨i, m2, rfl, hi, ho, hmt, hmf, hml, E, hgo, rfl⟩
    have hs2 := Below.size E
    have hdl := dsAt_length (f := f) (L := L) (G := G) (n := n) d i.toNat
    have hdm := hdn hmore
    refine Cq.seq ?_
    refine Cq.seq ?_
    refine Cq.region ?_
    refine Sq.move .plain rfl rfl ?_
    refine Sq.move .plain rfl rfl ?_
    refine Sq.lenInts (Own.row ho) .plain rfl und52 rfl ?_
    refine Sq.lss .plain rfl rfl rfl ?_
    refine Sq.part (fun c3 => ?_) (fun c3 => ?_)
    · refine Sq.nil ?_
      refine Eq.next ?_
      refine Cq.thn rfl ?_
      refine Cq.skip ?_
      refine Eq.next ?_
      refine Cq.seq ?_
      refine Cq.block ?_
      refine Cq.seq ?_
      refine Cq.region ?_
      refine Sq.move .plain rfl rfl ?_
      refine Sq.move .plain rfl rfl ?_
      refine Sq.idxInts sl52 one3 (Own.row ho) .plain rfl rfl rfl .plain rfl rfl (by omega) (by omega) ?_
      refine Sq.lss .plain rfl rfl rfl ?_
      refine Sq.part (fun hlt => ?_) (fun hlt => ?_)
      · refine Sq.move .plain rfl rfl ?_
        refine Sq.move (.met rfl rfl rfl) rfl rfl ?_
        refine Sq.move (.met rfl rfl rfl) rfl rfl ?_
        obtain ⟨pq4, rq4, hpq4, hrq4⟩ := Read3.at (hm.ext E) (i := i) (by first | omega | (simp; omega)) (by first | omega | (simp; omega))
        refine Sq.val (.met rfl rfl rfl) rfl rfl (Still.at' sl85 hpq4 rfl rfl) ?_
        refine Sq.val (.met rfl rfl rfl) rfl rfl (Still.loadA one22 rfl hpq4.1) ?_
        refine Sq.move (.met rfl rfl rfl) rfl rfl ?_
        refine Sq.move (.met rfl rfl rfl) rfl rfl ?_
        refine Sq.sub (.met rfl rfl rfl) rfl rfl rfl (by omega) ?_
        refine Sq.call fn105 (.met rfl rfl rfl) rfl rfl (l4Near_c _ _ _ ((((List.range n).map fun (q : Nat) => L.map fun x => [f (q : Int) x]).getD i.toNat [])) (dsAt f L G n d i.toNat) (dI - 1) hrq4 (Own.row ho) (mv_ok hf hLl (by omega)) (by rw [moves_f (q := i) (by omega), List.length_map]; omega)) ?_
        rintro _ w6 ⟨rfl, e7⟩
        have hs8 := Below.size E
        have hs9 := Below.size e7
        replace E := E.trans e7
        replace hgo := grown_trans hgo (Ext.to_grown e7 _)
        replace ho := ho.ext e7
        refine Sq.partB (fun hnr => ?_) (fun hnr => ?_)
        · refine Sq.pickT .plain rfl rfl rfl ?_
          refine Sq.nil ?_
          refine Eq.next ?_
          refine Cq.thn rfl ?_
          refine Cq.seq ?_
          refine Cq.region ?_
          refine Sq.move .plain rfl rfl ?_
          refine Sq.move .plain rfl rfl ?_
          refine Sq.move .plain rfl rfl ?_
          obtain ⟨p10, hp11o⟩ := Own.at ho (i := i) (by omega) (by first | (simp only [List.length_map]; omega) | (simp; omega))
          refine Sq.atO sl52 hp11o .plain rfl rfl rfl ?_
          refine Sq.storeO one3 ho hp11o .plain rfl rfl rfl (fun w12 g13 ho14 => ?_)
          have hs15 := World.grownBy.size g13
          replace E := E.owned ho g13 (by omega)
          replace hgo := grown_trans hgo g13
          replace ho := ho14
          refine Sq.nil ?_
          refine Eq.next ?_
          refine Cq.region ?_
          refine Sq.assign .plain rfl rfl ?_
          refine Sq.nil ?_
          refine Eq.end ?_
          refine Eq.next ?_
          refine Cq.region ?_
          refine Sq.move .plain rfl rfl ?_
          refine Sq.add .plain rfl rfl rfl (by omega) ?_
          refine Sq.assign .plain rfl rfl ?_
          refine Sq.nil ?_
          have hlt' : disTo f L G d i < 0 := by rw [dsAt_get (q := i) (by omega), if_neg (by omega)] at hlt; exact hlt
          have ei : ((i.toNat : Nat) : Int) = i := Int.toNat_of_nonneg hi.1
          rw [show dI - 1 = (d : Int) by omega, moves_f (q := i) (by omega), nearX_eq (n := n) hf i] at hnr
          have hk1 := disTo_new hlt' hnr
          have hk2 : disTo f L G (d + 1) ((i.toNat : Nat) : Int) = dI := by rw [ei, hk1]; omega
          have htl := todo_less (f := f) (L := L) (G := G) (d := d) (i := i.toNat) (n := n) (by omega) (by rw [ei]; exact hlt') (by rw [ei, hk1]; omega)
          refine Eq.round _ _ ⟨i + 1, true, rfl, by omega, by rw [toNat_succ hi.1, ← dsAt_set (by omega), List.map_set, hk2]; exact ho, fun _ => by rw [toNat_succ hi.1]; omega, fun h => absurd h (by decide), by rw [toNat_succ hi.1]; omega, E, hgo, rfl⟩ (by omega) (.cons rfl (.cons rfl (.cons rfl (.cons rfl (.cons rfl (.nil))))))
        refine Sq.pickT .plain rfl rfl rfl ?_
        refine Sq.nil ?_
        refine Eq.next ?_
        refine Cq.els rfl ?_
        refine Cq.skip ?_
        refine Eq.end ?_
        refine Eq.next ?_
        refine Cq.region ?_
        refine Sq.move .plain rfl rfl ?_
        refine Sq.add .plain rfl rfl rfl (by omega) ?_
        refine Sq.assign .plain rfl rfl ?_
        refine Sq.nil ?_
        have hlt' : disTo f L G d i < 0 := by rw [dsAt_get (q := i) (by omega), if_neg (by omega)] at hlt; exact hlt
        have ei : ((i.toNat : Nat) : Int) = i := Int.toNat_of_nonneg hi.1
        rw [show dI - 1 = (d : Int) by omega, moves_f (q := i) (by omega), nearX_eq (n := n) hf i] at hnr
        have hk1 := disTo_far hlt' hnr
        have hk2 : disTo f L G (d + 1) ((i.toNat : Nat) : Int) = disTo f L G d ((i.toNat : Nat) : Int) := by rw [ei, hk1]; rcases disTo_cases (f := f) (L := L) (G := G) d i with h | ⟨z, h, _⟩; exact h.symm; omega
        refine Eq.round _ _ ⟨i + 1, m2, rfl, by omega, by rw [toNat_succ hi.1, dsAt_keep hk2]; exact ho, fun h => by rw [toNat_succ hi.1, todo_keep hk2]; exact hmt h, fun h => dis_more ei (hmf h) hk2 (toNat_succ hi.1), by rw [toNat_succ hi.1, todo_keep hk2]; exact hml, E, hgo, rfl⟩ (by omega) (.cons rfl (.cons rfl (.cons rfl (.cons rfl (.cons rfl (.nil))))))
      refine Sq.move .plain rfl rfl ?_
      refine Sq.off rfl rfl rfl rfl rfl rfl ?_
      refine Sq.off rfl rfl rfl rfl rfl rfl ?_
      refine Sq.off rfl rfl rfl rfl rfl rfl ?_
      refine Sq.off rfl rfl rfl rfl rfl rfl ?_
      refine Sq.off rfl rfl rfl rfl rfl rfl ?_
      refine Sq.off rfl rfl rfl rfl rfl rfl ?_
      refine Sq.off rfl rfl rfl rfl rfl rfl ?_
      refine Sq.off rfl rfl rfl rfl rfl rfl ?_
      refine Sq.pickF .plain rfl rfl rfl ?_
      refine Sq.nil ?_
      refine Eq.next ?_
      refine Cq.els rfl ?_
      refine Cq.skip ?_
      refine Eq.end ?_
      refine Eq.next ?_
      refine Cq.region ?_
      refine Sq.move .plain rfl rfl ?_
      refine Sq.add .plain rfl rfl rfl (by omega) ?_
      refine Sq.assign .plain rfl rfl ?_
      refine Sq.nil ?_
      have hk1 : disTo f L G (d + 1) i = disTo f L G d i := disTo_old (by rw [dsAt_get (q := i) (by omega), if_neg (by omega)] at hlt; omega)
      have ei : ((i.toNat : Nat) : Int) = i := Int.toNat_of_nonneg hi.1
      have hk2 : disTo f L G (d + 1) ((i.toNat : Nat) : Int) = disTo f L G d ((i.toNat : Nat) : Int) := by rw [ei]; exact hk1
      refine Eq.round _ _ ⟨i + 1, m2, rfl, by omega, by rw [toNat_succ hi.1, dsAt_keep hk2]; exact ho, fun h => by rw [toNat_succ hi.1, todo_keep hk2]; exact hmt h, fun h => dis_more ei (hmf h) hk2 (toNat_succ hi.1), by rw [toNat_succ hi.1, todo_keep hk2]; exact hml, E, hgo, rfl⟩ (by omega) (.cons rfl (.cons rfl (.cons rfl (.cons rfl (.cons rfl (.nil))))))
    refine Sq.nil ?_
    refine Eq.next ?_
    refine Cq.els rfl ?_
    refine Cq.exit ?_
    refine Eq.past ?_
    refine Eq.past ?_
    refine Eq.hit ?_
    refine Eq.end ?_
    refine Eq.next ?_
    refine Cq.region ?_
    refine Sq.move .plain rfl rfl ?_
    refine Sq.add .plain rfl rfl rfl (by omega) ?_
    refine Sq.assign .plain rfl rfl ?_
    refine Sq.nil ?_
    have en : i.toNat = n := by omega
    rw [en] at ho hmt hmf hml
    rw [dsAt_all (Nat.le_refl _)] at ho
    have etd := todo_round (f := f) (L := L) (G := G) (n := n) d n (Nat.le_refl _)
    rw [etd] at hmt hml
    have hst2 : m2 = false → dsOf f L G n (d + 1) = dsOf f L G n d := fun h => dsOf_same (hmf h)
    refine Eq.round _ _ ⟨d + 1, m2, _, rfl, ho, by omega, fun h => by have := hmt h; have := hdn hmore; omega, fun h => ⟨d, by have := hdn hmore; omega, hst2 h, dis_all (hmf h)⟩, E, hgo, rfl⟩ (by rw [if_pos hmore]; cases m2 with | true => (have := hmt rfl; simp; omega) | false => (simp; omega)) (.cons rfl (.cons rfl (.cons rfl (.cons rfl (.nil)))))
  refine Sq.nil ?_
  refine Eq.next ?_
  refine Cq.els rfl ?_
  refine Cq.exit ?_
  refine Eq.past ?_
  refine Eq.past ?_
  refine Eq.hit ?_
  refine Eq.fall0 rfl ?_
  obtain ⟨d', e0, e1, e2⟩ := hst (by assumption)
  rw [e1] at ho
  exact ⟨rfl, ⟨d', e0, ho, e2⟩, hgo⟩
end Go.Proofs.Ytdkdpmmfebdeaaa
set_option linter.unusedSimpArgs false
set_option linter.unusedVariables false
namespace Go.Proofs.Ytdkdpmmfebdeaaa
open Go.RowKit
set_option maxRecDepth 100000 in
theorem l4Closer_c (w0 : World) (mv dv av : Value) (xsss : List (List (List Int))) (ds : List Int) (q k d t : Int) (hm : Read3 w0 22 52 3 mv xsss) (hd : Ints w0 3 dv ds) (ha : Ints w0 3 av [q]) (hq : 0 ≤ q ∧ q < xsss.length) (hk : 0 ≤ k ∧ k < (xsss.getD q.toNat []).length) (ht : (xsss.getD q.toNat []).getD k.toNat [] = [t]) (htb : 0 ≤ t ∧ t < (ds.length : Int)) : Ret Try.prog 93 #[mv, dv, av, Value.int .i64 k, Value.int .i64 d] w0 (fun v w => Own w w0.heap.size 3 v ((if ds.getD t.toNat 0 = d then [t] else []).map (Value.int .i64)) ∧ Ext w0 w) := by
  have E := Ext.refl w0
  obtain ⟨p1, r1, hp1, hr1⟩ := Read3.at hm (i := q) (by omega) (by omega)
  obtain ⟨p2, r2, hp2, hr2⟩ := Rows.at hr1 (i := k) (by omega) (by omega)
  rw [ht] at hr2
  have hl1 : (List.length ([q] : List Int) : Int) = 1 := rfl
  have hl2 : (List.length ([t] : List Int) : Int) = 1 := rfl
  refine Ret.of (args := [mv, dv, av, Value.int .i64 k, Value.int .i64 d]) Try.func93 rfl rfl rfl ?_
  rintro _ rfl
  show Cq _ _ _ _ [(0, mv), (1, dv), (2, av), (3, Value.int .i64 k), (4, Value.int .i64 d)] _
  refine Cq.seq ?_
  refine Cq.region ?_
  refine Sq.assign .plain rfl rfl ?_
  refine Sq.nil ?_
  refine Eq.next ?_
  refine Cq.seq ?_
  refine Cq.region ?_
  refine Sq.lit sl52 rfl rfl .plain rfl rfl one_nil (fun b1 w2 e3 hlo4 ho5 _ => ?_)
  replace ho5 := ho5 w0.heap.size (Nat.le_refl _)
  have hs7 := Below.size e3
  replace E := E.trans e3
  refine Sq.assign .plain rfl rfl ?_
  refine Sq.nil ?_
  refine Eq.next ?_
  refine Cq.seq ?_
  refine Cq.seq ?_
  refine Cq.region ?_
  refine Sq.assign .plain rfl rfl ?_
  refine Sq.nil ?_
  refine Eq.next ?_
  refine Cq.block ?_
  refine Cq.loop (fun nn w ls => ∃ (j : Int), ∃ (ov : Value), ∃ (xs : List Int), ls = [(0, mv), (1, dv), (2, av), (3, Value.int .i64 k), (4, Value.int .i64 d), (11, ov), (12, Value.int .i64 j)] ∧ (0 ≤ j ∧ j ≤ 1) ∧ Own w w0.heap.size 3 ov (xs.map (Value.int .i64)) ∧ xs = (if j = 0 then [] else (if ds.getD t.toNat 0 = d then [t] else [])) ∧ Ext w0 w ∧ nn = (1 - j).toNat) _ _ ⟨0, _, [], rfl, by omega, Own.mono ho5 (by omega), rfl, E, rfl⟩ (.cons rfl (.cons rfl (.cons rfl (.cons rfl (.cons rfl (.cons rfl (.cons rfl (.nil)))))))) ?_
  rintro nn wl1 ls ⟨j, ov, xs, rfl, hj, ho, hxs, E, rfl⟩
  have hs8 := Below.size E
  refine Cq.seq ?_
  refine Cq.seq ?_
  refine Cq.region ?_
  refine Sq.move .plain rfl rfl ?_
  refine Sq.move .plain rfl rfl ?_
  refine Sq.lenInts (ha.ext E) .plain rfl und52 rfl ?_
  refine Sq.lss .plain rfl rfl rfl ?_
  refine Sq.part (fun c9 => ?_) (fun c9 => ?_)
  · refine Sq.nil ?_
    refine Eq.next ?_
    refine Cq.thn rfl ?_
    refine Cq.skip ?_
    refine Eq.next ?_
    refine Cq.seq ?_
    refine Cq.block ?_
    refine Cq.seq ?_
    refine Cq.region ?_
    refine Sq.move .plain rfl rfl ?_
    refine Sq.move .plain rfl rfl ?_
    refine Sq.move .plain rfl rfl ?_
    have hj0 : j = 0 := by omega
    have hqj : ([q] : List Int).getD j.toNat 0 = q := by rw [hj0]; rfl
    refine Sq.idxInts sl52 one3 (ha.ext E) .plain rfl rfl rfl .plain rfl rfl (by omega) (by simp only [List.length_singleton]; omega) ?_
    rw [hqj]
    refine Sq.val .plain rfl rfl (Still.at' sl85 (hp1.ext E) rfl rfl) ?_
    refine Sq.val .plain rfl rfl (Still.loadA one22 rfl (hp1.ext E).1) ?_
    refine Sq.move .plain rfl rfl ?_
    refine Sq.val .plain rfl rfl (Still.at' sl22 (hp2.ext E) rfl rfl) ?_
    refine Sq.val .plain rfl rfl (Still.loadA one52 rfl (hp2.ext E).1) ?_
    refine Sq.assign .plain rfl rfl ?_
    refine Sq.nil ?_
    refine Eq.next ?_
    refine Cq.seq ?_
    refine Cq.region ?_
    refine Sq.assign .plain rfl rfl ?_
    refine Sq.nil ?_
    refine Eq.next ?_
    refine Cq.block ?_
    refine Cq.loop (fun nn w ls => ∃ (m : Int), ∃ (ov2 : Value), ∃ (xs2 : List Int), ls = [(0, mv), (1, dv), (2, av), (3, Value.int .i64 k), (4, Value.int .i64 d), (11, ov2), (12, Value.int .i64 j), (13, r2), (14, Value.int .i64 m)] ∧ (0 ≤ m ∧ m ≤ 1) ∧ Own w w0.heap.size 3 ov2 (xs2.map (Value.int .i64)) ∧ xs2 = (if m = 0 then [] else (if ds.getD t.toNat 0 = d then [t] else [])) ∧ Ext w0 w ∧ nn = (1 - m).toNat) _ _ ⟨0, _, xs, rfl, by omega, ho, by rw [hxs, if_pos hj0, if_pos rfl], E, rfl⟩ (.cons rfl (.cons rfl (.cons rfl (.cons rfl (.cons rfl (.cons rfl (.cons rfl (.cons rfl (.cons rfl (.nil)))))))))) ?_
    rintro nn wl2 ls ⟨m, ov2, xs2, rfl, hm, ho, hxs2, E, rfl⟩
    have hs10 := Below.size E
    have hx2 : xs2.length ≤ 1 := by rw [hxs2]; split; decide; split <;> simp
    refine Cq.seq ?_
    refine Cq.seq ?_
    refine Cq.region ?_
    refine Sq.move .plain rfl rfl ?_
    refine Sq.move .plain rfl rfl ?_
    refine Sq.lenInts (hr2.ext E) .plain rfl und52 rfl ?_
    refine Sq.lss .plain rfl rfl rfl ?_
    refine Sq.part (fun c11 => ?_) (fun c11 => ?_)
    · refine Sq.nil ?_
      refine Eq.next ?_
      refine Cq.thn rfl ?_
      refine Cq.skip ?_
      refine Eq.next ?_
      refine Cq.seq ?_
      refine Cq.block ?_
      refine Cq.seq ?_
      refine Cq.region ?_
      refine Sq.move .plain rfl rfl ?_
      refine Sq.move .plain rfl rfl ?_
      refine Sq.move .plain rfl rfl ?_
      have hm0 : m = 0 := by omega
      have htm : ([t] : List Int).getD m.toNat 0 = t := by rw [hm0]; rfl
      refine Sq.idxInts sl52 one3 (hr2.ext E) .plain rfl rfl rfl .plain rfl rfl (by omega) (by simp only [List.length_singleton]; omega) ?_
      rw [htm]
      refine Sq.idxInts sl52 one3 (hd.ext E) .plain rfl rfl rfl .plain rfl rfl (by omega) (by omega) ?_
      refine Sq.move .plain rfl rfl ?_
      refine Sq.eql .plain rfl rfl rfl ?_
      refine Sq.part (fun hde => ?_) (fun hde => ?_)
      · refine Sq.move .plain rfl rfl ?_
        refine Sq.move (.met rfl rfl rfl) rfl rfl ?_
        refine Sq.move (.met rfl rfl rfl) rfl rfl ?_
        refine Sq.move (.met rfl rfl rfl) rfl rfl ?_
        refine Sq.idxInts sl52 one3 (hr2.ext E) (.met rfl rfl rfl) rfl rfl rfl (.met rfl rfl rfl) rfl rfl (by omega) (by simp only [List.length_singleton]; omega) ?_
        rw [htm]
        refine Sq.call fn102 (.met rfl rfl rfl) rfl rfl (l4In_c _ xs2 _ (Own.row ho) t (by omega)) ?_
        rintro _ _ ⟨rfl, rfl⟩
        refine Sq.isF (by rw [hxs2, if_pos hm0]; simp) ?_
        refine Sq.notF (.met rfl rfl rfl) rfl rfl ?_
        refine Sq.pickT .plain rfl rfl rfl ?_
        refine Sq.nil ?_
        refine Eq.next ?_
        refine Cq.thn rfl ?_
        refine Cq.region ?_
        refine Sq.move .plain rfl rfl ?_
        refine Sq.move .plain rfl rfl ?_
        refine Sq.move .plain rfl rfl ?_
        refine Sq.idxInts sl52 one3 (hr2.ext E) .plain rfl rfl rfl .plain rfl rfl (by omega) (by simp only [List.length_singleton]; omega) ?_
        rw [htm]
        refine Sq.app1 sl52 ho (by omega) (by rw [List.length_map]; omega) .plain rfl rfl rfl rfl rfl rfl rfl (fun v12 w13 ho15 g14 _ => ?_)
        have hs16 := g14.size
        replace E := E.owned ho g14 (by omega)
        refine Sq.assign .plain rfl rfl ?_
        refine Sq.nil ?_
        refine Eq.end ?_
        refine Eq.next ?_
        refine Cq.region ?_
        refine Sq.move .plain rfl rfl ?_
        refine Sq.add .plain rfl rfl rfl (by omega) ?_
        refine Sq.assign .plain rfl rfl ?_
        refine Sq.nil ?_
        have hx20 : xs2 = [] := by rw [hxs2, if_pos hm0]
        subst hx20
        refine Eq.round _ _ ⟨m + 1, _, [t], rfl, by omega, by simpa using ho15, by rw [if_neg (by omega), if_pos hde], E, rfl⟩ (by omega) (.cons rfl (.cons rfl (.cons rfl (.cons rfl (.cons rfl (.cons rfl (.cons rfl (.cons rfl (.cons rfl (.nil))))))))))
      refine Sq.move .plain rfl rfl ?_
      refine Sq.off rfl rfl rfl rfl rfl rfl ?_
      refine Sq.off rfl rfl rfl rfl rfl rfl ?_
      refine Sq.off rfl rfl rfl rfl rfl rfl ?_
      refine Sq.off rfl rfl rfl rfl rfl rfl ?_
      refine Sq.off rfl rfl rfl rfl rfl rfl ?_
      refine Sq.off rfl rfl rfl rfl rfl rfl ?_
      refine Sq.off rfl rfl rfl rfl rfl rfl ?_
      refine Sq.pickF .plain rfl rfl rfl ?_
      refine Sq.nil ?_
      refine Eq.next ?_
      refine Cq.els rfl ?_
      refine Cq.skip ?_
      refine Eq.end ?_
      refine Eq.next ?_
      refine Cq.region ?_
      refine Sq.move .plain rfl rfl ?_
      refine Sq.add .plain rfl rfl rfl (by omega) ?_
      refine Sq.assign .plain rfl rfl ?_
      refine Sq.nil ?_
      have hx20 : xs2 = [] := by rw [hxs2, if_pos hm0]
      subst hx20
      refine Eq.round _ _ ⟨m + 1, _, [], rfl, by omega, ho, by rw [if_neg (by omega), if_neg hde], E, rfl⟩ (by omega) (.cons rfl (.cons rfl (.cons rfl (.cons rfl (.cons rfl (.cons rfl (.cons rfl (.cons rfl (.cons rfl (.nil))))))))))
    refine Sq.nil ?_
    refine Eq.next ?_
    refine Cq.els rfl ?_
    refine Cq.exit ?_
    refine Eq.past ?_
    refine Eq.past ?_
    refine Eq.hit ?_
    refine Eq.end ?_
    refine Eq.next ?_
    refine Cq.region ?_
    refine Sq.move .plain rfl rfl ?_
    refine Sq.add .plain rfl rfl rfl (by omega) ?_
    refine Sq.assign .plain rfl rfl ?_
    refine Sq.nil ?_
    have hm1 : m = 1 := by omega
    refine Eq.round _ _ ⟨j + 1, _, xs2, rfl, by omega, ho, by rw [if_neg (by omega), hxs2, if_neg (by omega)], E, rfl⟩ (by omega) (.cons rfl (.cons rfl (.cons rfl (.cons rfl (.cons rfl (.cons rfl (.cons rfl (.nil))))))))
  refine Sq.nil ?_
  refine Eq.next ?_
  refine Cq.els rfl ?_
  refine Cq.exit ?_
  refine Eq.past ?_
  refine Eq.past ?_
  refine Eq.hit ?_
  refine Eq.next ?_
  refine Cq.seq ?_
  refine Cq.region ?_
  refine Sq.move .plain rfl rfl ?_
  refine Sq.assign .plain rfl rfl ?_
  refine Sq.nil ?_
  refine Eq.next ?_
  refine Cq.ret ?_
  refine Eq.ret1 rfl rfl ?_
  rw [hxs, if_neg (by omega)] at ho
  exact ⟨ho, E⟩
end Go.Proofs.Ytdkdpmmfebdeaaa
set_option linter.unusedSimpArgs false
set_option linter.unusedVariables false
namespace Go.Proofs.Ytdkdpmmfebdeaaa
open Go.RowKit
set_option maxHeartbeats 1000000 in
set_option maxRecDepth 100000 in
theorem l4Nexts_c (w0 : World) (aa : List A) (av sv : Value) (ss : List Int) (lt kd gl : Int) (hN : NetA w0 27 52 3 4 av aa) (hS : Ints w0 3 sv ss) (r u : Value) (st : List Int) (hr : Ints w0 3 r (szs aa)) (hu : Ints w0 3 u st) (hok : NetOk aa) (hst : StOk (szs aa) st) (hsl : st.length = aa.length) (x : Int) (hx : 0 ≤ x ∧ x < 6) : Ret Try.prog 103 #[Value.agg #[Value.slice none 0 0, av, sv, Value.int .i64 lt, Value.int .i64 kd, Value.int .i64 gl], r, u, Value.int .i64 x] w0 (fun v w => Own w w0.heap.size 3 v [Value.int .i64 (encTo (szs aa) (goL aa st x) aa.length)] ∧ Ext w0 w) := by
  have E := Ext.refl w0
  have hlen := hok.1
  have hzl := szs_length aa
  refine Ret.of (args := [Value.agg #[Value.slice none 0 0, av, sv, Value.int .i64 lt, Value.int .i64 kd, Value.int .i64 gl], r, u, Value.int .i64 x]) Try.func103 rfl rfl rfl ?_
  rintro _ rfl
  show Cq _ _ _ _ [(0, Value.agg #[Value.slice none 0 0, av, sv, Value.int .i64 lt, Value.int .i64 kd, Value.int .i64 gl]), (1, r), (2, u), (3, Value.int .i64 x)] _
  refine Cq.seq ?_
  refine Cq.region ?_
  refine Sq.box .plain rfl rfl (fun b1 w2 e3 hB4 hlo5 => ?_)
  have hd6 := Nat.le_trans (Below.size E) hlo5
  have hs7 := Below.size e3
  replace E := E.trans e3
  refine Sq.assign .plain rfl rfl ?_
  refine Sq.nil ?_
  refine Eq.next ?_
  refine Cq.seq ?_
  refine Cq.region ?_
  refine Sq.lit sl52 rfl rfl .plain rfl rfl (one_cons rfl one_nil) (fun b8 w9 e10 hlo11 ho12 _ => ?_)
  replace ho12 := ho12 w2.heap.size (Nat.le_refl _)
  have hs14 := Below.size e10
  replace E := E.trans e10
  replace hB4 := hB4.ext e10
  refine Sq.assign .plain rfl rfl ?_
  refine Sq.nil ?_
  refine Eq.next ?_
  refine Cq.seq ?_
  refine Cq.seq ?_
  refine Cq.region ?_
  refine Sq.assign .plain rfl rfl ?_
  refine Sq.nil ?_
  refine Eq.next ?_
  refine Cq.block ?_
  refine Cq.loop (fun nn w ls => ∃ (k : Int), ∃ (ov : Value), ls = [(1, r), (2, u), (3, Value.int .i64 x), (4, Value.pointer (some ⟨b1, 0, none⟩)), (9, ov), (10, Value.int .i64 k)] ∧ (0 ≤ k ∧ k ≤ st.length) ∧ Own w w0.heap.size 3 ov (([(encTo (szs aa) (goL aa st x) k.toNat)] : List Int).map (Value.int .i64)) ∧ Ext w0 w ∧ Blk w b1 70 [Value.slice none 0 0, av, sv, Value.int .i64 lt, Value.int .i64 kd, Value.int .i64 gl] ∧ nn = ((st.length : Int) - k).toNat) _ _ ⟨0, _, rfl, by omega, Own.mono ho12 (by omega), E, hB4, rfl⟩ (.cons rfl (.cons rfl (.cons rfl (.cons rfl (.cons rfl (.cons rfl (.nil))))))) ?_
  rintro nn wl1 ls ⟨k, ov, rfl, hk, ho, E, hB4, rfl⟩
  have hs15 := Below.size E
  have hlow9 := Own.low ho
  refine Cq.seq ?_
  refine Cq.seq ?_
  refine Cq.region ?_
  refine Sq.move .plain rfl rfl ?_
  refine Sq.move .plain rfl rfl ?_
  refine Sq.lenInts (hu.ext E) .plain rfl und52 rfl ?_
  refine Sq.lss .plain rfl rfl rfl ?_
  refine Sq.part (fun c16 => ?_) (fun c16 => ?_)
  · refine Sq.nil ?_
    refine Eq.next ?_
    refine Cq.thn rfl ?_
    refine Cq.skip ?_
    refine Eq.next ?_
    refine Cq.seq ?_
    refine Cq.block ?_
    refine Cq.seq ?_
    obtain ⟨phpA, hpA⟩ := Ints.at hu (i := k) (by omega) (by omega)
    replace hpA := hpA.ext E
    have hstk := st_at hst (k := k.toNat) (by omega)
    have hgk : (goL aa st x).getD k.toNat 0 = _ := goL_at (k := k.toNat) (by omega)
    have hng := net_at hok (k := k.toNat) (by omega)
    refine Cq.drawS 8 (fun w' => Blk w' b1 70 [Value.slice none 0 0, av, sv, Value.int .i64 lt, Value.int .i64 kd, Value.int .i64 gl] ∧ At w' 3 u k phpA (.int .i64 (st.getD k.toNat 0)) ∧ Ext w0 w') mixed (⟨hB4, hpA, E⟩) (fun w17 e18 hS => ?_)
    clear hS
    have hs19 := Below.size e18
    replace E := E.trans e18
    replace hB4 := hB4.ext e18
    replace ho := ho.ext e18
    replace hpA := hpA.ext e18
    refine Gq.st 0 rfl (by kernel_rfl) rfl .plain rfl (fun _ _ _ h => h) ⟨hB4, hpA, E⟩ (fun w' x => Still.loadAgg agg70 rfl x.1 rfl) ?_
    refine Gq.st 1 rfl (by kernel_rfl) rfl .plain rfl (fun _ _ _ h => h) ⟨hB4, hpA, E⟩ (fun w' x => Still.move rfl) ?_
    refine Gq.st 2 rfl (by kernel_rfl) rfl .plain rfl (fun _ _ _ h => h) ⟨hB4, hpA, E⟩ (fun w' x => Still.move rfl) ?_
    refine Gq.st 3 rfl (by kernel_rfl) rfl .plain rfl (fun _ _ _ h => h) ⟨hB4, hpA, E⟩ (fun w' x => Still.move rfl) ?_
    refine Gq.st 4 rfl (by kernel_rfl) rfl .plain rfl (fun _ _ _ h => h) ⟨hB4, hpA, E⟩ (fun w' x => Still.at' sl52 hpA rfl rfl) ?_
    refine Gq.st 5 rfl (by kernel_rfl) rfl .plain rfl (fun _ _ _ h => h) ⟨hB4, hpA, E⟩ (fun w' x => Still.loadA one3 rfl (x.2.1).1) ?_
    refine Gq.st 6 rfl (by kernel_rfl) rfl .plain rfl (fun _ _ _ h => h) ⟨hB4, hpA, E⟩ (fun w' x => Still.move rfl) ?_
    refine Gq.one 7 rfl (by kernel_rfl) ?_
    have hd24 := hB4.lt
    refine Sq.call fn108 .plain rfl rfl (l4Choices_c _ aa av sv ss lt kd gl (hN.ext E) (hS.ext E) hok k (st.getD k.toNat 0) x (by omega) (by first | omega | exact hstk) (by omega)) ?_
    rintro v20 w21 ⟨ho23, e22⟩
    have hs25 := Below.size E
    have hs26 := Below.size e22
    replace E := E.trans e22
    replace hB4 := hB4.ext e22
    replace ho := ho.ext e22
    replace hpA := hpA.ext e22
    replace ho23 : Own w21 w17.heap.size 3 v20 (([goA (aa.getD k.toNat zeroA) (st.getD k.toNat 0) x] : List Int).map (Value.int .i64)) := ho23
    refine Sq.nil ?_
    refine Eq.goes (fun _ => ⟨hB4, hpA, E⟩) ?_
    refine Gq.one 8 rfl (by kernel_rfl) ?_
    refine Sq.assign .plain rfl rfl ?_
    refine Sq.nil ?_
    refine Eq.goes (fun h => absurd h (by decide)) ?_
    refine Gq.done (by kernel_rfl) ?_
    refine Eq.next ?_
    refine Cq.seq ?_
    refine Cq.region ?_
    have hlowC := Own.low ho23
    refine Sq.lit sl52 rfl rfl .plain rfl rfl one_nil (fun b27 w28 e29 hlo30 ho31 _ => ?_)
    replace ho31 := ho31 w21.heap.size (Nat.le_refl _)
    have hs33 := Below.size e29
    replace E := E.trans e29
    replace hB4 := hB4.ext e29
    replace ho := ho.ext e29
    replace ho23 := ho23.ext e29
    refine Sq.assign .plain rfl rfl ?_
    refine Sq.nil ?_
    refine Eq.next ?_
    refine Cq.seq ?_
    refine Cq.seq ?_
    refine Cq.region ?_
    refine Sq.assign .plain rfl rfl ?_
    refine Sq.nil ?_
    refine Eq.next ?_
    refine Cq.block ?_
    refine Cq.loop (fun nn w ls => ∃ (j : Int), ∃ (nv : Value), ls = [(1, r), (2, u), (3, Value.int .i64 x), (4, Value.pointer (some ⟨b1, 0, none⟩)), (9, ov), (10, Value.int .i64 k), (11, v20), (12, nv), (13, Value.int .i64 j)] ∧ (0 ≤ j ∧ j ≤ 1) ∧ (w21.heap.size ≤ w.heap.size) ∧ Own w w21.heap.size 3 nv (if j = 0 then [] else [Value.int .i64 (encTo (szs aa) (goL aa st x) k.toNat * (szs aa).getD k.toNat 0 + goA (aa.getD k.toNat zeroA) (st.getD k.toNat 0) x)]) ∧ Ext w0 w ∧ Blk w b1 70 [Value.slice none 0 0, av, sv, Value.int .i64 lt, Value.int .i64 kd, Value.int .i64 gl] ∧ Own w w0.heap.size 3 ov (([(encTo (szs aa) (goL aa st x) k.toNat)] : List Int).map (Value.int .i64)) ∧ Own w w17.heap.size 3 v20 (([goA (aa.getD k.toNat zeroA) (st.getD k.toNat 0) x] : List Int).map (Value.int .i64)) ∧ nn = (1 - j).toNat) _ _ ⟨0, _, rfl, by omega, by omega, ho31, E, hB4, ho, ho23, rfl⟩ (.cons rfl (.cons rfl (.cons rfl (.cons rfl (.cons rfl (.cons rfl (.cons rfl (.cons rfl (.cons rfl (.nil)))))))))) ?_
    rintro nn wl2 ls ⟨j, nv, rfl, hj, hsz, hnv, E, hB4, ho, ho23, rfl⟩
    have hs34 := Below.size E
    have hl1 : (List.length ([(encTo (szs aa) (goL aa st x) k.toNat)] : List Int) : Int) = 1 := rfl
    refine Cq.seq ?_
    refine Cq.seq ?_
    refine Cq.region ?_
    refine Sq.move .plain rfl rfl ?_
    refine Sq.move .plain rfl rfl ?_
    refine Sq.lenInts (Own.row ho) .plain rfl und52 rfl ?_
    refine Sq.lss .plain rfl rfl rfl ?_
    refine Sq.part (fun c35 => ?_) (fun c35 => ?_)
    · refine Sq.nil ?_
      refine Eq.next ?_
      refine Cq.thn rfl ?_
      refine Cq.skip ?_
      refine Eq.next ?_
      refine Cq.seq ?_
      refine Cq.block ?_
      refine Cq.seq ?_
      refine Cq.region ?_
      refine Sq.assign .plain rfl rfl ?_
      refine Sq.nil ?_
      refine Eq.next ?_
      refine Cq.block ?_
      refine Cq.loop (fun nn w ls => ∃ (m : Int), ∃ (nv2 : Value), ls = [(1, r), (2, u), (3, Value.int .i64 x), (4, Value.pointer (some ⟨b1, 0, none⟩)), (9, ov), (10, Value.int .i64 k), (11, v20), (12, nv2), (13, Value.int .i64 j), (14, Value.int .i64 m)] ∧ (0 ≤ m ∧ m ≤ 1) ∧ (w21.heap.size ≤ w.heap.size) ∧ Own w w21.heap.size 3 nv2 (if m = 0 then [] else [Value.int .i64 (encTo (szs aa) (goL aa st x) k.toNat * (szs aa).getD k.toNat 0 + goA (aa.getD k.toNat zeroA) (st.getD k.toNat 0) x)]) ∧ Ext w0 w ∧ Blk w b1 70 [Value.slice none 0 0, av, sv, Value.int .i64 lt, Value.int .i64 kd, Value.int .i64 gl] ∧ Own w w0.heap.size 3 ov (([(encTo (szs aa) (goL aa st x) k.toNat)] : List Int).map (Value.int .i64)) ∧ Own w w17.heap.size 3 v20 (([goA (aa.getD k.toNat zeroA) (st.getD k.toNat 0) x] : List Int).map (Value.int .i64)) ∧ nn = (1 - m).toNat) _ _ ⟨0, _, rfl, by omega, by omega, by rw [if_pos (by omega)] at hnv; exact hnv, E, hB4, ho, ho23, rfl⟩ (.cons rfl (.cons rfl (.cons rfl (.cons rfl (.cons rfl (.cons rfl (.cons rfl (.cons rfl (.cons rfl (.cons rfl (.nil))))))))))) ?_
      rintro nn wl3 ls ⟨m, nv2, rfl, hm, hsz, hnv, E, hB4, ho, ho23, rfl⟩
      have hs36 := Below.size E
      have heb := enc_bd (szs_ok hok) (goL_ok hok hst hx) (k := k.toNat) (by omega)
      have hsb := st_at (goL_ok hok hst hx) (k := k.toNat) (by omega)
      rw [hgk] at hsb
      have hl2 : (List.length ([goA (aa.getD k.toNat zeroA) (st.getD k.toNat 0) x] : List Int) : Int) = 1 := rfl
      refine Cq.seq ?_
      refine Cq.seq ?_
      refine Cq.region ?_
      refine Sq.move .plain rfl rfl ?_
      refine Sq.move .plain rfl rfl ?_
      refine Sq.lenInts (Own.row ho23) .plain rfl und52 rfl ?_
      refine Sq.lss .plain rfl rfl rfl ?_
      refine Sq.part (fun c37 => ?_) (fun c37 => ?_)
      · refine Sq.nil ?_
        refine Eq.next ?_
        refine Cq.thn rfl ?_
        refine Cq.skip ?_
        refine Eq.next ?_
        refine Cq.seq ?_
        refine Cq.block ?_
        have hj0 : j = 0 := by omega
        have hm0 : m = 0 := by omega
        obtain ⟨phpO, hpO⟩ := Ints.at (xs := [(encTo (szs aa) (goL aa st x) k.toNat)]) (Own.row ho) (i := j) (by omega) (by simp; omega)
        obtain ⟨phpC, hpC⟩ := Ints.at (xs := [goA (aa.getD k.toNat zeroA) (st.getD k.toNat 0) x]) (Own.row ho23) (i := m) (by omega) (by simp; omega)
        obtain ⟨phpS, hpS⟩ := Ints.at hr (i := k) (by omega) (by omega)
        have hlowS := Ints.low hr (by omega)
        replace hpS := hpS.ext E
        rw [show ([(encTo (szs aa) (goL aa st x) k.toNat)] : List Int).getD j.toNat 0 = (encTo (szs aa) (goL aa st x) k.toNat) by rw [hj0]; rfl] at hpO
        rw [show ([goA (aa.getD k.toNat zeroA) (st.getD k.toNat 0) x] : List Int).getD m.toNat 0 = goA (aa.getD k.toNat zeroA) (st.getD k.toNat 0) x by rw [hm0]; rfl] at hpC
        refine Cq.drawS 17 (fun w' => At w' 3 ov j phpO (.int .i64 (encTo (szs aa) (goL aa st x) k.toNat)) ∧ At w' 3 r k phpS (.int .i64 ((szs aa).getD k.toNat 0)) ∧ At w' 3 v20 m phpC (.int .i64 (goA (aa.getD k.toNat zeroA) (st.getD k.toNat 0) x)) ∧ Ext w0 w') mixed (⟨hpO, hpS, hpC, E⟩) (fun w38 e39 hS => ?_)
        clear hS
        have hs40 := Below.size e39
        replace E := E.trans e39
        replace hB4 := hB4.ext e39
        replace ho := ho.ext e39
        replace ho23 := ho23.ext e39
        replace hnv := hnv.ext e39
        replace hpO := hpO.ext e39
        replace hpS := hpS.ext e39
        replace hpC := hpC.ext e39
        refine Gq.st 0 rfl (by kernel_rfl) rfl .plain rfl (fun _ _ _ h => h) ⟨hpO, hpS, hpC, E⟩ (fun w' x => Still.move rfl) ?_
        refine Gq.st 1 rfl (by kernel_rfl) rfl .plain rfl (fun _ _ _ h => h) ⟨hpO, hpS, hpC, E⟩ (fun w' x => Still.move rfl) ?_
        refine Gq.st 2 rfl (by kernel_rfl) rfl .plain rfl (fun _ _ _ h => h) ⟨hpO, hpS, hpC, E⟩ (fun w' x => Still.move rfl) ?_
        refine Gq.st 3 rfl (by kernel_rfl) rfl .plain rfl (fun _ _ _ h => h) ⟨hpO, hpS, hpC, E⟩ (fun w' x => Still.at' sl52 hpO rfl rfl) ?_
        refine Gq.st 4 rfl (by kernel_rfl) rfl .plain rfl (fun _ _ _ h => h) ⟨hpO, hpS, hpC, E⟩ (fun w' x => Still.loadA one3 rfl (x.1).1) ?_
        refine Gq.st 5 rfl (by kernel_rfl) rfl .plain rfl (fun _ _ _ h => h) ⟨hpO, hpS, hpC, E⟩ (fun w' x => Still.move rfl) ?_
        refine Gq.st 6 rfl (by kernel_rfl) rfl .plain rfl (fun _ _ _ h => h) ⟨hpO, hpS, hpC, E⟩ (fun w' x => Still.move rfl) ?_
        refine Gq.st 7 rfl (by kernel_rfl) rfl .plain rfl (fun _ _ _ h => h) ⟨hpO, hpS, hpC, E⟩ (fun w' x => Still.at' sl52 hpS rfl rfl) ?_
        refine Gq.st 8 rfl (by kernel_rfl) rfl .plain rfl (fun _ _ _ h => h) ⟨hpO, hpS, hpC, E⟩ (fun w' x => Still.loadA one3 rfl (x.2.1).1) ?_
        refine Gq.st 9 rfl (by kernel_rfl) rfl .plain rfl (fun _ _ _ h => h) ⟨hpO, hpS, hpC, E⟩ (fun w' x => Still.mul rfl rfl (by omega)) ?_
        refine Gq.st 10 rfl (by kernel_rfl) rfl .plain rfl (fun _ _ _ h => h) ⟨hpO, hpS, hpC, E⟩ (fun w' x => Still.move rfl) ?_
        refine Gq.st 11 rfl (by kernel_rfl) rfl .plain rfl (fun _ _ _ h => h) ⟨hpO, hpS, hpC, E⟩ (fun w' x => Still.move rfl) ?_
        refine Gq.st 12 rfl (by kernel_rfl) rfl .plain rfl (fun _ _ _ h => h) ⟨hpO, hpS, hpC, E⟩ (fun w' x => Still.at' sl52 hpC rfl rfl) ?_
        refine Gq.st 13 rfl (by kernel_rfl) rfl .plain rfl (fun _ _ _ h => h) ⟨hpO, hpS, hpC, E⟩ (fun w' x => Still.loadA one3 rfl (x.2.2.1).1) ?_
        refine Gq.st 14 rfl (by kernel_rfl) rfl .plain rfl (fun _ _ _ h => h) ⟨hpO, hpS, hpC, E⟩ (fun w' x => Still.add rfl rfl (by omega)) ?_
        refine Gq.one 15 rfl (by kernel_rfl) ?_
        refine Sq.lit sl52 rfl rfl .plain rfl rfl (one_cons rfl one_nil) (fun b41 w42 e43 hlo44 ho45 _ => ?_)
        replace ho45 := ho45 w38.heap.size (Nat.le_refl _)
        have hs47 := Below.size e43
        replace E := E.trans e43
        replace hB4 := hB4.ext e43
        replace ho := ho.ext e43
        replace ho23 := ho23.ext e43
        replace hnv := hnv.ext e43
        replace hpO := hpO.ext e43
        replace hpS := hpS.ext e43
        replace hpC := hpC.ext e43
        refine Sq.nil ?_
        refine Eq.goes (fun _ => ⟨hpO, hpS, hpC, E⟩) ?_
        refine Gq.one 16 rfl (by kernel_rfl) ?_
        refine Sq.app sl52 hnv (by omega) (Own.row ho45) (one_cons rfl one_nil) (by first | omega | (split <;> simp)) .plain rfl rfl rfl rfl (fun v48 w49 ho51 g50 => ?_)
        have hs52 := g50.size
        replace E := E.owned hnv g50 (by omega)
        replace hB4 := hB4.owned hnv g50 (by decide)
        replace ho := ho.apart hlow9 hnv g50 (by omega)
        replace ho23 := ho23.apart hlowC hnv g50 (by omega)
        replace hpO := hpO.apart hlow9 hnv g50 (by omega)
        replace hpS := hpS.apart hlowS hnv g50 (by omega)
        replace hpC := hpC.apart hlowC hnv g50 (by omega)
        refine Sq.nil ?_
        refine Eq.goes (fun _ => ⟨hpO, hpS, hpC, E⟩) ?_
        refine Gq.one 17 rfl (by kernel_rfl) ?_
        refine Sq.assign .plain rfl rfl ?_
        refine Sq.nil ?_
        refine Eq.goes (fun h => absurd h (by decide)) ?_
        refine Gq.done (by kernel_rfl) ?_
        refine Eq.end ?_
        refine Eq.next ?_
        refine Cq.region ?_
        refine Sq.move .plain rfl rfl ?_
        refine Sq.add .plain rfl rfl rfl (by omega) ?_
        refine Sq.assign .plain rfl rfl ?_
        refine Sq.nil ?_
        refine Eq.round _ _ ⟨m + 1, _, rfl, by omega, by omega, by rw [if_neg (by omega)]; have h := ho51; rw [if_pos hm0] at h; exact h, E, hB4, ho, ho23, rfl⟩ (by omega) (.cons rfl (.cons rfl (.cons rfl (.cons rfl (.cons rfl (.cons rfl (.cons rfl (.cons rfl (.cons rfl (.cons rfl (.nil)))))))))))
      refine Sq.nil ?_
      refine Eq.next ?_
      refine Cq.els rfl ?_
      refine Cq.exit ?_
      refine Eq.past ?_
      refine Eq.past ?_
      refine Eq.hit ?_
      refine Eq.end ?_
      refine Eq.next ?_
      refine Cq.region ?_
      refine Sq.move .plain rfl rfl ?_
      refine Sq.add .plain rfl rfl rfl (by omega) ?_
      refine Sq.assign .plain rfl rfl ?_
      refine Sq.nil ?_
      have hm1 : m = 1 := by omega
      refine Eq.round _ _ ⟨j + 1, _, rfl, by omega, by omega, by rw [if_neg (by omega)]; rw [if_neg (by omega)] at hnv; exact hnv, E, hB4, ho, ho23, rfl⟩ (by omega) (.cons rfl (.cons rfl (.cons rfl (.cons rfl (.cons rfl (.cons rfl (.cons rfl (.cons rfl (.cons rfl (.nil))))))))))
    refine Sq.nil ?_
    refine Eq.next ?_
    refine Cq.els rfl ?_
    refine Cq.exit ?_
    refine Eq.past ?_
    refine Eq.past ?_
    refine Eq.hit ?_
    refine Eq.next ?_
    refine Cq.region ?_
    refine Sq.move .plain rfl rfl ?_
    refine Sq.assign .plain rfl rfl ?_
    refine Sq.nil ?_
    refine Eq.end ?_
    refine Eq.next ?_
    refine Cq.region ?_
    refine Sq.move .plain rfl rfl ?_
    refine Sq.add .plain rfl rfl rfl (by omega) ?_
    refine Sq.assign .plain rfl rfl ?_
    refine Sq.nil ?_
    have e1 := toNat_succ hk.1
    have hj1 : j = 1 := by omega
    refine Eq.round _ _ ⟨k + 1, _, rfl, by omega, by rw [e1, encTo, hgk]; rw [hj1] at hnv; exact Own.mono hnv (by omega), E, hB4, rfl⟩ (by omega) (.cons rfl (.cons rfl (.cons rfl (.cons rfl (.cons rfl (.cons rfl (.nil)))))))
  refine Sq.nil ?_
  refine Eq.next ?_
  refine Cq.els rfl ?_
  refine Cq.exit ?_
  refine Eq.past ?_
  refine Eq.past ?_
  refine Eq.hit ?_
  refine Eq.next ?_
  refine Cq.seq ?_
  refine Cq.region ?_
  refine Sq.move .plain rfl rfl ?_
  refine Sq.assign .plain rfl rfl ?_
  refine Sq.nil ?_
  refine Eq.next ?_
  refine Cq.ret ?_
  refine Eq.ret1 rfl rfl ?_
  have e2 : k.toNat = aa.length := by omega
  rw [e2] at ho
  exact ⟨ho, E⟩
end Go.Proofs.Ytdkdpmmfebdeaaa
set_option linter.unusedSimpArgs false
set_option linter.unusedVariables false
namespace Go.Proofs.Ytdkdpmmfebdeaaa
open Go.RowKit
set_option maxHeartbeats 1000000 in
set_option maxRecDepth 100000 in
theorem l4Moves_c (w0 : World) (aa : List A) (av sv : Value) (ss : List Int) (lt kd gl : Int) (hN : NetA w0 27 52 3 4 av aa) (hS : Ints w0 3 sv ss) (r : Value) (tot : Int) (hr : Ints w0 3 r (szs aa)) (hok : NetOk aa) (ht : tot = total aa) (hal : 0 ≤ lt ∧ lt ≤ 63) : Ret Try.prog 88 #[Value.agg #[Value.slice none 0 0, av, sv, Value.int .i64 lt, Value.int .i64 kd, Value.int .i64 gl], r, Value.int .i64 tot] w0 (fun v w => Read3 w 22 52 3 v (movesN aa (letters lt)) ∧ Ext w0 w) := by
  have E := Ext.refl w0
  have hlen := hok.1
  have hzl := szs_length aa
  have htb := total_bd hok
  have hlet := letters_len6 lt
  refine Ret.of (args := [Value.agg #[Value.slice none 0 0, av, sv, Value.int .i64 lt, Value.int .i64 kd, Value.int .i64 gl], r, Value.int .i64 tot]) Try.func88 rfl rfl rfl ?_
  rintro _ rfl
  show Cq _ _ _ _ [(0, Value.agg #[Value.slice none 0 0, av, sv, Value.int .i64 lt, Value.int .i64 kd, Value.int .i64 gl]), (1, r), (2, Value.int .i64 tot)] _
  refine Cq.seq ?_
  refine Cq.region ?_
  refine Sq.box .plain rfl rfl (fun b1 w2 e3 hB4 hlo5 => ?_)
  have hd6 := Nat.le_trans (Below.size E) hlo5
  have hs7 := Below.size e3
  replace E := E.trans e3
  refine Sq.assign .plain rfl rfl ?_
  refine Sq.nil ?_
  refine Eq.next ?_
  refine Cq.seq ?_
  refine Cq.region ?_
  refine Sq.lit sl85 rfl rfl .plain rfl rfl one_nil (fun b8 w9 e10 hlo11 ho12 _ => ?_)
  have hs13 := Below.size e10
  replace E := E.trans e10
  replace hB4 := hB4.ext e10
  have ho3 := Own3.nil w9 w0.heap.size w9.heap.size 22 52 3 (ho12 w0.heap.size (by omega))
  refine Sq.assign .plain rfl rfl ?_
  refine Sq.nil ?_
  refine Eq.next ?_
  refine Cq.seq ?_
  refine Cq.region ?_
  refine Sq.fieldAddr fld70_3 .plain rfl rfl ?_
  refine Sq.loadB one3 .plain rfl rfl hB4 rfl ?_
  have hd18 := hB4.lt
  refine Sq.call fn52 .plain rfl rfl (l1Letters_c lt (by omega) _) ?_
  rintro v14 w15 ⟨hl17, e16⟩
  have hs19 := Below.size E
  have hs20 := Below.size e16
  replace E := E.trans e16
  replace hB4 := hB4.ext e16
  replace ho3 := ho3.ext e16
  refine Sq.assign .plain rfl rfl ?_
  refine Sq.nil ?_
  refine Eq.next ?_
  refine Cq.seq ?_
  refine Cq.seq ?_
  refine Cq.region ?_
  refine Sq.assign .plain rfl rfl ?_
  refine Sq.nil ?_
  refine Eq.next ?_
  refine Cq.block ?_
  refine Cq.loop (fun nn w ls => ∃ (i : Int), ∃ (ov : Value), ls = [(1, r), (2, Value.int .i64 tot), (3, Value.pointer (some ⟨b1, 0, none⟩)), (7, ov), (8, v14), (9, Value.int .i64 i)] ∧ (0 ≤ i ∧ i ≤ tot) ∧ Own3 w w0.heap.size w.heap.size 22 52 3 ov ((List.range i.toNat).map fun (q : Nat) => (letters lt).map fun x => [fN aa (q : Int) x]) ∧ Ext w0 w ∧ Blk w b1 70 [Value.slice none 0 0, av, sv, Value.int .i64 lt, Value.int .i64 kd, Value.int .i64 gl] ∧ Own w w9.heap.size 3 v14 ((letters lt).map (Value.int .i64)) ∧ nn = (tot - i).toNat) _ _ ⟨0, _, rfl, by omega, Own3.now ho3, E, hB4, hl17, rfl⟩ (.cons rfl (.cons rfl (.cons rfl (.cons rfl (.cons rfl (.cons rfl (.nil))))))) ?_
  rintro nn wl1 ls ⟨i, ov, rfl, hi, ho3, E, hB4, hl17, rfl⟩
  have hs21 := Below.size E
  have hm3 := rfl (a := ((List.range i.toNat).map fun (q : Nat) => (letters lt).map fun x => [fN aa (q : Int) x]))
  refine Cq.seq ?_
  refine Cq.seq ?_
  refine Cq.region ?_
  refine Sq.move .plain rfl rfl ?_
  refine Sq.move .plain rfl rfl ?_
  refine Sq.lss .plain rfl rfl rfl ?_
  refine Sq.part (fun c22 => ?_) (fun c22 => ?_)
  · refine Sq.nil ?_
    refine Eq.next ?_
    refine Cq.thn rfl ?_
    refine Cq.skip ?_
    refine Eq.next ?_
    refine Cq.seq ?_
    refine Cq.block ?_
    refine Cq.seq ?_
    refine Cq.region ?_
    refine Sq.move .plain rfl rfl ?_
    refine Sq.move .plain rfl rfl ?_
    have hd27 := hB4.lt
    refine Sq.call fn90 .plain rfl rfl (l4Decode_c _ (szs aa) _ (hr.ext E) i (szs_ok hok) (by omega)) ?_
    rintro v23 w24 ⟨ho26, e25⟩
    have hs28 := Below.size E
    have hs29 := Below.size e25
    replace E := E.trans e25
    replace hB4 := hB4.ext e25
    replace hl17 := hl17.ext e25
    replace ho3 := ho3.ext e25
    refine Sq.assign .plain rfl rfl ?_
    refine Sq.nil ?_
    refine Eq.next ?_
    refine Cq.seq ?_
    refine Cq.region ?_
    refine Sq.lit sl22 rfl rfl .plain rfl rfl one_nil (fun b30 w31 e32 hlo33 ho34 _ => ?_)
    have hs35 := Below.size e32
    replace E := E.trans e32
    replace hB4 := hB4.ext e32
    replace hl17 := hl17.ext e32
    replace ho3 := ho3.ext e32
    replace ho26 := ho26.ext e32
    have hor := OwnRows.nil' w31 w24.heap.size w31.heap.size 52 3 (ho34 w24.heap.size (Nat.le_refl _))
    refine Sq.assign .plain rfl rfl ?_
    refine Sq.nil ?_
    refine Eq.next ?_
    refine Cq.seq ?_
    refine Cq.seq ?_
    refine Cq.region ?_
    refine Sq.assign .plain rfl rfl ?_
    refine Sq.nil ?_
    refine Eq.next ?_
    refine Cq.block ?_
    refine Cq.loop (fun nn w ls => ∃ (m : Int), ∃ (rv : Value), ls = [(1, r), (2, Value.int .i64 tot), (3, Value.pointer (some ⟨b1, 0, none⟩)), (7, ov), (8, v14), (9, Value.int .i64 i), (10, v23), (11, rv), (12, Value.int .i64 m)] ∧ (0 ≤ m ∧ m ≤ (letters lt).length) ∧ (w24.heap.size ≤ w.heap.size) ∧ OwnRows w w24.heap.size w.heap.size 52 3 rv (((letters lt).take m.toNat).map fun x => [fN aa i x]) ∧ Own3 w w0.heap.size wl1.heap.size 22 52 3 ov ((List.range i.toNat).map fun (q : Nat) => (letters lt).map fun x => [fN aa (q : Int) x]) ∧ Ext w0 w ∧ Blk w b1 70 [Value.slice none 0 0, av, sv, Value.int .i64 lt, Value.int .i64 kd, Value.int .i64 gl] ∧ Own w w9.heap.size 3 v14 ((letters lt).map (Value.int .i64)) ∧ Own w wl1.heap.size 3 v23 ((decL (szs aa) i).map (Value.int .i64)) ∧ nn = (((letters lt).length : Int) - m).toNat) _ _ ⟨0, _, rfl, by omega, by omega, hor, ho3, E, hB4, hl17, ho26, rfl⟩ (.cons rfl (.cons rfl (.cons rfl (.cons rfl (.cons rfl (.cons rfl (.cons rfl (.cons rfl (.cons rfl (.nil)))))))))) ?_
    rintro nn wl2 ls ⟨m, rv, rfl, hm, hsz, hor, ho3, E, hB4, hl17, ho26, rfl⟩
    have hs36 := Below.size E
    refine Cq.seq ?_
    refine Cq.seq ?_
    refine Cq.region ?_
    refine Sq.move .plain rfl rfl ?_
    refine Sq.move .plain rfl rfl ?_
    refine Sq.lenInts (Own.row hl17) .plain rfl und52 rfl ?_
    refine Sq.lss .plain rfl rfl rfl ?_
    refine Sq.part (fun c37 => ?_) (fun c37 => ?_)
    · refine Sq.nil ?_
      refine Eq.next ?_
      refine Cq.thn rfl ?_
      refine Cq.skip ?_
      refine Eq.next ?_
      refine Cq.seq ?_
      refine Cq.block ?_
      have hlx := letters_at lt (k := m.toNat) (by omega)
      obtain ⟨phpL, hpL⟩ := Ints.at (Own.row hl17) (i := m) (by omega) (by omega)
      refine Cq.drawS 11 (fun w' => Blk w' b1 70 [Value.slice none 0 0, av, sv, Value.int .i64 lt, Value.int .i64 kd, Value.int .i64 gl] ∧ At w' 3 v14 m phpL (.int .i64 ((letters lt).getD m.toNat 0))) mixed (⟨hB4, hpL⟩) (fun w38 e39 hS => ?_)
      clear hS
      have hs40 := Below.size e39
      replace E := E.trans e39
      replace hB4 := hB4.ext e39
      replace hl17 := hl17.ext e39
      replace ho26 := ho26.ext e39
      replace hor := hor.ext e39
      replace ho3 := ho3.ext e39
      replace hpL := hpL.ext e39
      refine Gq.st 0 rfl (by kernel_rfl) rfl .plain rfl (fun _ _ _ h => h) ⟨hB4, hpL⟩ (fun w' x => Still.move rfl) ?_
      refine Gq.st 1 rfl (by kernel_rfl) rfl .plain rfl (fun _ _ _ h => h) ⟨hB4, hpL⟩ (fun w' x => Still.loadAgg agg70 rfl x.1 rfl) ?_
      refine Gq.st 2 rfl (by kernel_rfl) rfl .plain rfl (fun _ _ _ h => h) ⟨hB4, hpL⟩ (fun w' x => Still.move rfl) ?_
      refine Gq.st 3 rfl (by kernel_rfl) rfl .plain rfl (fun _ _ _ h => h) ⟨hB4, hpL⟩ (fun w' x => Still.move rfl) ?_
      refine Gq.st 4 rfl (by kernel_rfl) rfl .plain rfl (fun _ _ _ h => h) ⟨hB4, hpL⟩ (fun w' x => Still.move rfl) ?_
      refine Gq.st 5 rfl (by kernel_rfl) rfl .plain rfl (fun _ _ _ h => h) ⟨hB4, hpL⟩ (fun w' x => Still.move rfl) ?_
      refine Gq.st 6 rfl (by kernel_rfl) rfl .plain rfl (fun _ _ _ h => h) ⟨hB4, hpL⟩ (fun w' x => Still.at' sl52 hpL rfl rfl) ?_
      refine Gq.st 7 rfl (by kernel_rfl) rfl .plain rfl (fun _ _ _ h => h) ⟨hB4, hpL⟩ (fun w' x => Still.loadA one3 rfl (x.2).1) ?_
      refine Gq.one 8 rfl (by kernel_rfl) ?_
      have hd45 := hB4.lt
      refine Sq.call fn103 .plain rfl rfl (l4Nexts_c _ aa av sv ss lt kd gl (hN.ext E) (hS.ext E) _ _ ((decL (szs aa) i)) (hr.ext E) (Own.row ho26) hok (decL_ok (szs_ok hok) _) (by rw [decL_length, szs_length]) (((letters lt).getD m.toNat 0)) (by omega)) ?_
      rintro v41 w42 ⟨ho44, e43⟩
      have hs46 := Below.size E
      have hs47 := Below.size e43
      replace E := E.trans e43
      replace hB4 := hB4.ext e43
      replace hl17 := hl17.ext e43
      replace ho26 := ho26.ext e43
      replace hor := hor.ext e43
      replace ho3 := ho3.ext e43
      replace hpL := hpL.ext e43
      replace ho44 : Own w42 w38.heap.size 3 v41 (([fN aa i (((letters lt).getD m.toNat 0))] : List Int).map (Value.int .i64)) := ho44
      refine Sq.nil ?_
      refine Eq.goes (fun _ => ⟨hB4, hpL⟩) ?_
      refine Gq.one 9 rfl (by kernel_rfl) ?_
      refine Sq.lit sl22 rfl rfl .plain rfl rfl (one_cons (Row.one (Own.row ho44)) one_nil) (fun b48 w49 e50 hlo51 ho52 _ => ?_)
      replace ho52 := ho52 w42.heap.size (Nat.le_refl _)
      have hs54 := Below.size e50
      replace E := E.trans e50
      replace hB4 := hB4.ext e50
      replace hl17 := hl17.ext e50
      replace ho26 := ho26.ext e50
      replace hor := hor.ext e50
      replace ho3 := ho3.ext e50
      replace hpL := hpL.ext e50
      replace ho44 := ho44.ext e50
      refine Sq.nil ?_
      refine Eq.goes (fun _ => ⟨hB4, hpL⟩) ?_
      refine Gq.one 10 rfl (by kernel_rfl) ?_
      obtain ⟨rs59, q60, q61, q62⟩ := OwnRows.open hor (by decide)
      have q62x := Ext.refl w49
      refine Sq.app sl22 q60 (by omega) (Own.row ho52) (one_cons (Row.one (Own.row ho44)) one_nil) (by rw [q61]; simp; omega) .plain rfl rfl rfl rfl (fun v55 w56 ho58 g57 => ?_)
      have hs63 := g57.size
      have ho58r := q62 _ (([fN aa i (((letters lt).getD m.toNat 0))] : List Int)) _ _ _ (Ext.refl _) (Own.mono ho44 (by omega)) (by omega) ho58 g57
      replace E := E.owned q60 g57 (by omega)
      replace hB4 := hB4.owned q60 g57 (by decide)
      replace hl17 := hl17.owned q60 g57 (by decide)
      replace ho26 := ho26.owned q60 g57 (by decide)
      replace ho3 := ho3.apart q60 g57 (by omega) (by decide)
      replace hpL := hpL.owned q60 g57 (by decide)
      refine Sq.nil ?_
      refine Eq.goes (fun _ => ⟨hB4, hpL⟩) ?_
      refine Gq.one 11 rfl (by kernel_rfl) ?_
      refine Sq.assign .plain rfl rfl ?_
      refine Sq.nil ?_
      refine Eq.goes (fun h => absurd h (by decide)) ?_
      refine Gq.done (by kernel_rfl) ?_
      refine Eq.end ?_
      refine Eq.next ?_
      refine Cq.region ?_
      refine Sq.move .plain rfl rfl ?_
      refine Sq.add .plain rfl rfl rfl (by omega) ?_
      refine Sq.assign .plain rfl rfl ?_
      refine Sq.nil ?_
      have e2 := toNat_succ hm.1
      refine Eq.round _ _ ⟨m + 1, _, rfl, by omega, by omega, by rw [e2, take_snoc 0 (by omega), List.map_append]; exact OwnRows.now ho58r, ho3, E, hB4, hl17, ho26, rfl⟩ (by omega) (.cons rfl (.cons rfl (.cons rfl (.cons rfl (.cons rfl (.cons rfl (.cons rfl (.cons rfl (.cons rfl (.nil))))))))))
    refine Sq.nil ?_
    refine Eq.next ?_
    refine Cq.els rfl ?_
    refine Cq.exit ?_
    refine Eq.past ?_
    refine Eq.past ?_
    refine Eq.hit ?_
    refine Eq.next ?_
    refine Cq.region ?_
    refine Sq.move .plain rfl rfl ?_
    refine Sq.move .plain rfl rfl ?_
    obtain ⟨rs3, hq1, hq2, hq3⟩ := Own3.open ho3 (by decide) (by decide)
    have hU := RowsU.of (OwnRows.now hor)
    have hx0 := Ext.refl wl2
    refine Sq.lit sl85 rfl rfl .plain rfl rfl (one_cons (Rows.one (OwnRows.rows hor)) one_nil) (fun b64 w65 e66 hlo67 ho68 _ => ?_)
    have hs73 := Below.size e66
    replace E := E.trans e66
    replace hB4 := hB4.ext e66
    replace hl17 := hl17.ext e66
    replace hor := hor.ext e66
    replace hq1 := hq1.ext e66
    replace hx0 := hx0.trans e66
    refine Sq.app sl85 hq1 (by omega) (Own.row (ho68 _ (Nat.le_refl _))) (one_cons (Rows.one (OwnRows.rows hor)) one_nil) (by rw [hq2, hm3]; simp only [List.length_map, List.length_range, List.length_cons, List.length_nil]; omega) .plain rfl rfl rfl rfl (fun v69 w70 ho72 g71 => ?_)
    have hs74 := World.grownBy.size g71
    have ho3 := hq3 _ _ _ _ _ hx0 ((hU.ext hx0).up (Below.size hx0)) (by omega) ho72 g71
    replace E := E.owned hq1 g71 (by omega)
    replace hB4 := hB4.owned hq1 g71 (by decide)
    replace hl17 := hl17.owned hq1 g71 (by decide)
    refine Sq.assign .plain rfl rfl ?_
    refine Sq.nil ?_
    refine Eq.end ?_
    refine Eq.next ?_
    refine Cq.region ?_
    refine Sq.move .plain rfl rfl ?_
    refine Sq.add .plain rfl rfl rfl (by omega) ?_
    refine Sq.assign .plain rfl rfl ?_
    refine Sq.nil ?_
    have e1 := toNat_succ hi.1
    have em : m.toNat = (letters lt).length := by omega
    refine Eq.round _ _ ⟨i + 1, _, rfl, by omega, by rw [e1, List.range_succ, List.map_append, List.map_cons, List.map_nil, Int.toNat_of_nonneg hi.1]; rw [List.take_of_length_le (by omega)] at ho3; exact ho3, E, hB4, hl17, rfl⟩ (by omega) (.cons rfl (.cons rfl (.cons rfl (.cons rfl (.cons rfl (.cons rfl (.nil)))))))
  refine Sq.nil ?_
  refine Eq.next ?_
  refine Cq.els rfl ?_
  refine Cq.exit ?_
  refine Eq.past ?_
  refine Eq.past ?_
  refine Eq.hit ?_
  refine Eq.next ?_
  refine Cq.seq ?_
  refine Cq.region ?_
  refine Sq.move .plain rfl rfl ?_
  refine Sq.assign .plain rfl rfl ?_
  refine Sq.nil ?_
  refine Eq.next ?_
  refine Cq.ret ?_
  refine Eq.ret1 rfl rfl ?_
  have e3 : i.toNat = total aa := by omega
  rw [e3] at ho3
  exact ⟨Own3.read ho3, E⟩
end Go.Proofs.Ytdkdpmmfebdeaaa
set_option linter.unusedSimpArgs false
set_option linter.unusedVariables false
namespace Go.Proofs.Ytdkdpmmfebdeaaa
open Go.RowKit
set_option maxHeartbeats 1000000 in
set_option maxRecDepth 100000 in
theorem l4First_c (w0 : World) (aa : List A) (av sv : Value) (ss : List Int) (lt kd gl : Int) (hN : NetA w0 27 52 3 4 av aa) (hS : Ints w0 3 sv ss) (hok : NetOk aa) (hst : StOk (szs aa) ss) (hsl : ss.length = aa.length) (hk : KindOk kd aa) (hal : 0 ≤ lt ∧ lt ≤ 63) : Ret Try.prog 60 #[Value.agg #[Value.slice none 0 0, av, sv, Value.int .i64 lt, Value.int .i64 kd, Value.int .i64 gl]] w0 (fun v w => v = resW (firstOf (fN aa) (encTo (szs aa) ss (szs aa).length) (letters lt) (fun q => foundN kd gl aa (decL (szs aa) q))) ∧ Ext w0 w) := by
  have E := Ext.refl w0
  have hlen := hok.1
  have hzl := szs_length aa
  have htb := total_bd hok
  have hlet := letters_len6 lt
  have hso := szs_ok hok
  have hfN : ∀ q l, l ∈ (letters lt) → 0 ≤ fN aa q l ∧ fN aa q l < (((total aa) : Nat) : Int) := fun q l hl => fN_in hok q ⟨(mem_letters hl).1, (mem_letters hl).2.1⟩
  have hS0b : 0 ≤ (encTo (szs aa) ss (szs aa).length) ∧ (encTo (szs aa) ss (szs aa).length) < (((total aa) : Nat) : Int) := by have h := enc_lt hso hst (by omega); rw [htb.2.2]; exact h
  refine Ret.of (args := [Value.agg #[Value.slice none 0 0, av, sv, Value.int .i64 lt, Value.int .i64 kd, Value.int .i64 gl]]) Try.func60 rfl rfl rfl ?_
  rintro _ rfl
  show Cq _ _ _ _ [(0, Value.agg #[Value.slice none 0 0, av, sv, Value.int .i64 lt, Value.int .i64 kd, Value.int .i64 gl])] _
  refine Cq.seq ?_
  refine Cq.region ?_
  refine Sq.box .plain rfl rfl (fun b1 w2 e3 hB4 hlo5 => ?_)
  have hd6 := Nat.le_trans (Below.size E) hlo5
  have hs7 := Below.size e3
  replace E := E.trans e3
  refine Sq.assign .plain rfl rfl ?_
  refine Sq.assign .plain rfl rfl ?_
  refine Sq.nil ?_
  refine Eq.next ?_
  refine Cq.seq ?_
  refine Cq.region ?_
  refine Sq.loadAgg agg70 .plain rfl rfl hB4 rfl ?_
  have hd12 := hB4.lt
  refine Sq.call fn87 .plain rfl rfl (l4Sizes_c _ aa av sv ss lt kd gl (hN.ext E) (hS.ext E) (by omega)) ?_
  rintro v8 w9 ⟨ho11, e10⟩
  have hs13 := Below.size E
  have hs14 := Below.size e10
  replace E := E.trans e10
  replace hB4 := hB4.ext e10
  refine Sq.assign .plain rfl rfl ?_
  have fzS := Ext.refl w9
  have hs15 := Below.size E
  replace ho11 := Own.row ho11
  refine Sq.nil ?_
  refine Eq.next ?_
  refine Cq.seq ?_
  refine Cq.region ?_
  refine Sq.assign .plain rfl rfl ?_
  refine Sq.nil ?_
  refine Eq.next ?_
  refine Cq.seq ?_
  refine Cq.seq ?_
  refine Cq.region ?_
  refine Sq.assign .plain rfl rfl ?_
  refine Sq.nil ?_
  refine Eq.next ?_
  refine Cq.block ?_
  refine Cq.loop (fun nn w ls => ∃ (k : Int), ls = [(1, Value.pointer (some ⟨b1, 0, none⟩)), (4, v8), (5, Value.int .i64 ((prodTo (szs aa) k.toNat))), (6, Value.int .i64 k)] ∧ (0 ≤ k ∧ k ≤ (szs aa).length) ∧ Ext w0 w ∧ Ext w9 w ∧ Blk w b1 70 [Value.slice none 0 0, av, sv, Value.int .i64 lt, Value.int .i64 kd, Value.int .i64 gl] ∧ nn = (((szs aa).length : Int) - k).toNat) _ _ ⟨0, rfl, by omega, E, fzS, hB4, rfl⟩ (.cons rfl (.cons rfl (.cons rfl (.cons rfl (.nil))))) ?_
  rintro nn wl1 ls ⟨k, rfl, hk1, E, fzS, hB4, rfl⟩
  have hs16 := Below.size E
  have hs17 := Below.size fzS
  refine Cq.seq ?_
  refine Cq.seq ?_
  refine Cq.region ?_
  refine Sq.move .plain rfl rfl ?_
  refine Sq.move .plain rfl rfl ?_
  refine Sq.lenInts (ho11.ext fzS) .plain rfl und52 rfl ?_
  refine Sq.lss .plain rfl rfl rfl ?_
  refine Sq.part (fun c18 => ?_) (fun c18 => ?_)
  · refine Sq.nil ?_
    refine Eq.next ?_
    refine Cq.thn rfl ?_
    refine Cq.skip ?_
    refine Eq.next ?_
    refine Cq.seq ?_
    refine Cq.block ?_
    refine Cq.region ?_
    refine Sq.move .plain rfl rfl ?_
    refine Sq.move .plain rfl rfl ?_
    refine Sq.move .plain rfl rfl ?_
    refine Sq.idxInts sl52 one3 (ho11.ext fzS) .plain rfl rfl rfl .plain rfl rfl (by omega) (by omega) ?_
    refine Sq.mul .plain rfl rfl rfl (by have := prodTo_bd hso (k := k.toNat) (by omega); omega) ?_
    refine Sq.assign .plain rfl rfl ?_
    refine Sq.nil ?_
    refine Eq.end ?_
    refine Eq.next ?_
    refine Cq.region ?_
    refine Sq.move .plain rfl rfl ?_
    refine Sq.add .plain rfl rfl rfl (by omega) ?_
    refine Sq.assign .plain rfl rfl ?_
    refine Sq.nil ?_
    have e1 := toNat_succ hk1.1
    rw [show prodTo (szs aa) k.toNat * (szs aa).getD k.toNat 0 = prodTo (szs aa) (k + 1).toNat by rw [e1, prodTo_succ (by omega)]]
    refine Eq.round _ _ ⟨k + 1, rfl, by omega, E, fzS, hB4, rfl⟩ (by omega) (.cons rfl (.cons rfl (.cons rfl (.cons rfl (.nil)))))
  refine Sq.nil ?_
  refine Eq.next ?_
  refine Cq.els rfl ?_
  refine Cq.exit ?_
  refine Eq.past ?_
  refine Eq.past ?_
  refine Eq.hit ?_
  refine Eq.next ?_
  refine Cq.seq ?_
  refine Cq.region ?_
  have htot : prodTo (szs aa) k.toNat = (((total aa) : Nat) : Int) := by rw [prodTo_all (by omega)]; exact htb.2.2.symm
  rw [htot]
  refine Sq.loadAgg agg70 .plain rfl rfl hB4 rfl ?_
  refine Sq.move .plain rfl rfl ?_
  refine Sq.move .plain rfl rfl ?_
  refine Sq.call fn88 .plain rfl rfl (l4Moves_c _ aa av sv ss lt kd gl (hN.ext E) (hS.ext E) _ _ (ho11.ext fzS) hok rfl hal) ?_
  rintro vM w19 ⟨hmv, e20⟩
  have hs21 := Below.size e20
  replace E := E.trans e20
  replace fzS := fzS.trans e20
  replace hB4 := hB4.ext e20
  have fzM := Ext.refl w19
  have hs22 := Below.size E
  have hs23 := Below.size fzS
  refine Sq.assign .plain rfl rfl ?_
  refine Sq.nil ?_
  refine Eq.next ?_
  refine Cq.seq ?_
  refine Cq.region ?_
  refine Sq.move .plain rfl rfl ?_
  refine Sq.make sl52 .plain rfl rfl rfl rfl (by omega) (fun b24 w25 e26 hlo27 hB28 => ?_)
  replace hB28 := hB28 w19.heap.size (Nat.le_refl _)
  have hs29 := Below.size e26
  replace E := E.trans e26
  replace fzS := fzS.trans e26
  replace hB4 := hB4.ext e26
  replace fzM := fzM.trans e26
  refine Sq.assign .plain rfl rfl ?_
  refine Sq.nil ?_
  refine Eq.next ?_
  refine Cq.seq ?_
  refine Cq.seq ?_
  refine Cq.region ?_
  refine Sq.assign .plain rfl rfl ?_
  refine Sq.nil ?_
  refine Eq.next ?_
  refine Cq.block ?_
  refine Cq.loop (fun nn w ls => ∃ (i : Int), ls = [(1, Value.pointer (some ⟨b1, 0, none⟩)), (4, v8), (5, Value.int .i64 ((((total aa) : Nat) : Int))), (7, vM), (8, Value.slice (some ⟨b24, 0, none⟩) ((((total aa) : Nat) : Int)).toNat ((((total aa) : Nat) : Int)).toNat), (9, Value.int .i64 i)] ∧ (0 ≤ i ∧ i ≤ (((total aa) : Nat) : Int)) ∧ Own w w19.heap.size 3 (Value.slice (some ⟨b24, 0, none⟩) ((((total aa) : Nat) : Int)).toNat ((((total aa) : Nat) : Int)).toNat) ((dsInit (fun q => foundN kd gl aa (decL (szs aa) q)) (total aa) i.toNat).map (Value.int .i64)) ∧ Ext w0 w ∧ Ext w9 w ∧ Ext w19 w ∧ Blk w b1 70 [Value.slice none 0 0, av, sv, Value.int .i64 lt, Value.int .i64 kd, Value.int .i64 gl] ∧ nn = ((((total aa) : Nat) : Int) - i).toNat) _ _ ⟨0, rfl, by omega, by rw [show (0 : Int).toNat = 0 from rfl, dsInit_zero, List.map_replicate]; exact hB28, E, fzS, fzM, hB4, rfl⟩ (.cons rfl (.cons rfl (.cons rfl (.cons rfl (.cons rfl (.cons rfl (.nil))))))) ?_
  rintro nn wl2 ls ⟨i, rfl, hi, ho, E, fzS, fzM, hB4, rfl⟩
  have hs30 := Below.size E
  have hs31 := Below.size fzS
  have hs32 := Below.size fzM
  have hil := dsInit_length (G := (fun q => foundN kd gl aa (decL (szs aa) q))) (n := (total aa)) i.toNat
  refine Cq.seq ?_
  refine Cq.seq ?_
  refine Cq.region ?_
  refine Sq.move .plain rfl rfl ?_
  refine Sq.move .plain rfl rfl ?_
  refine Sq.lss .plain rfl rfl rfl ?_
  refine Sq.part (fun c33 => ?_) (fun c33 => ?_)
  · refine Sq.nil ?_
    refine Eq.next ?_
    refine Cq.thn rfl ?_
    refine Cq.skip ?_
    refine Eq.next ?_
    refine Cq.seq ?_
    refine Cq.block ?_
    refine Cq.seq ?_
    refine Cq.region ?_
    refine Sq.move .plain rfl rfl ?_
    refine Sq.move .plain rfl rfl ?_
    obtain ⟨p34, hp35o⟩ := Own.at ho (i := i) (by omega) (by first | (simp only [List.length_map]; omega) | (simp; omega))
    refine Sq.atO sl52 hp35o .plain rfl rfl rfl ?_
    refine Sq.storeO one3 ho hp35o .plain rfl rfl rfl (fun w36 g37 ho38 => ?_)
    have hs39 := World.grownBy.size g37
    replace E := E.owned ho g37 (by omega)
    replace fzS := fzS.owned ho g37 (by omega)
    replace fzM := fzM.owned ho g37 (by omega)
    replace hB4 := hB4.owned ho g37 (by decide)
    replace ho := ho38
    refine Sq.nil ?_
    refine Eq.next ?_
    refine Cq.seq ?_
    obtain ⟨pM, rM, hpM, hrM⟩ := Read3.at hmv (i := i) (by omega) (by rw [movesN, List.length_map, List.length_range]; omega)
    replace hpM := hpM.ext fzM
    refine Cq.drawS 9 (fun w' => Blk w' b1 70 [Value.slice none 0 0, av, sv, Value.int .i64 lt, Value.int .i64 kd, Value.int .i64 gl] ∧ At w' 22 vM i pM rM) mixed (⟨hB4, hpM⟩) (fun w40 e41 hS => ?_)
    clear hS
    have hs42 := Below.size e41
    replace E := E.trans e41
    replace fzS := fzS.trans e41
    replace fzM := fzM.trans e41
    replace hB4 := hB4.ext e41
    replace ho := ho.ext e41
    replace hpM := hpM.ext e41
    refine Gq.st 0 rfl (by kernel_rfl) rfl .plain rfl (fun _ _ _ h => h) ⟨hB4, hpM⟩ (fun w' x => Still.loadAgg agg70 rfl x.1 rfl) ?_
    refine Gq.st 1 rfl (by kernel_rfl) rfl .plain rfl (fun _ _ _ h => h) ⟨hB4, hpM⟩ (fun w' x => Still.move rfl) ?_
    refine Gq.st 2 rfl (by kernel_rfl) rfl .plain rfl (fun _ _ _ h => h) ⟨hB4, hpM⟩ (fun w' x => Still.move rfl) ?_
    refine Gq.st 4 rfl (by kernel_rfl) rfl .plain rfl (fun _ _ _ h => h) ⟨hB4, hpM⟩ (fun w' x => Still.move rfl) ?_
    refine Gq.st 5 rfl (by kernel_rfl) rfl .plain rfl (fun _ _ _ h => h) ⟨hB4, hpM⟩ (fun w' x => Still.move rfl) ?_
    refine Gq.st 6 rfl (by kernel_rfl) rfl .plain rfl (fun _ _ _ h => h) ⟨hB4, hpM⟩ (fun w' x => Still.at' sl85 hpM rfl rfl) ?_
    refine Gq.st 7 rfl (by kernel_rfl) rfl .plain rfl (fun _ _ _ h => h) ⟨hB4, hpM⟩ (fun w' x => Still.loadA one22 rfl (x.2).1) ?_
    refine Gq.one 3 rfl (by kernel_rfl) ?_
    have hd47 := hB4.lt
    refine Sq.call fn90 .plain rfl rfl (l4Decode_c _ (szs aa) _ (ho11.ext fzS) i hso (by omega)) ?_
    rintro v43 w44 ⟨ho46, e45⟩
    have hs48 := Below.size E
    have hs49 := Below.size fzS
    have hs50 := Below.size fzM
    have hs51 := Below.size e45
    replace E := E.trans e45
    replace fzS := fzS.trans e45
    replace fzM := fzM.trans e45
    replace hB4 := hB4.ext e45
    replace ho := ho.ext e45
    replace hpM := hpM.ext e45
    refine Sq.nil ?_
    refine Eq.goes (fun _ => ⟨hB4, hpM⟩) ?_
    refine Gq.one 8 rfl (by kernel_rfl) ?_
    have hd55 := hB4.lt
    refine Sq.call fn89 .plain rfl rfl (l4Found_c _ aa av sv ss lt kd gl (hN.ext E) (hS.ext E) _ ((decL (szs aa) i)) (Own.row ho46) hok (decL_ok hso _) (by rw [decL_length, szs_length]) rM hk) ?_
    rintro _ w53 ⟨rfl, e54⟩
    have hs56 := Below.size E
    have hs57 := Below.size fzS
    have hs58 := Below.size fzM
    have hs59 := Below.size e54
    replace E := E.trans e54
    replace fzS := fzS.trans e54
    replace fzM := fzM.trans e54
    replace hB4 := hB4.ext e54
    replace ho := ho.ext e54
    replace hpM := hpM.ext e54
    refine Sq.partB (fun hfo => ?_) (fun hfo => ?_)
    · refine Sq.nil ?_
      refine Eq.goes (fun _ => ⟨hB4, hpM⟩) ?_
      refine Gq.done (by kernel_rfl) ?_
      refine Eq.next ?_
      refine Cq.thn rfl ?_
      refine Cq.region ?_
      refine Sq.move .plain rfl rfl ?_
      refine Sq.move .plain rfl rfl ?_
      obtain ⟨p60, hp61o⟩ := Own.at ho (i := i) (by omega) (by first | (simp only [List.length_map]; omega) | (simp; omega))
      refine Sq.atO sl52 hp61o .plain rfl rfl rfl ?_
      refine Sq.storeO one3 ho hp61o .plain rfl rfl rfl (fun w62 g63 ho64 => ?_)
      have hs65 := World.grownBy.size g63
      replace E := E.owned ho g63 (by omega)
      replace fzS := fzS.owned ho g63 (by omega)
      replace fzM := fzM.owned ho g63 (by omega)
      replace hB4 := hB4.owned ho g63 (by decide)
      replace ho := ho64
      refine Sq.nil ?_
      refine Eq.end ?_
      refine Eq.next ?_
      refine Cq.region ?_
      refine Sq.move .plain rfl rfl ?_
      refine Sq.add .plain rfl rfl rfl (by omega) ?_
      refine Sq.assign .plain rfl rfl ?_
      refine Sq.nil ?_
      have e1 := toNat_succ hi.1
      refine Eq.round _ _ ⟨i + 1, rfl, by omega, by rw [e1, ← dsInit_T (v := i) (by omega) (Int.toNat_of_nonneg hi.1) hfo]; exact ho, E, fzS, fzM, hB4, rfl⟩ (by omega) (.cons rfl (.cons rfl (.cons rfl (.cons rfl (.cons rfl (.cons rfl (.nil)))))))
    refine Sq.nil ?_
    refine Eq.goes (fun _ => ⟨hB4, hpM⟩) ?_
    refine Gq.done (by kernel_rfl) ?_
    refine Eq.next ?_
    refine Cq.els rfl ?_
    refine Cq.skip ?_
    refine Eq.end ?_
    refine Eq.next ?_
    refine Cq.region ?_
    refine Sq.move .plain rfl rfl ?_
    refine Sq.add .plain rfl rfl rfl (by omega) ?_
    refine Sq.assign .plain rfl rfl ?_
    refine Sq.nil ?_
    have e1 := toNat_succ hi.1
    refine Eq.round _ _ ⟨i + 1, rfl, by omega, by rw [e1, ← dsInit_F (v := i) (by omega) (Int.toNat_of_nonneg hi.1) hfo]; exact ho, E, fzS, fzM, hB4, rfl⟩ (by omega) (.cons rfl (.cons rfl (.cons rfl (.cons rfl (.cons rfl (.cons rfl (.nil)))))))
  refine Sq.nil ?_
  refine Eq.next ?_
  refine Cq.els rfl ?_
  refine Cq.exit ?_
  refine Eq.past ?_
  refine Eq.past ?_
  refine Eq.hit ?_
  refine Eq.next ?_
  refine Cq.seq ?_
  refine Cq.region ?_
  rw [dsInit_all (f := (fN aa)) (L := (letters lt)) (by omega)] at ho
  refine Sq.move .plain rfl rfl ?_
  refine Sq.move .plain rfl rfl ?_
  refine Sq.call fn91 .plain rfl rfl (l4Dist_c _ _ _ _ _ (fN aa) (letters lt) (fun q => foundN kd gl aa (decL (szs aa) q)) (total aa) fzM hmv (by omega) ho hfN (by omega) (by omega)) ?_
  rintro _ w66 ⟨rfl, ⟨dd, hdd, ho68, hstab⟩, g67⟩
  have hs69 := World.grownBy.size g67
  replace E := E.owned ho g67 (by omega)
  replace fzS := fzS.owned ho g67 (by omega)
  replace fzM := fzM.owned ho g67 (by omega)
  replace hB4 := hB4.owned ho g67 (by decide)
  replace ho := ho68
  refine Sq.nil ?_
  refine Eq.next ?_
  refine Cq.seq ?_
  refine Cq.region ?_
  refine Sq.move .plain rfl rfl ?_
  refine Sq.fieldAddr fld70_2 .plain rfl rfl ?_
  refine Sq.loadB one52 .plain rfl rfl hB4 rfl ?_
  have hd73 := hB4.lt
  refine Sq.call fn92 .plain rfl rfl (l4Encode_c _ (szs aa) ss _ _ (ho11.ext fzS) (hS.ext E) hso hst (by omega)) ?_
  rintro _ w71 ⟨rfl, e72⟩
  have hs74 := Below.size E
  have hs75 := Below.size fzS
  have hs76 := Below.size fzM
  have hs77 := Below.size e72
  replace E := E.trans e72
  replace fzS := fzS.trans e72
  replace fzM := fzM.trans e72
  replace hB4 := hB4.ext e72
  replace ho := ho.ext e72
  refine Sq.lit sl52 rfl rfl .plain rfl rfl (one_cons rfl one_nil) (fun b78 w79 e80 hlo81 ho82 _ => ?_)
  replace ho82 := ho82 w71.heap.size (Nat.le_refl _)
  have hs84 := Below.size e80
  replace E := E.trans e80
  replace fzS := fzS.trans e80
  replace fzM := fzM.trans e80
  replace hB4 := hB4.ext e80
  replace ho := ho.ext e80
  refine Sq.assign .plain rfl rfl ?_
  refine Sq.nil ?_
  refine Eq.next ?_
  refine Cq.seq ?_
  refine Cq.region ?_
  refine Sq.fieldAddr fld70_3 .plain rfl rfl ?_
  refine Sq.loadB one3 .plain rfl rfl hB4 rfl ?_
  have hd89 := hB4.lt
  refine Sq.call fn52 .plain rfl rfl (l1Letters_c lt (by omega) _) ?_
  rintro v85 w86 ⟨hl88, e87⟩
  have hs90 := Below.size E
  have hs91 := Below.size fzS
  have hs92 := Below.size fzM
  have hs93 := Below.size e87
  replace E := E.trans e87
  replace fzS := fzS.trans e87
  replace fzM := fzM.trans e87
  replace ho := ho.ext e87
  replace ho82 := ho82.ext e87
  refine Sq.assign .plain rfl rfl ?_
  refine Sq.nil ?_
  refine Eq.next ?_
  refine Cq.seq ?_
  refine Cq.region ?_
  refine Sq.assign .plain rfl rfl ?_
  refine Sq.nil ?_
  refine Eq.next ?_
  refine Cq.seq ?_
  refine Cq.region ?_
  refine Sq.move .plain rfl rfl ?_
  refine Sq.move .plain rfl rfl ?_
  replace ho82 : Own _ _ _ _ (([(encTo (szs aa) ss (szs aa).length)] : List Int).map (Value.int .i64)) := ho82
  refine Sq.idxInts sl52 one3 (Own.row ho82) .plain rfl rfl rfl .plain rfl rfl (by omega) (by simp only [List.length_singleton]; omega) ?_
  rw [show ([(encTo (szs aa) ss (szs aa).length)] : List Int).getD (0 : Int).toNat 0 = (encTo (szs aa) ss (szs aa).length) from rfl]
  have hdl := dsOf_length (f := (fN aa)) (L := (letters lt)) (G := (fun q => foundN kd gl aa (decL (szs aa) q))) (n := (total aa)) dd
  refine Sq.idxInts sl52 one3 (Own.row ho) .plain rfl rfl rfl .plain rfl rfl (by omega) (by omega) ?_
  rw [dsOf_get hS0b]
  refine Sq.assign .plain rfl rfl ?_
  refine Sq.nil ?_
  refine Eq.next ?_
  refine Cq.seq ?_
  refine Cq.block ?_
  have hdle := disTo_le (f := (fN aa)) (L := (letters lt)) (G := (fun q => foundN kd gl aa (decL (szs aa) q))) (d := dd) (q := (encTo (szs aa) ss (szs aa).length))
  refine Cq.loop (fun nn w ls => ∃ (u : List Int), ∃ (q : Int), ∃ (dI : Int), ∃ (av2 : Value), ls = [(7, vM), (8, Value.slice (some ⟨b24, 0, none⟩) ((((total aa) : Nat) : Int)).toNat ((((total aa) : Nat) : Int)).toNat), (10, av2), (11, v85), (12, Value.string (txt u)), (13, Value.int .i64 dI)] ∧ (0 ≤ q ∧ q < (((total aa) : Nat) : Int)) ∧ dI = (disTo (fN aa) (letters lt) (fun q => foundN kd gl aa (decL (szs aa) q)) dd) q ∧ (0 ≤ ((disTo (fN aa) (letters lt) (fun q => foundN kd gl aa (decL (szs aa) q)) dd) (encTo (szs aa) ss (szs aa).length)) → 0 ≤ dI ∧ gre (fN aa) (letters lt) (disTo (fN aa) (letters lt) (fun q => foundN kd gl aa (decL (szs aa) q)) dd) ((disTo (fN aa) (letters lt) (fun q => foundN kd gl aa (decL (szs aa) q)) dd) (encTo (szs aa) ss (szs aa).length)).toNat (encTo (szs aa) ss (szs aa).length) = u ++ gre (fN aa) (letters lt) (disTo (fN aa) (letters lt) (fun q => foundN kd gl aa (decL (szs aa) q)) dd) dI.toNat q) ∧ (((disTo (fN aa) (letters lt) (fun q => foundN kd gl aa (decL (szs aa) q)) dd) (encTo (szs aa) ss (szs aa).length)) < 0 → dI < 0 ∧ u = []) ∧ ((u.length : Int) + dI ≤ 200) ∧ Ints w 3 av2 [q] ∧ Ext w0 w ∧ Ext w9 w ∧ Ext w19 w ∧ Own w w19.heap.size 3 (Value.slice (some ⟨b24, 0, none⟩) ((((total aa) : Nat) : Int)).toNat ((((total aa) : Nat) : Int)).toNat) ((dsOf (fN aa) (letters lt) (fun q => foundN kd gl aa (decL (szs aa) q)) (total aa) dd).map (Value.int .i64)) ∧ Own w w79.heap.size 3 v85 ((letters lt).map (Value.int .i64)) ∧ nn = dI.toNat) _ _ ⟨[], (encTo (szs aa) ss (szs aa).length), _, _, rfl, hS0b, rfl, fun h => ⟨h, rfl⟩, fun h => ⟨h, rfl⟩, by show ((0 : Nat) : Int) + _ ≤ 200; omega, (Own.row ho82), E, fzS, fzM, ho, hl88, rfl⟩ (.cons rfl (.cons rfl (.cons rfl (.cons rfl (.cons rfl (.cons rfl (.nil))))))) ?_
  rintro nn wl3 ls ⟨u, q, dI, av2, rfl, hq, hdq, hpos, hneg, hsz, hav, E, fzS, fzM, ho, hl88, rfl⟩
  have hs94 := Below.size E
  have hs95 := Below.size fzS
  have hs96 := Below.size fzM
  refine Cq.seq ?_
  refine Cq.seq ?_
  refine Cq.region ?_
  refine Sq.move .plain rfl rfl ?_
  refine Sq.gtr .plain rfl rfl rfl ?_
  refine Sq.part (fun c97 => ?_) (fun c97 => ?_)
  · refine Sq.nil ?_
    refine Eq.next ?_
    refine Cq.thn rfl ?_
    refine Cq.skip ?_
    refine Eq.next ?_
    refine Cq.seq ?_
    refine Cq.block ?_
    refine Cq.seq ?_
    refine Cq.region ?_
    refine Sq.assign .plain rfl rfl ?_
    refine Sq.nil ?_
    refine Eq.next ?_
    refine Cq.seq ?_
    refine Cq.region ?_
    have hL0 : 0 < (letters lt).length := next_lt (k := 0) hdq.symm (by omega) (fun j hj => absurd hj (Nat.not_lt_zero _))
    refine Sq.move .plain rfl rfl ?_
    refine Sq.move .plain rfl rfl ?_
    refine Sq.move .plain rfl rfl ?_
    refine Sq.move .plain rfl rfl ?_
    refine Sq.move .plain rfl rfl ?_
    refine Sq.sub .plain rfl rfl rfl (by omega) ?_
    have hkk : 0 ≤ (0 : Int) ∧ (0 : Int).toNat < (letters lt).length := by omega
    have hfx := hfN q ((letters lt).getD (0 : Int).toNat 0) (getD_mem (by omega))
    refine Sq.call fn93 .plain rfl rfl (l4Closer_c _ _ _ _ (movesN aa (letters lt)) (dsOf (fN aa) (letters lt) (fun q => foundN kd gl aa (decL (szs aa) q)) (total aa) dd) q (0 : Int) (dI - 1) (fN aa q ((letters lt).getD (0 : Int).toNat 0)) (hmv.ext fzM) (Own.row ho) hav (by rw [movesN, List.length_map, List.length_range]; exact hq) (by rw [moves_at hq, List.length_map]; omega) (by rw [moves_at hq]; exact row_get (by omega)) (by rw [dsOf_length]; exact hfx)) ?_
    rintro v100 w98 ⟨hnv101, e99⟩
    rw [dsOf_get hfx] at hnv101
    have hs102 := Below.size e99
    replace E := E.trans e99
    replace fzS := fzS.trans e99
    replace fzM := fzM.trans e99
    replace ho := ho.ext e99
    replace hl88 := hl88.ext e99
    replace hav := hav.ext e99
    have hs103 := Below.size E
    have hs104 := Below.size fzS
    have hs105 := Below.size fzM
    refine Sq.assign .plain rfl rfl ?_
    refine Sq.nil ?_
    refine Eq.next ?_
    refine Cq.seq ?_
    refine Cq.block ?_
    refine Cq.loop (fun nn w ls => ∃ (k : Int), ∃ (nv : Value), ls = [(7, vM), (8, Value.slice (some ⟨b24, 0, none⟩) ((((total aa) : Nat) : Int)).toNat ((((total aa) : Nat) : Int)).toNat), (10, av2), (11, v85), (12, Value.string (txt u)), (13, Value.int .i64 dI), (14, Value.int .i64 k), (15, nv)] ∧ (0 ≤ k ∧ k < ((letters lt).length : Int)) ∧ (∀ j : Nat, j < k.toNat → ¬ (disTo (fN aa) (letters lt) (fun q => foundN kd gl aa (decL (szs aa) q)) dd) (fN aa q ((letters lt).getD j 0)) = dI - 1) ∧ Ints w 3 nv (if (disTo (fN aa) (letters lt) (fun q => foundN kd gl aa (decL (szs aa) q)) dd) (fN aa q ((letters lt).getD k.toNat 0)) = dI - 1 then [(fN aa q ((letters lt).getD k.toNat 0))] else []) ∧ Ext w0 w ∧ Ext w9 w ∧ Ext w19 w ∧ Own w w19.heap.size 3 (Value.slice (some ⟨b24, 0, none⟩) ((((total aa) : Nat) : Int)).toNat ((((total aa) : Nat) : Int)).toNat) ((dsOf (fN aa) (letters lt) (fun q => foundN kd gl aa (decL (szs aa) q)) (total aa) dd).map (Value.int .i64)) ∧ Ints w 3 av2 [q] ∧ Own w w79.heap.size 3 v85 ((letters lt).map (Value.int .i64)) ∧ nn = (((letters lt).length : Int) - k).toNat) _ _ ⟨0, _, rfl, by omega, fun j hj => absurd hj (Nat.not_lt_zero _), (Own.row hnv101), E, fzS, fzM, ho, hav, hl88, rfl⟩ (.cons rfl (.cons rfl (.cons rfl (.cons rfl (.cons rfl (.cons rfl (.cons rfl (.cons rfl (.nil))))))))) ?_
    rintro nn wl4 ls ⟨k, nv, rfl, hk4, hno, hnv, E, fzS, fzM, ho, hav, hl88, rfl⟩
    have hs106 := Below.size E
    have hs107 := Below.size fzS
    have hs108 := Below.size fzM
    refine Cq.seq ?_
    refine Cq.seq ?_
    refine Cq.region ?_
    refine Sq.move .plain rfl rfl ?_
    refine Sq.lenInts hnv .plain rfl und52 rfl ?_
    refine Sq.eql .plain rfl rfl rfl ?_
    refine Sq.part (fun hem => ?_) (fun hem => ?_)
    · refine Sq.nil ?_
      refine Eq.next ?_
      refine Cq.thn rfl ?_
      refine Cq.skip ?_
      refine Eq.next ?_
      refine Cq.block ?_
      refine Cq.seq ?_
      refine Cq.region ?_
      have hne : ¬ (disTo (fN aa) (letters lt) (fun q => foundN kd gl aa (decL (szs aa) q)) dd) (fN aa q ((letters lt).getD k.toNat 0)) = dI - 1 := fun h => by rw [if_pos h] at hem; exact absurd hem (by simp)
      have hno' : ∀ j : Nat, j < k.toNat + 1 → ¬ (disTo (fN aa) (letters lt) (fun q => foundN kd gl aa (decL (szs aa) q)) dd) (fN aa q ((letters lt).getD j 0)) = dI - 1 := fun j hj => (Nat.lt_or_ge j k.toNat).elim (hno j) (fun h => (show k.toNat = j by omega) ▸ hne)
      have hkl : k.toNat + 1 < (letters lt).length := next_lt hdq.symm (by omega) hno'
      refine Sq.move .plain rfl rfl ?_
      refine Sq.add .plain rfl rfl rfl (by omega) ?_
      refine Sq.assign .plain rfl rfl ?_
      refine Sq.nil ?_
      refine Eq.next ?_
      refine Cq.region ?_
      refine Sq.move .plain rfl rfl ?_
      refine Sq.move .plain rfl rfl ?_
      refine Sq.move .plain rfl rfl ?_
      refine Sq.move .plain rfl rfl ?_
      refine Sq.move .plain rfl rfl ?_
      refine Sq.sub .plain rfl rfl rfl (by omega) ?_
      have hkk : 0 ≤ (k + 1) ∧ (k + 1).toNat < (letters lt).length := by omega
      have hfx := hfN q ((letters lt).getD (k + 1).toNat 0) (getD_mem (by omega))
      refine Sq.call fn93 .plain rfl rfl (l4Closer_c _ _ _ _ (movesN aa (letters lt)) (dsOf (fN aa) (letters lt) (fun q => foundN kd gl aa (decL (szs aa) q)) (total aa) dd) q (k + 1) (dI - 1) (fN aa q ((letters lt).getD (k + 1).toNat 0)) (hmv.ext fzM) (Own.row ho) hav (by rw [movesN, List.length_map, List.length_range]; exact hq) (by rw [moves_at hq, List.length_map]; omega) (by rw [moves_at hq]; exact row_get (by omega)) (by rw [dsOf_length]; exact hfx)) ?_
      rintro v111 w109 ⟨hnv112, e110⟩
      rw [dsOf_get hfx] at hnv112
      have hs113 := Below.size e110
      replace E := E.trans e110
      replace fzS := fzS.trans e110
      replace fzM := fzM.trans e110
      replace ho := ho.ext e110
      replace hav := hav.ext e110
      replace hl88 := hl88.ext e110
      have hs114 := Below.size E
      have hs115 := Below.size fzS
      have hs116 := Below.size fzM
      refine Sq.assign .plain rfl rfl ?_
      refine Sq.nil ?_
      refine Eq.end ?_
      have e4 := toNat_succ hk4.1
      refine Eq.round _ _ ⟨k + 1, _, rfl, by omega, by rw [e4]; exact hno', (Own.row hnv112), E, fzS, fzM, ho, hav, hl88, rfl⟩ (by omega) (.cons rfl (.cons rfl (.cons rfl (.cons rfl (.cons rfl (.cons rfl (.cons rfl (.cons rfl (.nil)))))))))
    refine Sq.nil ?_
    refine Eq.next ?_
    refine Cq.els rfl ?_
    refine Cq.exit ?_
    refine Eq.past ?_
    refine Eq.past ?_
    refine Eq.hit ?_
    refine Eq.next ?_
    refine Cq.seq ?_
    refine Cq.region ?_
    have hyes : (disTo (fN aa) (letters lt) (fun q => foundN kd gl aa (decL (szs aa) q)) dd) (fN aa q ((letters lt).getD k.toNat 0)) = dI - 1 := Classical.byContradiction fun h => hem (by rw [if_neg h]; rfl)
    have hlx := letters_at lt (k := k.toNat) (by omega)
    rw [if_pos hyes] at hnv
    refine Sq.move .plain rfl rfl ?_
    refine Sq.assign .plain rfl rfl ?_
    refine Sq.nil ?_
    refine Eq.next ?_
    refine Cq.region ?_
    refine Sq.move .plain rfl rfl ?_
    refine Sq.move .plain rfl rfl ?_
    refine Sq.move .plain rfl rfl ?_
    refine Sq.idxInts sl52 one3 (Own.row hl88) .plain rfl rfl rfl .plain rfl rfl (by omega) (by omega) ?_
    refine Sq.call fn94 .plain rfl rfl (l1Text_c ((letters lt).getD k.toNat 0) (by omega) _) ?_
    rintro _ w118 ⟨rfl, e119⟩
    have hs120 := Below.size E
    have hs121 := Below.size fzS
    have hs122 := Below.size fzM
    have hs123 := Below.size e119
    replace E := E.trans e119
    replace fzS := fzS.trans e119
    replace fzM := fzM.trans e119
    replace ho := ho.ext e119
    replace hl88 := hl88.ext e119
    replace hnv := hnv.ext e119
    refine Sq.cat .plain rfl rfl rfl (by rw [txt_size, chr_size]; omega) ?_
    refine Sq.assign .plain rfl rfl ?_
    refine Sq.nil ?_
    refine Eq.end ?_
    refine Eq.next ?_
    refine Cq.region ?_
    refine Sq.move .plain rfl rfl ?_
    refine Sq.sub .plain rfl rfl rfl (by omega) ?_
    refine Sq.assign .plain rfl rfl ?_
    refine Sq.nil ?_
    rw [← txt_snoc]
    have gstep := gre_next (f := (fN aa)) (L := (letters lt)) (dis := (disTo (fN aa) (letters lt) (fun q => foundN kd gl aa (decL (szs aa) q)) dd)) (m := (dI - 1).toNat) (k := k.toNat) (q := q) (by omega) (fun j hj h => hno j hj (by omega)) (by omega)
    rw [show (dI - 1).toNat + 1 = dI.toNat by omega] at gstep
    refine Eq.round _ _ ⟨u ++ [((letters lt).getD k.toNat 0)], (fN aa q ((letters lt).getD k.toNat 0)), _, _, rfl, hfN _ _ (getD_mem (by omega)), hyes.symm, fun h => ⟨by omega, by rw [(hpos h).2, gstep, List.append_assoc]; rfl⟩, fun h => absurd (hneg h).1 (by omega), by rw [List.length_append]; simp only [List.length_singleton]; omega, hnv, E, fzS, fzM, ho, hl88, rfl⟩ (by omega) (.cons rfl (.cons rfl (.cons rfl (.cons rfl (.cons rfl (.cons rfl (.nil)))))))
  refine Sq.nil ?_
  refine Eq.next ?_
  refine Cq.els rfl ?_
  refine Cq.exit ?_
  refine Eq.past ?_
  refine Eq.past ?_
  refine Eq.hit ?_
  refine Eq.next ?_
  refine Cq.seq ?_
  refine Cq.region ?_
  refine Sq.move .plain rfl rfl ?_
  refine Sq.move .plain rfl rfl ?_
  refine Sq.eql .plain rfl rfl rfl ?_
  refine Sq.assign .plain rfl rfl ?_
  refine Sq.assign .plain rfl rfl ?_
  refine Sq.nil ?_
  refine Eq.next ?_
  refine Cq.ret ?_
  refine Eq.ret2 rfl rfl rfl ?_
  have hfst := first_gre (f := (fN aa)) (L := (letters lt)) (G := (fun q => foundN kd gl aa (decL (szs aa) q))) (s := (encTo (szs aa) ss (szs aa).length)) (letters_sorted lt) (Nat.le_trans (ord_range hfN hS0b) (by omega)) (P := fun q => 0 ≤ q ∧ q < (((total aa) : Nat) : Int)) (fun q _ l hl => hfN q l hl) hS0b hstab
  by_cases h0 : 0 ≤ ((disTo (fN aa) (letters lt) (fun q => foundN kd gl aa (decL (szs aa) q)) dd) (encTo (szs aa) ss (szs aa).length))
  · obtain ⟨h1, h2⟩ := hpos h0
    have h3 : dI = 0 := by omega
    rw [if_pos h0] at hfst
    rw [h3] at h2
    have h4 : gre (fN aa) (letters lt) (disTo (fN aa) (letters lt) (fun q => foundN kd gl aa (decL (szs aa) q)) dd) ((disTo (fN aa) (letters lt) (fun q => foundN kd gl aa (decL (szs aa) q)) dd) (encTo (szs aa) ss (szs aa).length)).toNat (encTo (szs aa) ss (szs aa).length) = u := by rw [h2]; exact List.append_nil u
    exact ⟨by rw [hfst, h4, decide_eq_true h3]; rfl, E⟩
  rw [if_neg h0] at hfst
  obtain ⟨h1, h2⟩ := hneg (by omega)
  subst h2
  exact ⟨by rw [hfst, decide_eq_false (by omega)]; rfl, E⟩
end Go.Proofs.Ytdkdpmmfebdeaaa
set_option linter.unusedSimpArgs false
set_option linter.unusedVariables false
namespace Go.Proofs.Ytdkdpmmfebdeaaa
open Go.RowKit
set_option maxRecDepth 100000 in
theorem sCmp_c (w0 : World) (a b : A) (nx ac nx' ac' : Value) (hnx : Rows w0 52 3 nx a.next) (hac : Bools w0 4 ac a.acc) (hnx' : Rows w0 52 3 nx' b.next) (hac' : Bools w0 4 ac' b.acc) : Ret Try.prog 67 #[Value.agg #[Value.int .i64 a.al, nx, ac], Value.agg #[Value.int .i64 b.al, nx', ac']] w0 (fun v w => v = .bool (cmp2 a b) ∧ Ext w0 w) := by
  have E := Ext.refl w0
  refine Ret.of (args := [Value.agg #[Value.int .i64 a.al, nx, ac], Value.agg #[Value.int .i64 b.al, nx', ac']]) Try.func67 rfl rfl rfl ?_
  rintro _ rfl
  show Cq _ _ _ _ [(0, Value.agg #[Value.int .i64 a.al, nx, ac]), (1, Value.agg #[Value.int .i64 b.al, nx', ac'])] _
  refine Cq.seq ?_
  refine Cq.region ?_
  refine Sq.box .plain rfl rfl (fun b1 w2 e3 hB4 hlo5 => ?_)
  have hd6 := Nat.le_trans (Below.size E) hlo5
  have hs7 := Below.size e3
  replace E := E.trans e3
  refine Sq.box .plain rfl rfl (fun b8 w9 e10 hB11 hlo12 => ?_)
  have hd13 := Nat.le_trans (Below.size E) hlo12
  have hd14 := Nat.lt_of_lt_of_le hB4.lt hlo12
  have hs15 := Below.size e10
  replace E := E.trans e10
  replace hB4 := hB4.ext e10
  refine Sq.assign .plain rfl rfl ?_
  refine Sq.nil ?_
  refine Eq.next ?_
  refine Cq.seq ?_
  refine Cq.region ?_
  refine Sq.loadAgg agg27 .plain rfl rfl hB4 rfl ?_
  have hd19 := hB4.lt
  have hd20 := hB11.lt
  refine Sq.call fn40 .plain rfl rfl (sValid_c _ a _ _ (hnx.ext E) (hac.ext E)) ?_
  rintro _ w17 ⟨rfl, e18⟩
  have hs21 := Below.size E
  have hs22 := Below.size e18
  replace E := E.trans e18
  replace hB4 := hB4.ext e18
  replace hB11 := hB11.ext e18
  refine Sq.partB (fun hva => ?_) (fun hva => ?_)
  · refine Sq.move .plain rfl rfl ?_
    refine Sq.loadAgg agg27 (.met rfl rfl rfl) rfl rfl hB11 rfl ?_
    have hd26 := hB4.lt
    have hd27 := hB11.lt
    refine Sq.call fn40 (.met rfl rfl rfl) rfl rfl (sValid_c _ b _ _ (hnx'.ext E) (hac'.ext E)) ?_
    rintro _ w24 ⟨rfl, e25⟩
    have hs28 := Below.size E
    have hs29 := Below.size e25
    replace E := E.trans e25
    replace hB4 := hB4.ext e25
    replace hB11 := hB11.ext e25
    refine Sq.partB (fun hvb => ?_) (fun hvb => ?_)
    · refine Sq.pickT .plain rfl rfl rfl ?_
      refine Sq.move .plain rfl rfl ?_
      refine Sq.fieldAddr fld27_0 (.met rfl rfl rfl) rfl rfl ?_
      refine Sq.loadB one3 (.met rfl rfl rfl) rfl rfl hB4 rfl ?_
      refine Sq.fieldAddr fld27_0 (.met rfl rfl rfl) rfl rfl ?_
      refine Sq.loadB one3 (.met rfl rfl rfl) rfl rfl hB11 rfl ?_
      refine Sq.eql (.met rfl rfl rfl) rfl rfl rfl ?_
      refine Sq.pickT .plain rfl rfl rfl ?_
      refine Sq.assign .plain rfl rfl ?_
      refine Sq.nil ?_
      refine Eq.next ?_
      refine Cq.ret ?_
      refine Eq.ret1 rfl rfl ?_
      exact ⟨by simp [cmp2, hva, hvb], E⟩
    refine Sq.pickT .plain rfl rfl rfl ?_
    refine Sq.move .plain rfl rfl ?_
    refine Sq.off rfl rfl rfl rfl rfl rfl ?_
    refine Sq.off rfl rfl rfl rfl rfl rfl ?_
    refine Sq.off rfl rfl rfl rfl rfl rfl ?_
    refine Sq.off rfl rfl rfl rfl rfl rfl ?_
    refine Sq.off rfl rfl rfl rfl rfl rfl ?_
    refine Sq.pickF .plain rfl rfl rfl ?_
    refine Sq.assign .plain rfl rfl ?_
    refine Sq.nil ?_
    refine Eq.next ?_
    refine Cq.ret ?_
    refine Eq.ret1 rfl rfl ?_
    exact ⟨by simp [cmp2, hva, hvb], E⟩
  refine Sq.move .plain rfl rfl ?_
  refine Sq.off rfl rfl rfl rfl rfl rfl ?_
  refine Sq.off rfl rfl rfl rfl rfl rfl ?_
  refine Sq.pickF .plain rfl rfl rfl ?_
  refine Sq.move .plain rfl rfl ?_
  refine Sq.off rfl rfl rfl rfl rfl rfl ?_
  refine Sq.off rfl rfl rfl rfl rfl rfl ?_
  refine Sq.off rfl rfl rfl rfl rfl rfl ?_
  refine Sq.off rfl rfl rfl rfl rfl rfl ?_
  refine Sq.off rfl rfl rfl rfl rfl rfl ?_
  refine Sq.pickF .plain rfl rfl rfl ?_
  refine Sq.assign .plain rfl rfl ?_
  refine Sq.nil ?_
  refine Eq.next ?_
  refine Cq.ret ?_
  refine Eq.ret1 rfl rfl ?_
  exact ⟨by simp [cmp2, hva], E⟩
set_option maxRecDepth 100000 in
theorem sfOut_c (w0 : World) (a b : A) (nx ac nx' ac' : Value) (hnx : Rows w0 52 3 nx a.next) (hac : Bools w0 4 ac a.acc) (hnx' : Rows w0 52 3 nx' b.next) (hac' : Bools w0 4 ac' b.acc) : Ret Try.prog 30 #[Value.agg #[Value.int .i64 a.al, nx, ac], Value.agg #[Value.int .i64 b.al, nx', ac']] w0 (fun v w => v = resW (fOut a b) ∧ Ext w0 w) := by
  have E := Ext.refl w0
  refine Ret.of (args := [Value.agg #[Value.int .i64 a.al, nx, ac], Value.agg #[Value.int .i64 b.al, nx', ac']]) Try.func30 rfl rfl rfl ?_
  rintro _ rfl
  show Cq _ _ _ _ [(0, Value.agg #[Value.int .i64 a.al, nx, ac]), (1, Value.agg #[Value.int .i64 b.al, nx', ac'])] _
  refine Cq.seq ?_
  refine Cq.region ?_
  refine Sq.box .plain rfl rfl (fun b1 w2 e3 hB4 hlo5 => ?_)
  have hd6 := Nat.le_trans (Below.size E) hlo5
  have hs7 := Below.size e3
  replace E := E.trans e3
  refine Sq.box .plain rfl rfl (fun b8 w9 e10 hB11 hlo12 => ?_)
  have hd13 := Nat.le_trans (Below.size E) hlo12
  have hd14 := Nat.lt_of_lt_of_le hB4.lt hlo12
  have hs15 := Below.size e10
  replace E := E.trans e10
  replace hB4 := hB4.ext e10
  refine Sq.assign .plain rfl rfl ?_
  refine Sq.assign .plain rfl rfl ?_
  refine Sq.nil ?_
  refine Eq.next ?_
  refine Cq.seq ?_
  refine Cq.seq ?_
  refine Cq.region ?_
  refine Sq.loadAgg agg27 .plain rfl rfl hB4 rfl ?_
  refine Sq.loadAgg agg27 .plain rfl rfl hB11 rfl ?_
  have hd19 := hB4.lt
  have hd20 := hB11.lt
  refine Sq.call fn67 .plain rfl rfl (sCmp_c _ a b _ _ _ _ (hnx.ext E) (hac.ext E) (hnx'.ext E) (hac'.ext E)) ?_
  rintro _ w17 ⟨rfl, e18⟩
  have hs21 := Below.size E
  have hs22 := Below.size e18
  replace E := E.trans e18
  replace hB4 := hB4.ext e18
  replace hB11 := hB11.ext e18
  refine Sq.partB (fun hC => ?_) (fun hC => ?_)
  · refine Sq.notT .plain rfl rfl ?_
    refine Sq.nil ?_
    refine Eq.next ?_
    refine Cq.els rfl ?_
    refine Cq.skip ?_
    refine Eq.next ?_
    refine Cq.seq ?_
    refine Cq.region ?_
    refine Sq.loadAgg agg27 .plain rfl rfl hB4 rfl ?_
    refine Sq.loadAgg agg27 .plain rfl rfl hB11 rfl ?_
    refine Sq.litW slw67 rfl rfl (by decide) .plain rfl (rows := [[Value.int .i64 a.al, nx, ac], [Value.int .i64 b.al, nx', ac']]) rfl (fun r hr => (List.mem_cons.1 hr).elim (fun h => by rw [h]; exact ⟨rfl, (one_cons rfl (one_cons (Rows.one (hnx.ext E)) (one_cons (Row.one (hac.ext E)) one_nil)))⟩) (fun h => by rw [List.mem_singleton.1 h]; exact ⟨rfl, (one_cons rfl (one_cons (Rows.one (hnx'.ext E)) (one_cons (Row.one (hac'.ext E)) one_nil)))⟩)) (fun b23 w24 e25 hlo26 ho27 _ => ?_)
    have hs29 := Below.size e25
    replace E := E.trans e25
    replace hB4 := hB4.ext e25
    replace hB11 := hB11.ext e25
    have hN28 := NetA.of2 (ho27 _ (Nat.le_refl _)) (hnx.ext E) (hac.ext E) (hnx'.ext E) (hac'.ext E)
    refine Sq.lit sl52 rfl rfl .plain rfl rfl (one_cons rfl (one_cons rfl one_nil)) (fun b30 w31 e32 hlo33 ho34 _ => ?_)
    replace ho34 := ho34 w24.heap.size (Nat.le_refl _)
    have hs36 := Below.size e32
    replace E := E.trans e32
    replace hB4 := hB4.ext e32
    replace hB11 := hB11.ext e32
    replace hN28 := hN28.ext e32
    refine Sq.fieldAddr fld27_0 .plain rfl rfl ?_
    refine Sq.loadB one3 .plain rfl rfl hB4 rfl ?_
    refine Sq.build st70 rfl rfl .plain rfl rfl (one_cons rfl (one_cons (Row.one (Own.row ho34)) (one_cons rfl (one_cons rfl one_nil)))) rfl ?_
    have hd39 := hB4.lt
    have hd40 := hB11.lt
    refine Sq.call fn60 .plain rfl rfl (Ret.resW (l4First_c _ [a, b] _ _ ([0, 0] : List Int) a.al 2 0 hN28 (Own.row ho34) (netOk2 (cmp2_spec.1 hC).1 (cmp2_spec.1 hC).2.1) (stOk2 (zero_in (cmp2_spec.1 hC).1) (zero_in (cmp2_spec.1 hC).2.1)) rfl (.inr (.inr ⟨.inr rfl, rfl⟩)) (validA_spec.1 (cmp2_spec.1 hC).1).1) (net2 (g := (fun x y => x && !y)) (cmp2_spec.1 hC).1 (cmp2_spec.1 hC).2.1 (in_zero (cmp2_spec.1 hC).1 (cmp2_spec.1 hC).2.1) (fun p q => rfl))) ?_
    rintro _ w37 ⟨rfl, e38⟩
    have hs41 := Below.size E
    have hs42 := Below.size e38
    replace E := E.trans e38
    refine Sq.extract .plain rfl rfl rfl ?_
    refine Sq.extract .plain rfl rfl rfl ?_
    refine Sq.assign .plain rfl rfl ?_
    refine Sq.assign .plain rfl rfl ?_
    refine Sq.nil ?_
    refine Eq.next ?_
    refine Cq.ret ?_
    refine Eq.ret2 rfl rfl rfl ?_
    exact ⟨by rw [fOut, fTwo, if_pos hC]; rfl, E⟩
  refine Sq.notF .plain rfl rfl ?_
  refine Sq.nil ?_
  refine Eq.next ?_
  refine Cq.thn rfl ?_
  refine Cq.seq ?_
  refine Cq.region ?_
  refine Sq.assign .plain rfl rfl ?_
  refine Sq.assign .plain rfl rfl ?_
  refine Sq.nil ?_
  refine Eq.next ?_
  refine Cq.ret ?_
  refine Eq.pastRet ?_
  refine Eq.ret2 rfl rfl rfl ?_
  exact ⟨by rw [fOut, fTwo, if_neg (by rw [hC]; decide)]; rfl, E⟩
set_option maxRecDepth 100000 in
theorem sWithin2_c (w0 : World) (a b : A) (nx ac nx' ac' : Value) (hnx : Rows w0 52 3 nx a.next) (hac : Bools w0 4 ac a.acc) (hnx' : Rows w0 52 3 nx' b.next) (hac' : Bools w0 4 ac' b.acc) : Ret Try.prog 32 #[Value.agg #[Value.int .i64 a.al, nx, ac], Value.agg #[Value.int .i64 b.al, nx', ac']] w0 (fun v w => v = .bool (withinL a b) ∧ Ext w0 w) := by
  have E := Ext.refl w0
  refine Ret.of (args := [Value.agg #[Value.int .i64 a.al, nx, ac], Value.agg #[Value.int .i64 b.al, nx', ac']]) Try.func32 rfl rfl rfl ?_
  rintro _ rfl
  show Cq _ _ _ _ [(0, Value.agg #[Value.int .i64 a.al, nx, ac]), (1, Value.agg #[Value.int .i64 b.al, nx', ac'])] _
  refine Cq.seq ?_
  refine Cq.region ?_
  refine Sq.box .plain rfl rfl (fun b1 w2 e3 hB4 hlo5 => ?_)
  have hd6 := Nat.le_trans (Below.size E) hlo5
  have hs7 := Below.size e3
  replace E := E.trans e3
  refine Sq.box .plain rfl rfl (fun b8 w9 e10 hB11 hlo12 => ?_)
  have hd13 := Nat.le_trans (Below.size E) hlo12
  have hd14 := Nat.lt_of_lt_of_le hB4.lt hlo12
  have hs15 := Below.size e10
  replace E := E.trans e10
  replace hB4 := hB4.ext e10
  refine Sq.assign .plain rfl rfl ?_
  refine Sq.nil ?_
  refine Eq.next ?_
  refine Cq.seq ?_
  refine Cq.region ?_
  refine Sq.loadAgg agg27 .plain rfl rfl hB4 rfl ?_
  refine Sq.loadAgg agg27 .plain rfl rfl hB11 rfl ?_
  have hd19 := hB4.lt
  have hd20 := hB11.lt
  refine Sq.call fn30 .plain rfl rfl (sfOut_c _ a b _ _ _ _ (hnx.ext E) (hac.ext E) (hnx'.ext E) (hac'.ext E)) ?_
  rintro _ w17 ⟨rfl, e18⟩
  have hs21 := Below.size E
  have hs22 := Below.size e18
  replace E := E.trans e18
  replace hB4 := hB4.ext e18
  replace hB11 := hB11.ext e18
  refine Sq.move .plain rfl rfl ?_
  refine Sq.extract .plain rfl rfl rfl ?_
  refine Sq.extract .plain rfl rfl rfl ?_
  refine Sq.assign .plain rfl rfl ?_
  refine Sq.assign .plain rfl rfl ?_
  refine Sq.nil ?_
  refine Eq.next ?_
  refine Cq.seq ?_
  refine Cq.region ?_
  refine Sq.loadAgg agg27 .plain rfl rfl hB4 rfl ?_
  refine Sq.loadAgg agg27 .plain rfl rfl hB11 rfl ?_
  have hd26 := hB4.lt
  have hd27 := hB11.lt
  refine Sq.call fn67 .plain rfl rfl (sCmp_c _ a b _ _ _ _ (hnx.ext E) (hac.ext E) (hnx'.ext E) (hac'.ext E)) ?_
  rintro _ w24 ⟨rfl, e25⟩
  have hs28 := Below.size E
  have hs29 := Below.size e25
  replace E := E.trans e25
  refine Sq.partB (fun hC => ?_) (fun hC => ?_)
  · refine Sq.move .plain rfl rfl ?_
    refine Sq.move (.met rfl rfl rfl) rfl rfl ?_
    refine Sq.not (.met rfl rfl rfl) rfl rfl ?_
    refine Sq.pickT .plain rfl rfl rfl ?_
    refine Sq.assign .plain rfl rfl ?_
    refine Sq.nil ?_
    refine Eq.next ?_
    refine Cq.ret ?_
    refine Eq.ret1 rfl rfl ?_
    exact ⟨by simp [withinL, hC], E⟩
  refine Sq.move .plain rfl rfl ?_
  refine Sq.off rfl rfl rfl rfl rfl rfl ?_
  refine Sq.off rfl rfl rfl rfl rfl rfl ?_
  refine Sq.pickF .plain rfl rfl rfl ?_
  refine Sq.assign .plain rfl rfl ?_
  refine Sq.nil ?_
  refine Eq.next ?_
  refine Cq.ret ?_
  refine Eq.ret1 rfl rfl ?_
  exact ⟨by simp [withinL, hC], E⟩
end Go.Proofs.Ytdkdpmmfebdeaaa
set_option linter.unusedSimpArgs false
set_option linter.unusedVariables false
namespace Go.Proofs.Ytdkdpmmfebdeaaa
open Go.RowKit
set_option maxRecDepth 100000 in
theorem sSafety_c (w0 : World) (a : A) (nx ac : Value) (hnx : Rows w0 52 3 nx a.next) (hac : Bools w0 4 ac a.acc) : Ret Try.prog 71 #[Value.agg #[Value.int .i64 a.al, nx, ac]] w0 (fun v w => (∃ u, v = .tuple #[u, .bool (validA a)] ∧ OwnA w w0.heap.size u (if validA a then safe a else zeroA)) ∧ Ext w0 w) := by
  have E := Ext.refl w0
  refine Ret.of (args := [Value.agg #[Value.int .i64 a.al, nx, ac]]) Try.func71 rfl rfl rfl ?_
  rintro _ rfl
  show Cq _ _ _ _ [(0, Value.agg #[Value.int .i64 a.al, nx, ac])] _
  refine Cq.seq ?_
  refine Cq.region ?_
  refine Sq.box .plain rfl rfl (fun b1 w2 e3 hB4 hlo5 => ?_)
  have hd6 := Nat.le_trans (Below.size E) hlo5
  have hs7 := Below.size e3
  replace E := E.trans e3
  refine Sq.alloc zero27 .plain rfl (fun b8 w9 e10 hB11 hlo12 => ?_)
  have hd13 := Nat.le_trans (Below.size E) hlo12
  have hd14 := Nat.lt_of_lt_of_le hB4.lt hlo12
  have hs15 := Below.size e10
  replace E := E.trans e10
  replace hB4 := hB4.ext e10
  refine Sq.assign .plain rfl rfl ?_
  refine Sq.nil ?_
  refine Eq.next ?_
  refine Cq.seq ?_
  refine Cq.seq ?_
  refine Cq.region ?_
  refine Sq.loadAgg agg27 .plain rfl rfl hB4 rfl ?_
  have hd19 := hB4.lt
  have hd20 := hB11.lt
  refine Sq.call fn40 .plain rfl rfl (sValid_c _ a _ _ (hnx.ext E) (hac.ext E)) ?_
  rintro _ w17 ⟨rfl, e18⟩
  have hs21 := Below.size E
  have hs22 := Below.size e18
  replace E := E.trans e18
  replace hB4 := hB4.ext e18
  replace hB11 := hB11.ext e18
  refine Sq.partB (fun hv => ?_) (fun hv => ?_)
  · refine Sq.notT .plain rfl rfl ?_
    refine Sq.nil ?_
    refine Eq.next ?_
    refine Cq.els rfl ?_
    refine Cq.skip ?_
    refine Eq.next ?_
    refine Cq.seq ?_
    refine Cq.region ?_
    refine Sq.loadAgg agg27 .plain rfl rfl hB4 rfl ?_
    have hd30 := hB4.lt
    have hd31 := hB11.lt
    refine Sq.call fn99 .plain rfl rfl (l3Copy_c _ a _ _ (hnx.ext E) (hac.ext E) (fit_of_valid hv)) ?_
    rintro _ w24 ⟨⟨nx26, ac27, rfl, hn28, ha29⟩, e25⟩
    have hs32 := Below.size E
    have hs33 := Below.size e25
    replace E := E.trans e25
    replace hB4 := hB4.ext e25
    replace hB11 := hB11.ext e25
    refine Sq.alloc zero27 .plain rfl (fun b34 w35 e36 hB37 hlo38 => ?_)
    have hd39 := Nat.le_trans (Below.size E) hlo38
    have hd40 := Nat.lt_of_lt_of_le hB4.lt hlo38
    have hd41 := Nat.lt_of_lt_of_le hB11.lt hlo38
    have hs42 := Below.size e36
    replace E := E.trans e36
    replace hB4 := hB4.ext e36
    replace hB11 := hB11.ext e36
    replace hn28 := hn28.ext e36
    replace ha29 := ha29.ext e36
    refine Sq.storeAgg agg27 .plain rfl rfl (one_cons rfl (one_cons (Rows.one (OwnRows.rows hn28)) (one_cons (Row.one (Own.row ha29)) one_nil))) hB37 rfl rfl (fun w43 g44 hB45 => ?_)
    have hs46 := World.grownBy.size g44
    replace E := E.grown g44 (fun k hk => by injection hk with hk; subst hk; omega)
    replace hB4 := hB4.grown g44 (by intro h; injection h with h; omega)
    replace hB11 := hB11.grown g44 (by intro h; injection h with h; omega)
    replace hn28 := hn28.stored g44 hB37 (by decide) (by decide)
    replace ha29 := ha29.stored g44 hB37 (by decide)
    replace hB37 := hB45
    refine Sq.nil ?_
    refine Eq.next ?_
    refine Cq.seq ?_
    refine Cq.seq ?_
    refine Cq.region ?_
    refine Sq.assign .plain rfl rfl ?_
    refine Sq.nil ?_
    refine Eq.next ?_
    refine Cq.block ?_
    have hvs := validA_spec.1 hv
    have hv1 := hvs.2.1
    have hv2 := hvs.2.2.1
    refine Cq.loop (fun nn w ls => ∃ (i : Int), ∃ (xss : List (List Int)), ls = [(1, Value.pointer (some ⟨b1, 0, none⟩)), (2, Value.pointer (some ⟨b8, 0, none⟩)), (4, Value.pointer (some ⟨b34, 0, none⟩)), (5, Value.int .i64 i)] ∧ (0 ≤ i ∧ i ≤ a.next.length) ∧ OwnRows w w0.heap.size w.heap.size 52 3 nx26 xss ∧ SafeAt a i.toNat 0 xss ∧ Ext w0 w ∧ Blk w b1 27 [Value.int .i64 a.al, nx, ac] ∧ Blk w b8 27 [Value.int .i64 0, Value.slice none 0 0, Value.slice none 0 0] ∧ Blk w b34 27 [Value.int .i64 a.al, nx26, ac27] ∧ Own w w17.heap.size 4 ac27 (a.acc.map Value.bool) ∧ nn = ((a.next.length : Int) - i).toNat) _ _ ⟨0, _, rfl, by omega, OwnRows.mono (OwnRows.now hn28) (by omega), SafeAt.zero a, E, hB4, hB11, hB37, ha29, rfl⟩ (.cons rfl (.cons rfl (.cons rfl (.cons rfl (.nil))))) ?_
    rintro nn wl1 ls ⟨i, xss, rfl, hi, hn28, hsf, E, hB4, hB11, hB37, ha29, rfl⟩
    have hs47 := Below.size E
    have hxl := hsf.1
    have hr6 := valid_row6 hv (k := i.toNat)
    refine Cq.seq ?_
    refine Cq.seq ?_
    refine Cq.region ?_
    refine Sq.move .plain rfl rfl ?_
    refine Sq.fieldAddr fld27_1 .plain rfl rfl ?_
    refine Sq.loadB one22 .plain rfl rfl hB37 rfl ?_
    refine Sq.lenRows (OwnRows.rows hn28) .plain rfl und22 rfl ?_
    refine Sq.lss .plain rfl rfl rfl ?_
    refine Sq.part (fun c48 => ?_) (fun c48 => ?_)
    · refine Sq.nil ?_
      refine Eq.next ?_
      refine Cq.thn rfl ?_
      refine Cq.skip ?_
      refine Eq.next ?_
      refine Cq.seq ?_
      refine Cq.block ?_
      refine Cq.seq ?_
      refine Cq.region ?_
      refine Sq.assign .plain rfl rfl ?_
      refine Sq.nil ?_
      refine Eq.next ?_
      refine Cq.block ?_
      refine Cq.loop (fun nn w ls => ∃ (j : Int), ∃ (yss : List (List Int)), ls = [(1, Value.pointer (some ⟨b1, 0, none⟩)), (2, Value.pointer (some ⟨b8, 0, none⟩)), (4, Value.pointer (some ⟨b34, 0, none⟩)), (5, Value.int .i64 i), (6, Value.int .i64 j)] ∧ (0 ≤ j ∧ j ≤ (a.next.getD i.toNat []).length) ∧ wl1.heap.size ≤ w.heap.size ∧ OwnRows w w0.heap.size w.heap.size 52 3 nx26 yss ∧ SafeAt a i.toNat j.toNat yss ∧ Ext w0 w ∧ Blk w b1 27 [Value.int .i64 a.al, nx, ac] ∧ Blk w b8 27 [Value.int .i64 0, Value.slice none 0 0, Value.slice none 0 0] ∧ Blk w b34 27 [Value.int .i64 a.al, nx26, ac27] ∧ Own w w17.heap.size 4 ac27 (a.acc.map Value.bool) ∧ nn = (((a.next.getD i.toNat []).length : Int) - j).toNat) _ _ ⟨0, _, rfl, by omega, by omega, OwnRows.now hn28, hsf, E, hB4, hB11, hB37, ha29, rfl⟩ (.cons rfl (.cons rfl (.cons rfl (.cons rfl (.cons rfl (.nil)))))) ?_
      rintro nn wl2 ls ⟨j, yss, rfl, hj, hsz, hn28, hsf2, E, hB4, hB11, hB37, ha29, rfl⟩
      have hs49 := Below.size E
      have hyl := hsf2.1
      have hly := (hsf2.2 i.toNat (by omega)).1
      refine Cq.seq ?_
      refine Cq.seq ?_
      refine Cq.region ?_
      refine Sq.move .plain rfl rfl ?_
      refine Sq.fieldAddr fld27_1 .plain rfl rfl ?_
      refine Sq.loadB one22 .plain rfl rfl hB37 rfl ?_
      refine Sq.move .plain rfl rfl ?_
      refine Sq.idxRows sl22 one52 (OwnRows.rows hn28) .plain rfl rfl rfl .plain rfl rfl (by omega) (by omega) (fun r50 hr51 => ?_)
      refine Sq.lenInts hr51 .plain rfl und52 rfl ?_
      refine Sq.lss .plain rfl rfl rfl ?_
      refine Sq.part (fun hlt => ?_) (fun hlt => ?_)
      · refine Sq.move .plain rfl rfl ?_
        refine Sq.fieldAddr fld27_2 (.met rfl rfl rfl) rfl rfl ?_
        refine Sq.loadB one23 (.met rfl rfl rfl) rfl rfl hB4 rfl ?_
        refine Sq.move (.met rfl rfl rfl) rfl rfl ?_
        refine Sq.idxBools sl23 one4 (hac.ext E) (.met rfl rfl rfl) rfl rfl rfl (.met rfl rfl rfl) rfl rfl (by omega) (by omega) ?_
        refine Sq.partB (fun hac => ?_) (fun hac => ?_)
        · refine Sq.notT (.met rfl rfl rfl) rfl rfl ?_
          refine Sq.pickT .plain rfl rfl rfl ?_
          refine Sq.nil ?_
          refine Eq.next ?_
          refine Cq.els rfl ?_
          refine Cq.exit ?_
          refine Eq.past ?_
          refine Eq.past ?_
          refine Eq.hit ?_
          refine Eq.end ?_
          refine Eq.next ?_
          refine Cq.region ?_
          refine Sq.move .plain rfl rfl ?_
          refine Sq.add .plain rfl rfl rfl (by omega) ?_
          refine Sq.assign .plain rfl rfl ?_
          refine Sq.nil ?_
          have e1 := toNat_succ hi.1
          refine Eq.round _ _ ⟨i + 1, _, rfl, by omega, OwnRows.now hn28, by rw [e1]; exact hsf2.next (.inr hac), E, hB4, hB11, hB37, ha29, rfl⟩ (by omega) (.cons rfl (.cons rfl (.cons rfl (.cons rfl (.nil)))))
        refine Sq.notF (.met rfl rfl rfl) rfl rfl ?_
        refine Sq.pickT .plain rfl rfl rfl ?_
        refine Sq.nil ?_
        refine Eq.next ?_
        refine Cq.thn rfl ?_
        refine Cq.skip ?_
        refine Eq.next ?_
        refine Cq.seq ?_
        refine Cq.block ?_
        refine Cq.region ?_
        refine Sq.fieldAddr fld27_1 .plain rfl rfl ?_
        refine Sq.loadB one22 .plain rfl rfl hB37 rfl ?_
        refine Sq.move .plain rfl rfl ?_
        obtain ⟨p52, r54, hp53, _⟩ := Rows.at (OwnRows.rows hn28) (i := i) (by omega) (by omega)
        have hr55 := (OwnRows.rowAt hn28 hp53).1
        refine Sq.val .plain rfl rfl (Still.at' sl22 hp53 rfl rfl) ?_
        refine Sq.val .plain rfl rfl (Still.loadA one52 rfl hp53.1) ?_
        refine Sq.move .plain rfl rfl ?_
        refine Sq.move .plain rfl rfl ?_
        obtain ⟨p56, hp57o⟩ := Own.at hr55 (i := j) (by omega) (by first | (simp only [List.length_map]; omega) | (simp; omega))
        refine Sq.atO sl52 hp57o .plain rfl rfl rfl ?_
        refine Sq.storeO one3 hr55 hp57o .plain rfl rfl rfl (fun w58 g59 ho60 => ?_)
        have hs61 := World.grownBy.size g59
        rw [← List.map_set] at ho60
        replace hn28 := (OwnRows.set hn28 (by decide) hp53 ho60 g59).1
        replace E := E.owned hr55 g59 (by omega)
        replace hB4 := hB4.owned hr55 g59 (by decide)
        replace hB11 := hB11.owned hr55 g59 (by decide)
        replace hB37 := hB37.owned hr55 g59 (by decide)
        replace ha29 := ha29.owned hr55 g59 (by decide)
        refine Sq.nil ?_
        refine Eq.end ?_
        refine Eq.next ?_
        refine Cq.region ?_
        refine Sq.move .plain rfl rfl ?_
        refine Sq.add .plain rfl rfl rfl (by omega) ?_
        refine Sq.assign .plain rfl rfl ?_
        refine Sq.nil ?_
        have e1 := toNat_succ hj.1
        have e2 := hsf2.step (by omega) (by omega) hac
        rw [Int.toNat_of_nonneg hi.1] at e2
        refine Eq.round _ _ ⟨j + 1, _, rfl, by omega, by omega, OwnRows.now hn28, by rw [e1]; exact e2, E, hB4, hB11, hB37, ha29, rfl⟩ (by omega) (.cons rfl (.cons rfl (.cons rfl (.cons rfl (.cons rfl (.nil))))))
      refine Sq.move .plain rfl rfl ?_
      refine Sq.off rfl rfl rfl rfl rfl rfl ?_
      refine Sq.off rfl rfl rfl rfl rfl rfl ?_
      refine Sq.off rfl rfl rfl rfl rfl rfl ?_
      refine Sq.off rfl rfl rfl rfl rfl rfl ?_
      refine Sq.off rfl rfl rfl rfl rfl rfl ?_
      refine Sq.off rfl rfl rfl rfl rfl rfl ?_
      refine Sq.pickF .plain rfl rfl rfl ?_
      refine Sq.nil ?_
      refine Eq.next ?_
      refine Cq.els rfl ?_
      refine Cq.exit ?_
      refine Eq.past ?_
      refine Eq.past ?_
      refine Eq.hit ?_
      refine Eq.end ?_
      refine Eq.next ?_
      refine Cq.region ?_
      refine Sq.move .plain rfl rfl ?_
      refine Sq.add .plain rfl rfl rfl (by omega) ?_
      refine Sq.assign .plain rfl rfl ?_
      refine Sq.nil ?_
      have e1 := toNat_succ hi.1
      refine Eq.round _ _ ⟨i + 1, _, rfl, by omega, OwnRows.now hn28, by rw [e1]; exact hsf2.next (.inl (by omega)), E, hB4, hB11, hB37, ha29, rfl⟩ (by omega) (.cons rfl (.cons rfl (.cons rfl (.cons rfl (.nil)))))
    refine Sq.nil ?_
    refine Eq.next ?_
    refine Cq.els rfl ?_
    refine Cq.exit ?_
    refine Eq.past ?_
    refine Eq.past ?_
    refine Eq.hit ?_
    refine Eq.next ?_
    refine Cq.seq ?_
    refine Cq.region ?_
    refine Sq.loadAgg agg27 .plain rfl rfl hB37 rfl ?_
    refine Sq.storeAgg agg27 .plain rfl rfl (one_cons rfl (one_cons (Rows.one (OwnRows.rows hn28)) (one_cons (Row.one (Own.row ha29)) one_nil))) hB11 rfl rfl (fun w62 g63 hB64 => ?_)
    have hs65 := World.grownBy.size g63
    replace E := E.grown g63 (fun k hk => by injection hk with hk; subst hk; omega)
    replace ha29 := ha29.stored g63 hB11 (by decide)
    replace hn28 := hn28.stored g63 hB11 (by decide) (by decide)
    replace hB11 := hB64
    refine Sq.assign .plain rfl rfl ?_
    refine Sq.nil ?_
    refine Eq.next ?_
    refine Cq.ret ?_
    refine Eq.retCell2 rfl rfl agg27 hB11 rfl rfl ?_
    have e := hsf.done (by omega)
    rw [e] at hn28
    exact ⟨⟨_, by rw [hv], by rw [if_pos hv]; exact ⟨_, _, rfl, OwnRows.now (OwnRows.mono hn28 (by omega)), Own.mono ha29 (by omega)⟩⟩, E⟩
  refine Sq.notF .plain rfl rfl ?_
  refine Sq.nil ?_
  refine Eq.next ?_
  refine Cq.thn rfl ?_
  refine Cq.seq ?_
  refine Cq.region ?_
  refine Sq.build st27 rfl rfl .plain rfl rfl one_nil rfl ?_
  refine Sq.storeAgg agg27 .plain rfl rfl (one_cons rfl (one_cons rfl (one_cons rfl one_nil))) hB11 rfl rfl (fun w66 g67 hB68 => ?_)
  have hs69 := World.grownBy.size g67
  replace E := E.grown g67 (fun k hk => by injection hk with hk; subst hk; omega)
  replace hB11 := hB68
  refine Sq.assign .plain rfl rfl ?_
  refine Sq.nil ?_
  refine Eq.next ?_
  refine Cq.ret ?_
  refine Eq.pastRet ?_
  refine Eq.retCell2 rfl rfl agg27 hB11 rfl rfl ?_
  exact ⟨⟨_, by rw [hv], by rw [if_neg (by simp [hv])]; exact ⟨_, _, rfl, OwnRows.nil _ _ _ _ _, Own.nil _ _ _⟩⟩, E⟩
theorem sSafety_c_T (w0 : World) (a : A) (nx ac : Value) (hnx : Rows w0 52 3 nx a.next) (hac : Bools w0 4 ac a.acc) (hC : (validA a) = true) : Ret Try.prog 71 #[Value.agg #[Value.int .i64 a.al, nx, ac]] w0 (fun v w => (∃ u, v = .tuple #[u, .bool true] ∧ OwnA w w0.heap.size u (safe a)) ∧ Ext w0 w) :=
  (sSafety_c w0 a nx ac hnx hac).mono fun v w h => by rw [hC, if_pos rfl] at h; exact h
theorem sSafety_c_F (w0 : World) (a : A) (nx ac : Value) (hnx : Rows w0 52 3 nx a.next) (hac : Bools w0 4 ac a.acc) (hC : (validA a) = false) : Ret Try.prog 71 #[Value.agg #[Value.int .i64 a.al, nx, ac]] w0 (fun v w => (∃ u, v = .tuple #[u, .bool false] ∧ OwnA w w0.heap.size u (zeroA)) ∧ Ext w0 w) :=
  (sSafety_c w0 a nx ac hnx hac).mono fun v w h => by rw [hC, if_neg (by decide)] at h; exact h
end Go.Proofs.Ytdkdpmmfebdeaaa
set_option linter.unusedSimpArgs false
set_option linter.unusedVariables false
namespace Go.Proofs.Ytdkdpmmfebdeaaa
open Go.RowKit
set_option maxRecDepth 100000 in
theorem isPC_c (w0 : World) (a : A) (nx ac : Value) (hnx : Rows w0 52 3 nx a.next) (hac : Bools w0 4 ac a.acc) : Ret Try.prog 37 #[Value.agg #[Value.int .i64 a.al, nx, ac]] w0 (fun v w => v = .bool (isPC a) ∧ Ext w0 w) := by
  have E := Ext.refl w0
  refine Ret.of (args := [Value.agg #[Value.int .i64 a.al, nx, ac]]) Try.func37 rfl rfl rfl ?_
  rintro _ rfl
  show Cq _ _ _ _ [(0, Value.agg #[Value.int .i64 a.al, nx, ac])] _
  refine Cq.seq ?_
  refine Cq.region ?_
  refine Sq.box .plain rfl rfl (fun b1 w2 e3 hB4 hlo5 => ?_)
  have hd6 := Nat.le_trans (Below.size E) hlo5
  have hs7 := Below.size e3
  replace E := E.trans e3
  refine Sq.assign .plain rfl rfl ?_
  refine Sq.nil ?_
  refine Eq.next ?_
  refine Cq.seq ?_
  refine Cq.seq ?_
  refine Cq.region ?_
  refine Sq.loadAgg agg27 .plain rfl rfl hB4 rfl ?_
  have hd11 := hB4.lt
  refine Sq.call fn44 .plain rfl rfl (valid_c _ a _ _ (hnx.ext E) (hac.ext E)) ?_
  rintro _ w9 ⟨rfl, e10⟩
  have hs12 := Below.size E
  have hs13 := Below.size e10
  replace E := E.trans e10
  replace hB4 := hB4.ext e10
  refine Sq.partB (fun hv => ?_) (fun hv => ?_)
  · refine Sq.notT .plain rfl rfl ?_
    refine Sq.nil ?_
    refine Eq.next ?_
    refine Cq.els rfl ?_
    refine Cq.skip ?_
    refine Eq.next ?_
    refine Cq.seq ?_
    refine Cq.region ?_
    refine Sq.loadAgg agg27 .plain rfl rfl hB4 rfl ?_
    have hd21 := hB4.lt
    refine Sq.call fn45 .plain rfl rfl (trim_c _ a _ _ (hnx.ext E) (hac.ext E) hv) ?_
    rintro _ w15 ⟨⟨nx17, ac18, rfl, hn19, ha20⟩, e16⟩
    have hs22 := Below.size E
    have hs23 := Below.size e16
    replace E := E.trans e16
    replace hB4 := hB4.ext e16
    refine Sq.alloc zero27 .plain rfl (fun b24 w25 e26 hB27 hlo28 => ?_)
    have hd29 := Nat.le_trans (Below.size E) hlo28
    have hd30 := Nat.lt_of_lt_of_le hB4.lt hlo28
    have hs31 := Below.size e26
    replace E := E.trans e26
    replace hn19 := hn19.ext e26
    replace ha20 := ha20.ext e26
    refine Sq.storeAgg agg27 .plain rfl rfl (one_cons rfl (one_cons (Rows.one (OwnRows.rows hn19)) (one_cons (Row.one (Own.row ha20)) one_nil))) hB27 rfl rfl (fun w32 g33 hB34 => ?_)
    have hs35 := World.grownBy.size g33
    replace E := E.grown g33 (fun k hk => by injection hk with hk; subst hk; omega)
    replace hn19 := hn19.stored g33 hB27 (by decide) (by decide)
    replace ha20 := ha20.stored g33 hB27 (by decide)
    replace hB27 := hB34
    refine Sq.nil ?_
    refine Eq.next ?_
    refine Cq.seq ?_
    refine Cq.seq ?_
    refine Cq.region ?_
    refine Sq.fieldAddr fld27_1 .plain rfl rfl ?_
    refine Sq.loadB one22 .plain rfl rfl hB27 rfl ?_
    refine Sq.lenRows (OwnRows.rows hn19) .plain rfl und22 rfl ?_
    refine Sq.move .plain rfl rfl ?_
    refine Sq.nil ?_
    refine Eq.next ?_
    refine Cq.block ?_
    have ht := trim_valid hv
    have hts := validA_spec.1 ht
    have hts1 := hts.2.1
    refine Cq.loop (fun nn w ls => ∃ (i : Int), ls = [(3, Value.pointer (some ⟨b24, 0, none⟩)), (14, nx17), (15, Value.int .i64 ((List.length (trim a).next : Int))), (16, Value.int .i64 i)] ∧ (0 ≤ i ∧ i ≤ (trim a).next.length) ∧ (∀ m, m < i.toNat → m < (trim a).next.length → pcRow (trim a) m = true) ∧ Ext w0 w ∧ Blk w b24 27 [Value.int .i64 ((trim a).al), nx17, ac18] ∧ OwnRows w w9.heap.size w15.heap.size 52 3 nx17 (trim a).next ∧ Own w w9.heap.size 4 ac18 ((trim a).acc.map Value.bool) ∧ nn = (((trim a).next.length : Int) - i).toNat) _ _ ⟨0, rfl, by omega, fun m hm => by omega, E, hB27, hn19, ha20, rfl⟩ (.cons rfl (.cons rfl (.cons rfl (.cons rfl (.nil))))) ?_
    rintro nn wl1 ls ⟨i, rfl, hi, hall, E, hB27, hn19, ha20, rfl⟩
    have hs36 := Below.size E
    refine Cq.seq ?_
    refine Cq.region ?_
    refine Sq.lss .plain rfl rfl rfl ?_
    refine Sq.part (fun c37 => ?_) (fun c37 => ?_)
    · refine Sq.nil ?_
      refine Eq.next ?_
      refine Cq.seq ?_
      refine Cq.thn rfl ?_
      refine Cq.skip ?_
      refine Eq.next ?_
      refine Cq.seq ?_
      refine Cq.block ?_
      refine Cq.seq ?_
      refine Cq.region ?_
      refine Sq.move .plain rfl rfl ?_
      refine Sq.idxRows sl22 one52 (OwnRows.rows hn19) .plain rfl rfl rfl .plain rfl rfl (by omega) (by omega) (fun r38 hr39 => ?_)
      refine Sq.assign .plain rfl rfl ?_
      refine Sq.assign .plain rfl rfl ?_
      refine Sq.nil ?_
      refine Eq.next ?_
      refine Cq.seq ?_
      refine Cq.region ?_
      refine Sq.move .plain rfl rfl ?_
      refine Sq.lenInts hr39 .plain rfl und52 rfl ?_
      refine Sq.move .plain rfl rfl ?_
      refine Sq.nil ?_
      refine Eq.next ?_
      refine Cq.block ?_
      refine Cq.loop (fun nn w ls => ∃ (j : Int), ls = [(3, Value.pointer (some ⟨b24, 0, none⟩)), (4, Value.int .i64 i), (14, nx17), (15, Value.int .i64 ((List.length (trim a).next : Int))), (16, Value.int .i64 i), (21, r38), (22, Value.int .i64 ((List.length ((trim a).next.getD i.toNat []) : Int))), (23, Value.int .i64 j)] ∧ (0 ≤ j ∧ j ≤ ((trim a).next.getD i.toNat []).length) ∧ ((trim a).acc.getD i.toNat false = true ∨ ((((trim a).next.getD i.toNat []).take j.toNat).all fun t => !leads (trim a) t) = true) ∧ Ext w0 w ∧ Blk w b24 27 [Value.int .i64 ((trim a).al), nx17, ac18] ∧ OwnRows w w9.heap.size w15.heap.size 52 3 nx17 (trim a).next ∧ Own w w9.heap.size 4 ac18 ((trim a).acc.map Value.bool) ∧ Ints w 3 r38 ((trim a).next.getD i.toNat []) ∧ nn = ((((trim a).next.getD i.toNat []).length : Int) - j).toNat) _ _ ⟨0, rfl, by omega, .inr rfl, E, hB27, hn19, ha20, hr39, rfl⟩ (.cons rfl (.cons rfl (.cons rfl (.cons rfl (.cons rfl (.cons rfl (.cons rfl (.cons rfl (.nil))))))))) ?_
      rintro nn wl2 ls ⟨j, rfl, hj, hrow, E, hB27, hn19, ha20, hr39, rfl⟩
      have hs40 := Below.size E
      have hal : (trim a).acc.length = (trim a).next.length := hts.2.2.1
      have hrl := valid_row ht (k := i.toNat) (by omega)
      have hl6 := letters_len6 (trim a).al
      have hrb : j < ((trim a).next.getD i.toNat []).length → 0 ≤ (((trim a).next.getD i.toNat []).getD j.toNat 0) ∧ (((trim a).next.getD i.toNat []).getD j.toNat 0) < (trim a).next.length := fun h => ((validA_spec.1 ht).2.2.2 _ (getD_mem (by omega))).2 _ (getD_mem (by omega))
      refine Cq.seq ?_
      refine Cq.region ?_
      refine Sq.lss .plain rfl rfl rfl ?_
      refine Sq.part (fun c41 => ?_) (fun c41 => ?_)
      · refine Sq.nil ?_
        refine Eq.next ?_
        refine Cq.seq ?_
        refine Cq.thn rfl ?_
        refine Cq.skip ?_
        refine Eq.next ?_
        refine Cq.seq ?_
        refine Cq.block ?_
        refine Cq.seq ?_
        refine Cq.region ?_
        refine Sq.idxInts sl52 one3 hr39 .plain rfl rfl rfl .plain rfl rfl (by omega) (by omega) ?_
        refine Sq.assign .plain rfl rfl ?_
        refine Sq.nil ?_
        refine Eq.next ?_
        refine Cq.seq ?_
        refine Cq.region ?_
        refine Sq.fieldAddr fld27_2 .plain rfl rfl ?_
        refine Sq.loadB one23 .plain rfl rfl hB27 rfl ?_
        refine Sq.move .plain rfl rfl ?_
        refine Sq.idxBools sl23 one4 (Own.row ha20) .plain rfl rfl rfl .plain rfl rfl (by omega) (by omega) ?_
        refine Sq.partB (fun hac => ?_) (fun hac => ?_)
        · refine Sq.notT .plain rfl rfl ?_
          refine Sq.move .plain rfl rfl ?_
          refine Sq.off rfl rfl rfl rfl rfl rfl ?_
          refine Sq.off rfl rfl rfl rfl rfl rfl ?_
          refine Sq.off rfl rfl rfl rfl rfl rfl ?_
          refine Sq.pickF .plain rfl rfl rfl ?_
          refine Sq.nil ?_
          refine Eq.next ?_
          refine Cq.els rfl ?_
          refine Cq.skip ?_
          refine Eq.end ?_
          refine Eq.next ?_
          refine Cq.region ?_
          refine Sq.add .plain rfl rfl rfl (by omega) ?_
          refine Sq.move .plain rfl rfl ?_
          refine Sq.nil ?_
          have e2 := toNat_succ hj.1
          refine Eq.round _ _ ⟨j + 1, rfl, by omega, .inl hac, E, hB27, hn19, ha20, hr39, rfl⟩ (by omega) (.cons rfl (.cons rfl (.cons rfl (.cons rfl (.cons rfl (.cons rfl (.cons rfl (.cons rfl (.nil)))))))))
        refine Sq.notF .plain rfl rfl ?_
        refine Sq.move .plain rfl rfl ?_
        refine Sq.loadAgg agg27 (.met rfl rfl rfl) rfl rfl hB27 rfl ?_
        refine Sq.move (.met rfl rfl rfl) rfl rfl ?_
        have hd45 := hB27.lt
        refine Sq.call fn72 (.met rfl rfl rfl) rfl rfl (leads_c _ (trim a) _ _ (OwnRows.rows hn19) (Own.row ha20) ht (((trim a).next.getD i.toNat []).getD j.toNat 0) (by omega)) ?_
        rintro _ w43 ⟨rfl, e44⟩
        have hs46 := Below.size E
        have hs47 := Below.size e44
        replace E := E.trans e44
        replace hB27 := hB27.ext e44
        replace hn19 := hn19.ext e44
        replace ha20 := ha20.ext e44
        replace hr39 := hr39.ext e44
        refine Sq.partB (fun hld => ?_) (fun hld => ?_)
        · refine Sq.pickT .plain rfl rfl rfl ?_
          refine Sq.nil ?_
          refine Eq.next ?_
          refine Cq.thn rfl ?_
          refine Cq.seq ?_
          refine Cq.region ?_
          refine Sq.assign .plain rfl rfl ?_
          refine Sq.nil ?_
          refine Eq.next ?_
          refine Cq.ret ?_
          refine Eq.outRet ?_
          refine Eq.pastRet ?_
          refine Eq.pastRet ?_
          refine Eq.outRet ?_
          refine Eq.outRet ?_
          refine Eq.pastRet ?_
          refine Eq.pastRet ?_
          refine Eq.outRet ?_
          refine Eq.pastRet ?_
          refine Eq.ret1 rfl rfl ?_
          exact ⟨by rw [← pc_trim hv, pc_found (q := i.toNat) (j := j.toNat) (by omega) (by omega) hac hld], E⟩
        refine Sq.pickT .plain rfl rfl rfl ?_
        refine Sq.nil ?_
        refine Eq.next ?_
        refine Cq.els rfl ?_
        refine Cq.skip ?_
        refine Eq.end ?_
        refine Eq.next ?_
        refine Cq.region ?_
        refine Sq.add .plain rfl rfl rfl (by omega) ?_
        refine Sq.move .plain rfl rfl ?_
        refine Sq.nil ?_
        have e2 := toNat_succ hj.1
        refine Eq.round _ _ ⟨j + 1, rfl, by omega, by rw [e2]; rcases hrow with h | h; exact .inl h; exact .inr (all_snoc (d := 0) h (by omega) (by show (!leads (trim a) _) = true; rw [show leads (trim a) _ = false from hld]; rfl)), E, hB27, hn19, ha20, hr39, rfl⟩ (by omega) (.cons rfl (.cons rfl (.cons rfl (.cons rfl (.cons rfl (.cons rfl (.cons rfl (.cons rfl (.nil)))))))))
      refine Sq.nil ?_
      refine Eq.next ?_
      refine Cq.seq ?_
      refine Cq.els rfl ?_
      refine Cq.exit ?_
      refine Eq.past ?_
      refine Eq.past ?_
      refine Eq.hit ?_
      refine Eq.end ?_
      refine Eq.next ?_
      refine Cq.region ?_
      refine Sq.add .plain rfl rfl rfl (by omega) ?_
      refine Sq.move .plain rfl rfl ?_
      refine Sq.nil ?_
      have e1 := toNat_succ hi.1
      have hr1 := pcRow_done (a := (trim a)) (q := i.toNat) (j := j.toNat) (by omega) hrow
      refine Eq.round _ _ ⟨i + 1, rfl, by omega, fun m hm hm2 => by rcases Nat.lt_or_ge m i.toNat with h | h; exact hall m h hm2; rw [show m = i.toNat by omega]; exact hr1, E, hB27, hn19, ha20, rfl⟩ (by omega) (.cons rfl (.cons rfl (.cons rfl (.cons rfl (.nil)))))
    refine Sq.nil ?_
    refine Eq.next ?_
    refine Cq.seq ?_
    refine Cq.els rfl ?_
    refine Cq.exit ?_
    refine Eq.past ?_
    refine Eq.past ?_
    refine Eq.hit ?_
    refine Eq.next ?_
    refine Cq.seq ?_
    refine Cq.region ?_
    refine Sq.assign .plain rfl rfl ?_
    refine Sq.nil ?_
    refine Eq.next ?_
    refine Cq.ret ?_
    refine Eq.ret1 rfl rfl ?_
    exact ⟨by rw [← pc_trim hv, pc_all (k := i.toNat) (by omega) hall], E⟩
  refine Sq.notF .plain rfl rfl ?_
  refine Sq.nil ?_
  refine Eq.next ?_
  refine Cq.thn rfl ?_
  refine Cq.seq ?_
  refine Cq.region ?_
  refine Sq.assign .plain rfl rfl ?_
  refine Sq.nil ?_
  refine Eq.next ?_
  refine Cq.ret ?_
  refine Eq.pastRet ?_
  refine Eq.ret1 rfl rfl ?_
  exact ⟨by rw [isPC_no hv], E⟩
set_option maxRecDepth 100000 in
theorem sIsPC_c (w0 : World) (a : A) (nx ac : Value) (hnx : Rows w0 52 3 nx a.next) (hac : Bools w0 4 ac a.acc) : Ret Try.prog 36 #[Value.agg #[Value.int .i64 a.al, nx, ac]] w0 (fun v w => v = .bool (isPC a) ∧ Ext w0 w) := by
  have E := Ext.refl w0
  refine Ret.of (args := [Value.agg #[Value.int .i64 a.al, nx, ac]]) Try.func36 rfl rfl rfl ?_
  rintro _ rfl
  show Cq _ _ _ _ [(0, Value.agg #[Value.int .i64 a.al, nx, ac])] _
  refine Cq.seq ?_
  refine Cq.region ?_
  refine Sq.box .plain rfl rfl (fun b1 w2 e3 hB4 hlo5 => ?_)
  have hd6 := Nat.le_trans (Below.size E) hlo5
  have hs7 := Below.size e3
  replace E := E.trans e3
  refine Sq.assign .plain rfl rfl ?_
  refine Sq.nil ?_
  refine Eq.next ?_
  refine Cq.seq ?_
  refine Cq.region ?_
  refine Sq.loadAgg agg27 .plain rfl rfl hB4 rfl ?_
  rcases Bool.eq_false_or_eq_true (validA a) with hC | hC
  · have hv := hC
    refine Sq.call fn71 .plain rfl rfl (sSafety_c_T _ a _ _ (hnx.ext E) (hac.ext E) hC) ?_
    rintro _ w9 ⟨⟨_, rfl, nx11, ac12, rfl, hn13, ha14⟩, e10⟩
    have hs15 := Below.size E
    have hs16 := Below.size e10
    replace E := E.trans e10
    replace hB4 := hB4.ext e10
    refine Sq.move .plain rfl rfl ?_
    refine Sq.extract .plain rfl rfl rfl ?_
    refine Sq.extract .plain rfl rfl rfl ?_
    refine Sq.alloc zero27 .plain rfl (fun b17 w18 e19 hB20 hlo21 => ?_)
    have hd22 := Nat.le_trans (Below.size E) hlo21
    have hd23 := Nat.lt_of_lt_of_le hB4.lt hlo21
    have hs24 := Below.size e19
    replace E := E.trans e19
    replace hB4 := hB4.ext e19
    replace hn13 := hn13.ext e19
    replace ha14 := ha14.ext e19
    refine Sq.storeAgg agg27 .plain rfl rfl (one_cons rfl (one_cons (Rows.one (OwnRows.rows hn13)) (one_cons (Row.one (Own.row ha14)) one_nil))) hB20 rfl rfl (fun w25 g26 hB27 => ?_)
    have hs28 := World.grownBy.size g26
    replace E := E.grown g26 (fun k hk => by injection hk with hk; subst hk; omega)
    replace hB4 := hB4.grown g26 (by intro h; injection h with h; omega)
    replace hn13 := hn13.stored g26 hB20 (by decide) (by decide)
    replace ha14 := ha14.stored g26 hB20 (by decide)
    replace hB20 := hB27
    refine Sq.assign .plain rfl rfl ?_
    refine Sq.nil ?_
    refine Eq.next ?_
    refine Cq.seq ?_
    refine Cq.region ?_
    refine Sq.move .plain rfl rfl ?_
    refine Sq.move .plain rfl rfl ?_
    refine Sq.loadAgg agg27 (.met rfl rfl rfl) rfl rfl hB4 rfl ?_
    refine Sq.loadAgg agg27 (.met rfl rfl rfl) rfl rfl hB20 rfl ?_
    have hd32 := hB4.lt
    have hd33 := hB20.lt
    refine Sq.call fn32 (.met rfl rfl rfl) rfl rfl (sWithin2_c _ a (safe a) _ _ _ _ (hnx.ext E) (hac.ext E) (OwnRows.rows hn13) (Own.row ha14)) ?_
    rintro _ w30 ⟨rfl, e31⟩
    have hs34 := Below.size E
    have hs35 := Below.size e31
    replace E := E.trans e31
    refine Sq.pickT .plain rfl rfl rfl ?_
    refine Sq.assign .plain rfl rfl ?_
    refine Sq.nil ?_
    refine Eq.next ?_
    refine Cq.ret ?_
    refine Eq.ret1 rfl rfl ?_
    exact ⟨by rw [isPC, hv, Bool.true_and], E⟩
  refine Sq.call fn71 .plain rfl rfl (sSafety_c_F _ a _ _ (hnx.ext E) (hac.ext E) hC) ?_
  rintro _ w37 ⟨⟨_, rfl, nx39, ac40, rfl, hn41, ha42⟩, e38⟩
  have hs43 := Below.size E
  have hs44 := Below.size e38
  replace E := E.trans e38
  replace hB4 := hB4.ext e38
  refine Sq.move .plain rfl rfl ?_
  refine Sq.extract .plain rfl rfl rfl ?_
  refine Sq.extract .plain rfl rfl rfl ?_
  refine Sq.alloc zero27 .plain rfl (fun b45 w46 e47 hB48 hlo49 => ?_)
  have hd50 := Nat.le_trans (Below.size E) hlo49
  have hd51 := Nat.lt_of_lt_of_le hB4.lt hlo49
  have hs52 := Below.size e47
  replace E := E.trans e47
  replace hn41 := hn41.ext e47
  replace ha42 := ha42.ext e47
  refine Sq.storeAgg agg27 .plain rfl rfl (one_cons rfl (one_cons (Rows.one (OwnRows.rows hn41)) (one_cons (Row.one (Own.row ha42)) one_nil))) hB48 rfl rfl (fun w53 g54 hB55 => ?_)
  have hs56 := World.grownBy.size g54
  replace E := E.grown g54 (fun k hk => by injection hk with hk; subst hk; omega)
  refine Sq.assign .plain rfl rfl ?_
  refine Sq.nil ?_
  refine Eq.next ?_
  refine Cq.seq ?_
  refine Cq.region ?_
  refine Sq.move .plain rfl rfl ?_
  refine Sq.move .plain rfl rfl ?_
  refine Sq.off rfl rfl rfl rfl rfl rfl ?_
  refine Sq.off rfl rfl rfl rfl rfl rfl ?_
  refine Sq.off rfl rfl rfl rfl rfl rfl ?_
  refine Sq.pickF .plain rfl rfl rfl ?_
  refine Sq.assign .plain rfl rfl ?_
  refine Sq.nil ?_
  refine Eq.next ?_
  refine Cq.ret ?_
  refine Eq.ret1 rfl rfl ?_
  exact ⟨by rw [isPC_no hC], E⟩
end Go.Proofs.Ytdkdpmmfebdeaaa
set_option linter.unusedSimpArgs false
set_option linter.unusedVariables false
namespace Go.Proofs.Ytdkdpmmfebdeaaa
open Go.RowKit
set_option maxRecDepth 100000 in
theorem lExPC (w0 : World) (a : A) (nx ac : Value) (hnx : RowsX w0 nx a.next) (hac : BoolsX w0 ac a.acc) : Ret Try.prog 12 #[Value.agg #[Value.int .i64 a.al, nx, ac]] w0 (fun v w => v = .bool true ∧ Ext w0 w) := by
  have E := Ext.refl w0
  refine Ret.of (args := [Value.agg #[Value.int .i64 a.al, nx, ac]]) Try.func12 rfl rfl rfl ?_
  rintro _ rfl
  show Cq _ _ _ _ [(0, Value.agg #[Value.int .i64 a.al, nx, ac])] _
  refine Cq.seq ?_
  refine Cq.region ?_
  refine Sq.box .plain rfl rfl (fun b1 w2 e3 hB4 hlo5 => ?_)
  have hd6 := Nat.le_trans (Below.size E) hlo5
  have hs7 := Below.size e3
  replace E := E.trans e3
  refine Sq.assign .plain rfl rfl ?_
  refine Sq.nil ?_
  refine Eq.next ?_
  refine Cq.seq ?_
  refine Cq.region ?_
  refine Sq.assign .plain rfl rfl ?_
  refine Sq.nil ?_
  refine Eq.next ?_
  refine Cq.seq ?_
  refine Cq.region ?_
  refine Sq.loadAgg agg25 .plain rfl rfl hB4 rfl ?_
  refine Sq.move .plain rfl rfl ?_
  have hd14 := hB4.lt
  refine Sq.call fn13 .plain rfl rfl (szA_c _ a _ _ (hnx.ext E) (hac.ext E) 1048576 (by omega)) ?_
  rintro _ w9 ⟨⟨z11, rfl, hz12, hsm13⟩, e10⟩
  have hs15 := Below.size E
  have hs16 := Below.size e10
  replace E := E.trans e10
  replace hB4 := hB4.ext e10
  refine Sq.assign .plain rfl rfl ?_
  refine Sq.nil ?_
  refine Eq.next ?_
  refine Cq.seq ?_
  refine Cq.seq ?_
  refine Cq.region ?_
  refine Sq.move .plain rfl rfl ?_
  refine Sq.lss .plain rfl rfl rfl ?_
  refine Sq.part (fun c17 => ?_) (fun c17 => ?_)
  · refine Sq.nil ?_
    refine Eq.next ?_
    refine Cq.thn rfl ?_
    refine Cq.seq ?_
    refine Cq.region ?_
    refine Sq.assign .plain rfl rfl ?_
    refine Sq.nil ?_
    refine Eq.next ?_
    refine Cq.ret ?_
    refine Eq.pastRet ?_
    refine Eq.ret1 rfl rfl ?_
    exact ⟨rfl, E⟩
  refine Sq.nil ?_
  refine Eq.next ?_
  refine Cq.els rfl ?_
  refine Cq.skip ?_
  refine Eq.next ?_
  refine Cq.seq ?_
  refine Cq.region ?_
  refine Sq.loadAgg agg25 .plain rfl rfl hB4 rfl ?_
  have hd25 := hB4.lt
  refine Sq.call fn15 .plain rfl rfl (toA_c _ a _ _ (hnx.ext E) (hac.ext E) (hsm13 (by omega)).2) ?_
  rintro _ w19 ⟨⟨nx21, ac22, rfl, hn23, ha24⟩, e20⟩
  have hs26 := Below.size E
  have hs27 := Below.size e20
  replace E := E.trans e20
  replace hB4 := hB4.ext e20
  have hd31 := hB4.lt
  refine Sq.call fn36 .plain rfl rfl (sIsPC_c _ a _ _ (OwnRows.rows hn23) (Own.row ha24)) ?_
  rintro _ w29 ⟨rfl, e30⟩
  have hs32 := Below.size E
  have hs33 := Below.size e30
  replace E := E.trans e30
  replace hB4 := hB4.ext e30
  refine Sq.assign .plain rfl rfl ?_
  refine Sq.nil ?_
  refine Eq.next ?_
  refine Cq.seq ?_
  refine Cq.region ?_
  refine Sq.loadAgg agg25 .plain rfl rfl hB4 rfl ?_
  have hd41 := hB4.lt
  refine Sq.call fn15 .plain rfl rfl (toA_c _ a _ _ (hnx.ext E) (hac.ext E) (hsm13 (by omega)).2) ?_
  rintro _ w35 ⟨⟨nx37, ac38, rfl, hn39, ha40⟩, e36⟩
  have hs42 := Below.size E
  have hs43 := Below.size e36
  replace E := E.trans e36
  replace hB4 := hB4.ext e36
  refine Sq.alloc zero27 .plain rfl (fun b44 w45 e46 hB47 hlo48 => ?_)
  have hd49 := Nat.le_trans (Below.size E) hlo48
  have hd50 := Nat.lt_of_lt_of_le hB4.lt hlo48
  have hs51 := Below.size e46
  replace E := E.trans e46
  replace hB4 := hB4.ext e46
  replace hn39 := hn39.ext e46
  replace ha40 := ha40.ext e46
  refine Sq.storeAgg agg27 .plain rfl rfl (one_cons rfl (one_cons (Rows.one (OwnRows.rows hn39)) (one_cons (Row.one (Own.row ha40)) one_nil))) hB47 rfl rfl (fun w52 g53 hB54 => ?_)
  have hs55 := World.grownBy.size g53
  replace E := E.grown g53 (fun k hk => by injection hk with hk; subst hk; omega)
  replace hB4 := hB4.grown g53 (by intro h; injection h with h; omega)
  replace hn39 := hn39.stored g53 hB47 (by decide) (by decide)
  replace ha40 := ha40.stored g53 hB47 (by decide)
  replace hB47 := hB54
  refine Sq.nil ?_
  refine Eq.next ?_
  refine Cq.seq ?_
  refine Cq.region ?_
  refine Sq.loadAgg agg27 .plain rfl rfl hB47 rfl ?_
  have hd59 := hB4.lt
  have hd60 := hB47.lt
  refine Sq.call fn37 .plain rfl rfl (isPC_c _ a _ _ (OwnRows.rows hn39) (Own.row ha40)) ?_
  rintro _ w57 ⟨rfl, e58⟩
  have hs61 := Below.size E
  have hs62 := Below.size e58
  replace E := E.trans e58
  replace hB4 := hB4.ext e58
  replace hn39 := hn39.ext e58
  replace ha40 := ha40.ext e58
  replace hB47 := hB47.ext e58
  refine Sq.assign .plain rfl rfl ?_
  refine Sq.nil ?_
  refine Eq.next ?_
  refine Cq.seq ?_
  refine Cq.seq ?_
  refine Cq.region ?_
  refine Sq.move .plain rfl rfl ?_
  refine Sq.move .plain rfl rfl ?_
  refine Sq.neqB und4 .plain rfl rfl rfl ?_
  refine Sq.beF (by simp) ?_
  refine Sq.nil ?_
  refine Eq.next ?_
  refine Cq.els rfl ?_
  refine Cq.skip ?_
  refine Eq.next ?_
  refine Cq.seq ?_
  refine Cq.seq ?_
  refine Cq.draw 5 none mixed (fun w63 e64 => ?_)
  have hs65 := Below.size e64
  replace E := E.trans e64
  replace hB4 := hB4.ext e64
  replace hn39 := hn39.ext e64
  replace ha40 := ha40.ext e64
  replace hB47 := hB47.ext e64
  have hB4_w63 := hB4
  have hB47_w63 := hB47
  refine Gq.st 0 rfl (by kernel_rfl) rfl .plain rfl (fun _ _ _ h => h) (World.grownBy.refl w63 _) (fun w' x => Still.loadAgg agg27 rfl (hB47_w63.ext (Ext.of_grown x)) rfl) ?_
  refine Gq.st 1 rfl (by kernel_rfl) rfl .plain rfl (fun _ _ _ h => h) (World.grownBy.refl w63 _) (fun w' x => Still.loadAgg agg25 rfl (hB4_w63.ext (Ext.of_grown x)) rfl) ?_
  refine Gq.one 2 rfl (by kernel_rfl) ?_
  have hd73 := hB4.lt
  have hd74 := hB47.lt
  refine Sq.call fn15 .plain rfl rfl (toA_c _ a _ _ (hnx.ext E) (hac.ext E) (hsm13 (by omega)).2) ?_
  rintro _ w67 ⟨⟨nx69, ac70, rfl, hn71, ha72⟩, e68⟩
  have hs75 := Below.size E
  have hs76 := Below.size e68
  replace E := E.trans e68
  replace hB4 := hB4.ext e68
  replace hn39 := hn39.ext e68
  replace ha40 := ha40.ext e68
  replace hB47 := hB47.ext e68
  refine Sq.nil ?_
  refine Eq.goes (fun _ => (grown_trans (World.grownBy.refl w63 _) (Ext.to_grown e68 _))) ?_
  refine Gq.one 3 rfl (by kernel_rfl) ?_
  have hd80 := hB4.lt
  have hd81 := hB47.lt
  refine Sq.call fn17 .plain rfl rfl (eqAut_c _ a a _ _ _ _ (OwnRows.rows hn39) (Own.row ha40) (OwnRows.rows hn71) (Own.row ha72) ((hsm13 (by omega)).2)) ?_
  rintro _ w78 ⟨rfl, e79⟩
  have hs82 := Below.size E
  have hs83 := Below.size e79
  replace E := E.trans e79
  refine Sq.beT (eqA_refl _) ?_
  refine Sq.nil ?_
  refine Eq.goes (fun _ => (grown_trans (grown_trans (World.grownBy.refl w63 _) (Ext.to_grown e68 _)) (Ext.to_grown e79 _))) ?_
  refine Gq.st 4 rfl (by kernel_rfl) rfl .plain rfl (fun _ _ _ h => h) (grown_trans (grown_trans (World.grownBy.refl w63 _) (Ext.to_grown e68 _)) (Ext.to_grown e79 _)) (fun w' x => Still.notT rfl) ?_
  refine Gq.done (by kernel_rfl) ?_
  refine Eq.next ?_
  refine Cq.els rfl ?_
  refine Cq.skip ?_
  refine Eq.next ?_
  refine Cq.seq ?_
  refine Cq.region ?_
  refine Sq.assign .plain rfl rfl ?_
  refine Sq.nil ?_
  refine Eq.next ?_
  refine Cq.ret ?_
  refine Eq.ret1 rfl rfl ?_
  exact ⟨rfl, E⟩
end Go.Proofs.Ytdkdpmmfebdeaaa
