/-
  Walks, printed by a program out of the translation and a contract for each function; each step is one law.
-/
import Derived.Test.YtdkdpmmfebdeaaaWr
set_option linter.unusedSimpArgs false
set_option linter.unusedVariables false
namespace Go.Proofs.Ytdkdpmmfebdeaaa
open Go.RowKit

set_option maxRecDepth 100000 in
theorem letterByte_c (x : Int) (hx : 0 ≤ x ∧ x ≤ 100) (w0 : World) : Ret Try.prog 109 #[Value.int .i64 x] w0 (fun v w => v = .int .u8 (97 + x) ∧ w0 = w) := by
  refine Ret.of (args := [Value.int .i64 x]) Try.func109 rfl rfl rfl ?_
  rintro _ rfl
  show Cq _ _ _ _ [(0, Value.int .i64 x)] _
  refine Cq.seq ?_
  refine Cq.region ?_
  refine Sq.assign .plain rfl rfl ?_
  refine Sq.nil ?_
  refine Eq.next ?_
  refine Cq.seq ?_
  refine Cq.region ?_
  refine Sq.move .plain rfl rfl ?_
  refine Sq.add .plain rfl rfl rfl (by omega) ?_
  refine Sq.conv8 conv3_5 .plain rfl rfl (by omega) ?_
  refine Sq.assign .plain rfl rfl ?_
  refine Sq.nil ?_
  refine Eq.next ?_
  refine Cq.ret ?_
  refine Eq.ret1 rfl rfl ?_
  exact ⟨rfl, rfl⟩

set_option maxRecDepth 100000 in
theorem reverse_c (w0 : World) (B : Nat) (r : Value) (xs : List UInt8) (ho : Own w0 B 5 r (xs.map fun b => Value.int .u8 (b.toNat : Int))) (hl : xs.length ≤ 1000) : Ret Try.prog 110 #[r] w0 (fun v w => v = .tuple #[] ∧ Own w B 5 r (xs.reverse.map fun b => Value.int .u8 (b.toNat : Int)) ∧ w0.grownBy w r.ownBlock) := by
  have hgo := World.grownBy.refl w0 r.ownBlock
  refine Ret.of (args := [r]) Try.func110 rfl rfl rfl ?_
  rintro _ rfl
  show Cq _ _ _ _ [(0, r)] _
  refine Cq.seq ?_
  refine Cq.region ?_
  refine Sq.move .plain rfl rfl ?_
  refine Sq.lenBytes (Own.row ho) .plain rfl und103 rfl ?_
  refine Sq.sub .plain rfl rfl rfl (by omega) ?_
  refine Sq.assign .plain rfl rfl ?_
  refine Sq.assign .plain rfl rfl ?_
  refine Sq.nil ?_
  refine Eq.next ?_
  refine Cq.block ?_
  rw [show ((xs.length : Int) - 1) = (xs.length : Int) - 1 - 0 by omega]
  refine Cq.loop (fun nn w ls => ∃ (i : Int), ∃ (ys : List UInt8), ls = [(0, r), (2, Value.int .i64 i), (3, Value.int .i64 ((xs.length : Int) - 1 - i))] ∧ (0 ≤ i ∧ i ≤ xs.length) ∧ Own w B 5 r (ys.map fun b => Value.int .u8 (b.toNat : Int)) ∧ RevAt xs i.toNat ys ∧ World.grownBy w0 w r.ownBlock ∧ nn = ((xs.length : Int) - i).toNat) _ _ ⟨0, _, rfl, by omega, ho, RevAt.zero xs, hgo, rfl⟩ (.cons rfl (.cons rfl (.cons rfl (.nil)))) ?_
  rintro nn wl1 ls ⟨i, ys, rfl, hi, ho, hr, hgo, rfl⟩
  have hyl := hr.1
  refine Cq.seq ?_
  refine Cq.seq ?_
  refine Cq.region ?_
  refine Sq.move .plain rfl rfl ?_
  refine Sq.move .plain rfl rfl ?_
  refine Sq.lss .plain rfl rfl rfl ?_
  refine Sq.part (fun c1 => ?_) (fun c1 => ?_)
  · refine Sq.nil ?_
    refine Eq.next ?_
    refine Cq.thn rfl ?_
    refine Cq.skip ?_
    refine Eq.next ?_
    refine Cq.seq ?_
    refine Cq.block ?_
    refine Cq.drawS 14 (fun w' => World.grownBy w0 w' r.ownBlock) mixed (hgo) (fun w2 e3 hS => ?_)
    clear hS
    have hs4 := Below.size e3
    replace hgo := grown_trans hgo (Ext.to_grown e3 _)
    replace ho := ho.ext e3
    have hgo_w2 := hgo
    have ho_w2 := ho
    refine Gq.st 0 rfl (by kernel_rfl) rfl .plain rfl (fun _ _ _ h => h) hgo (fun w' x => Still.move rfl) ?_
    refine Gq.st 1 rfl (by kernel_rfl) rfl .plain rfl (fun _ _ _ h => h) hgo (fun w' x => Still.move rfl) ?_
    refine Gq.st 2 rfl (by kernel_rfl) rfl .plain rfl (fun _ _ _ h => h) hgo (fun w' x => Still.move rfl) ?_
    refine Gq.st 3 rfl (by kernel_rfl) rfl .plain rfl (fun _ _ _ h => h) hgo (fun w' x => Still.move rfl) ?_
    refine Gq.st 4 rfl (by kernel_rfl) rfl .plain rfl (fun _ _ _ h => h) hgo (fun w' x => Still.move rfl) ?_
    refine Gq.st 5 rfl (by kernel_rfl) rfl .plain rfl (fun _ _ _ h => h) hgo (fun w' x => Still.move rfl) ?_
    refine Gq.st 8 rfl (by kernel_rfl) rfl .plain rfl (fun _ _ _ h => h) hgo (fun w' x => Still.move rfl) ?_
    refine Gq.st 9 rfl (by kernel_rfl) rfl .plain rfl (fun _ _ _ h => h) hgo (fun w' x => Still.move rfl) ?_
    refine Gq.two 6 10 rfl rfl (by kernel_rfl) ?_ ?_
    · obtain ⟨p5, hp6⟩ := Bytes.at (Own.row ho) (i := ((xs.length : Int) - 1 - i)) (by omega) (by omega)
      refine Sq.val .plain rfl rfl (Still.at' sl103 hp6 rfl rfl) ?_
      refine Sq.nil ?_
      refine Eq.goes (fun _ => hgo) ?_
      refine Gq.two 7 10 rfl rfl (by kernel_rfl) ?_ ?_
      · refine Sq.val .plain rfl rfl (Still.loadA one5 rfl hp6.1) ?_
        refine Sq.nil ?_
        refine Eq.goes (fun _ => hgo) ?_
        refine Gq.one 10 rfl (by kernel_rfl) ?_
        obtain ⟨p7, hp8⟩ := Bytes.at (Own.row ho) (i := i) (by omega) (by omega)
        refine Sq.val .plain rfl rfl (Still.at' sl103 hp8 rfl rfl) ?_
        refine Sq.nil ?_
        refine Eq.goes (fun _ => hgo) ?_
        refine Gq.one 11 rfl (by kernel_rfl) ?_
        refine Sq.val .plain rfl rfl (Still.loadA one5 rfl hp8.1) ?_
        refine Sq.nil ?_
        refine Eq.goes (fun _ => hgo) ?_
        obtain ⟨p9, hp10_w2⟩ := Bytes.at (Own.row ho_w2) (i := i) (by omega) (by omega)
        have hp10o := AtO.of ho_w2 hp10_w2
        refine Gq.st 12 rfl (by kernel_rfl) rfl .plain rfl (fun _ _ _ h => h) hgo (fun w' x => Still.at' sl103 hp10_w2 rfl rfl) ?_
        refine Gq.one 13 rfl (by kernel_rfl) ?_
        refine Sq.storeO one5 ho hp10o .plain rfl rfl rfl (fun w11 g12 ho13 => ?_)
        have hs14 := World.grownBy.size g12
        replace hgo := grown_trans hgo g12
        replace ho := ho13
        refine Sq.nil ?_
        refine Eq.goes (fun _ => hgo) ?_
        refine Gq.one 14 rfl (by kernel_rfl) ?_
        obtain ⟨p15, hp16o⟩ := Own.at ho (i := ((xs.length : Int) - 1 - i)) (by omega) (by first | (simp only [List.length_map]; omega) | (simp; omega))
        refine Sq.atO sl103 hp16o .plain rfl rfl rfl ?_
        refine Sq.nil ?_
        refine Eq.goes (fun h => absurd h (by decide)) ?_
        refine Gq.one 15 rfl (by kernel_rfl) ?_
        refine Sq.storeO one5 ho hp16o .plain rfl rfl rfl (fun w17 g18 ho19 => ?_)
        have hs20 := World.grownBy.size g18
        replace hgo := grown_trans hgo g18
        replace ho := ho19
        refine Sq.nil ?_
        refine Eq.goes (fun h => absurd h (by decide)) ?_
        refine Gq.done (by kernel_rfl) ?_
        refine Eq.end ?_
        refine Eq.next ?_
        refine Cq.region ?_
        refine Sq.move .plain rfl rfl ?_
        refine Sq.add .plain rfl rfl rfl (by omega) ?_
        refine Sq.move .plain rfl rfl ?_
        refine Sq.sub .plain rfl rfl rfl (by omega) ?_
        refine Sq.assign .plain rfl rfl ?_
        refine Sq.assign .plain rfl rfl ?_
        refine Sq.nil ?_
        have e1 := toNat_succ hi.1
        have e2 : (((xs.length : Int) - 1 - i) - 1) = (xs.length : Int) - 1 - (i + 1) := by omega
        have e3 := hr.step (by omega)
        have e4 : ((xs.length : Int) - 1 - i).toNat = xs.length - 1 - i.toNat := by omega
        rw [e2]
        refine Eq.round _ _ ⟨i + 1, _, rfl, by omega, Own.setU2 ho, by rw [e1, e4]; exact e3, hgo, rfl⟩ (by omega) (.cons rfl (.cons rfl (.cons rfl (.nil))))
      · obtain ⟨p21, hp22⟩ := Bytes.at (Own.row ho) (i := i) (by omega) (by omega)
        refine Sq.val .plain rfl rfl (Still.at' sl103 hp22 rfl rfl) ?_
        refine Sq.nil ?_
        refine Eq.goes (fun _ => hgo) ?_
        refine Gq.two 7 11 rfl rfl (by kernel_rfl) ?_ ?_
        · refine Sq.val .plain rfl rfl (Still.loadA one5 rfl hp6.1) ?_
          refine Sq.nil ?_
          refine Eq.goes (fun _ => hgo) ?_
          refine Gq.one 11 rfl (by kernel_rfl) ?_
          refine Sq.val .plain rfl rfl (Still.loadA one5 rfl hp22.1) ?_
          refine Sq.nil ?_
          refine Eq.goes (fun _ => hgo) ?_
          obtain ⟨p23, hp24_w2⟩ := Bytes.at (Own.row ho_w2) (i := i) (by omega) (by omega)
          have hp24o := AtO.of ho_w2 hp24_w2
          refine Gq.st 12 rfl (by kernel_rfl) rfl .plain rfl (fun _ _ _ h => h) hgo (fun w' x => Still.at' sl103 hp24_w2 rfl rfl) ?_
          refine Gq.one 13 rfl (by kernel_rfl) ?_
          refine Sq.storeO one5 ho hp24o .plain rfl rfl rfl (fun w25 g26 ho27 => ?_)
          have hs28 := World.grownBy.size g26
          replace hgo := grown_trans hgo g26
          replace ho := ho27
          refine Sq.nil ?_
          refine Eq.goes (fun _ => hgo) ?_
          refine Gq.one 14 rfl (by kernel_rfl) ?_
          obtain ⟨p29, hp30o⟩ := Own.at ho (i := ((xs.length : Int) - 1 - i)) (by omega) (by first | (simp only [List.length_map]; omega) | (simp; omega))
          refine Sq.atO sl103 hp30o .plain rfl rfl rfl ?_
          refine Sq.nil ?_
          refine Eq.goes (fun h => absurd h (by decide)) ?_
          refine Gq.one 15 rfl (by kernel_rfl) ?_
          refine Sq.storeO one5 ho hp30o .plain rfl rfl rfl (fun w31 g32 ho33 => ?_)
          have hs34 := World.grownBy.size g32
          replace hgo := grown_trans hgo g32
          replace ho := ho33
          refine Sq.nil ?_
          refine Eq.goes (fun h => absurd h (by decide)) ?_
          refine Gq.done (by kernel_rfl) ?_
          refine Eq.end ?_
          refine Eq.next ?_
          refine Cq.region ?_
          refine Sq.move .plain rfl rfl ?_
          refine Sq.add .plain rfl rfl rfl (by omega) ?_
          refine Sq.move .plain rfl rfl ?_
          refine Sq.sub .plain rfl rfl rfl (by omega) ?_
          refine Sq.assign .plain rfl rfl ?_
          refine Sq.assign .plain rfl rfl ?_
          refine Sq.nil ?_
          have e1 := toNat_succ hi.1
          have e2 : (((xs.length : Int) - 1 - i) - 1) = (xs.length : Int) - 1 - (i + 1) := by omega
          have e3 := hr.step (by omega)
          have e4 : ((xs.length : Int) - 1 - i).toNat = xs.length - 1 - i.toNat := by omega
          rw [e2]
          refine Eq.round _ _ ⟨i + 1, _, rfl, by omega, Own.setU2 ho, by rw [e1, e4]; exact e3, hgo, rfl⟩ (by omega) (.cons rfl (.cons rfl (.cons rfl (.nil))))
        · refine Sq.val .plain rfl rfl (Still.loadA one5 rfl hp22.1) ?_
          refine Sq.nil ?_
          refine Eq.goes (fun _ => hgo) ?_
          refine Gq.one 7 rfl (by kernel_rfl) ?_
          refine Sq.val .plain rfl rfl (Still.loadA one5 rfl hp6.1) ?_
          refine Sq.nil ?_
          refine Eq.goes (fun _ => hgo) ?_
          obtain ⟨p35, hp36_w2⟩ := Bytes.at (Own.row ho_w2) (i := i) (by omega) (by omega)
          have hp36o := AtO.of ho_w2 hp36_w2
          refine Gq.st 12 rfl (by kernel_rfl) rfl .plain rfl (fun _ _ _ h => h) hgo (fun w' x => Still.at' sl103 hp36_w2 rfl rfl) ?_
          refine Gq.one 13 rfl (by kernel_rfl) ?_
          refine Sq.storeO one5 ho hp36o .plain rfl rfl rfl (fun w37 g38 ho39 => ?_)
          have hs40 := World.grownBy.size g38
          replace hgo := grown_trans hgo g38
          replace ho := ho39
          refine Sq.nil ?_
          refine Eq.goes (fun _ => hgo) ?_
          refine Gq.one 14 rfl (by kernel_rfl) ?_
          obtain ⟨p41, hp42o⟩ := Own.at ho (i := ((xs.length : Int) - 1 - i)) (by omega) (by first | (simp only [List.length_map]; omega) | (simp; omega))
          refine Sq.atO sl103 hp42o .plain rfl rfl rfl ?_
          refine Sq.nil ?_
          refine Eq.goes (fun h => absurd h (by decide)) ?_
          refine Gq.one 15 rfl (by kernel_rfl) ?_
          refine Sq.storeO one5 ho hp42o .plain rfl rfl rfl (fun w43 g44 ho45 => ?_)
          have hs46 := World.grownBy.size g44
          replace hgo := grown_trans hgo g44
          replace ho := ho45
          refine Sq.nil ?_
          refine Eq.goes (fun h => absurd h (by decide)) ?_
          refine Gq.done (by kernel_rfl) ?_
          refine Eq.end ?_
          refine Eq.next ?_
          refine Cq.region ?_
          refine Sq.move .plain rfl rfl ?_
          refine Sq.add .plain rfl rfl rfl (by omega) ?_
          refine Sq.move .plain rfl rfl ?_
          refine Sq.sub .plain rfl rfl rfl (by omega) ?_
          refine Sq.assign .plain rfl rfl ?_
          refine Sq.assign .plain rfl rfl ?_
          refine Sq.nil ?_
          have e1 := toNat_succ hi.1
          have e2 : (((xs.length : Int) - 1 - i) - 1) = (xs.length : Int) - 1 - (i + 1) := by omega
          have e3 := hr.step (by omega)
          have e4 : ((xs.length : Int) - 1 - i).toNat = xs.length - 1 - i.toNat := by omega
          rw [e2]
          refine Eq.round _ _ ⟨i + 1, _, rfl, by omega, Own.setU2 ho, by rw [e1, e4]; exact e3, hgo, rfl⟩ (by omega) (.cons rfl (.cons rfl (.cons rfl (.nil))))
    · obtain ⟨p47, hp48⟩ := Bytes.at (Own.row ho) (i := i) (by omega) (by omega)
      refine Sq.val .plain rfl rfl (Still.at' sl103 hp48 rfl rfl) ?_
      refine Sq.nil ?_
      refine Eq.goes (fun _ => hgo) ?_
      refine Gq.two 6 11 rfl rfl (by kernel_rfl) ?_ ?_
      · obtain ⟨p49, hp50⟩ := Bytes.at (Own.row ho) (i := ((xs.length : Int) - 1 - i)) (by omega) (by omega)
        refine Sq.val .plain rfl rfl (Still.at' sl103 hp50 rfl rfl) ?_
        refine Sq.nil ?_
        refine Eq.goes (fun _ => hgo) ?_
        refine Gq.two 7 11 rfl rfl (by kernel_rfl) ?_ ?_
        · refine Sq.val .plain rfl rfl (Still.loadA one5 rfl hp50.1) ?_
          refine Sq.nil ?_
          refine Eq.goes (fun _ => hgo) ?_
          refine Gq.one 11 rfl (by kernel_rfl) ?_
          refine Sq.val .plain rfl rfl (Still.loadA one5 rfl hp48.1) ?_
          refine Sq.nil ?_
          refine Eq.goes (fun _ => hgo) ?_
          obtain ⟨p51, hp52_w2⟩ := Bytes.at (Own.row ho_w2) (i := i) (by omega) (by omega)
          have hp52o := AtO.of ho_w2 hp52_w2
          refine Gq.st 12 rfl (by kernel_rfl) rfl .plain rfl (fun _ _ _ h => h) hgo (fun w' x => Still.at' sl103 hp52_w2 rfl rfl) ?_
          refine Gq.one 13 rfl (by kernel_rfl) ?_
          refine Sq.storeO one5 ho hp52o .plain rfl rfl rfl (fun w53 g54 ho55 => ?_)
          have hs56 := World.grownBy.size g54
          replace hgo := grown_trans hgo g54
          replace ho := ho55
          refine Sq.nil ?_
          refine Eq.goes (fun _ => hgo) ?_
          refine Gq.one 14 rfl (by kernel_rfl) ?_
          obtain ⟨p57, hp58o⟩ := Own.at ho (i := ((xs.length : Int) - 1 - i)) (by omega) (by first | (simp only [List.length_map]; omega) | (simp; omega))
          refine Sq.atO sl103 hp58o .plain rfl rfl rfl ?_
          refine Sq.nil ?_
          refine Eq.goes (fun h => absurd h (by decide)) ?_
          refine Gq.one 15 rfl (by kernel_rfl) ?_
          refine Sq.storeO one5 ho hp58o .plain rfl rfl rfl (fun w59 g60 ho61 => ?_)
          have hs62 := World.grownBy.size g60
          replace hgo := grown_trans hgo g60
          replace ho := ho61
          refine Sq.nil ?_
          refine Eq.goes (fun h => absurd h (by decide)) ?_
          refine Gq.done (by kernel_rfl) ?_
          refine Eq.end ?_
          refine Eq.next ?_
          refine Cq.region ?_
          refine Sq.move .plain rfl rfl ?_
          refine Sq.add .plain rfl rfl rfl (by omega) ?_
          refine Sq.move .plain rfl rfl ?_
          refine Sq.sub .plain rfl rfl rfl (by omega) ?_
          refine Sq.assign .plain rfl rfl ?_
          refine Sq.assign .plain rfl rfl ?_
          refine Sq.nil ?_
          have e1 := toNat_succ hi.1
          have e2 : (((xs.length : Int) - 1 - i) - 1) = (xs.length : Int) - 1 - (i + 1) := by omega
          have e3 := hr.step (by omega)
          have e4 : ((xs.length : Int) - 1 - i).toNat = xs.length - 1 - i.toNat := by omega
          rw [e2]
          refine Eq.round _ _ ⟨i + 1, _, rfl, by omega, Own.setU2 ho, by rw [e1, e4]; exact e3, hgo, rfl⟩ (by omega) (.cons rfl (.cons rfl (.cons rfl (.nil))))
        · refine Sq.val .plain rfl rfl (Still.loadA one5 rfl hp48.1) ?_
          refine Sq.nil ?_
          refine Eq.goes (fun _ => hgo) ?_
          refine Gq.one 7 rfl (by kernel_rfl) ?_
          refine Sq.val .plain rfl rfl (Still.loadA one5 rfl hp50.1) ?_
          refine Sq.nil ?_
          refine Eq.goes (fun _ => hgo) ?_
          obtain ⟨p63, hp64_w2⟩ := Bytes.at (Own.row ho_w2) (i := i) (by omega) (by omega)
          have hp64o := AtO.of ho_w2 hp64_w2
          refine Gq.st 12 rfl (by kernel_rfl) rfl .plain rfl (fun _ _ _ h => h) hgo (fun w' x => Still.at' sl103 hp64_w2 rfl rfl) ?_
          refine Gq.one 13 rfl (by kernel_rfl) ?_
          refine Sq.storeO one5 ho hp64o .plain rfl rfl rfl (fun w65 g66 ho67 => ?_)
          have hs68 := World.grownBy.size g66
          replace hgo := grown_trans hgo g66
          replace ho := ho67
          refine Sq.nil ?_
          refine Eq.goes (fun _ => hgo) ?_
          refine Gq.one 14 rfl (by kernel_rfl) ?_
          obtain ⟨p69, hp70o⟩ := Own.at ho (i := ((xs.length : Int) - 1 - i)) (by omega) (by first | (simp only [List.length_map]; omega) | (simp; omega))
          refine Sq.atO sl103 hp70o .plain rfl rfl rfl ?_
          refine Sq.nil ?_
          refine Eq.goes (fun h => absurd h (by decide)) ?_
          refine Gq.one 15 rfl (by kernel_rfl) ?_
          refine Sq.storeO one5 ho hp70o .plain rfl rfl rfl (fun w71 g72 ho73 => ?_)
          have hs74 := World.grownBy.size g72
          replace hgo := grown_trans hgo g72
          replace ho := ho73
          refine Sq.nil ?_
          refine Eq.goes (fun h => absurd h (by decide)) ?_
          refine Gq.done (by kernel_rfl) ?_
          refine Eq.end ?_
          refine Eq.next ?_
          refine Cq.region ?_
          refine Sq.move .plain rfl rfl ?_
          refine Sq.add .plain rfl rfl rfl (by omega) ?_
          refine Sq.move .plain rfl rfl ?_
          refine Sq.sub .plain rfl rfl rfl (by omega) ?_
          refine Sq.assign .plain rfl rfl ?_
          refine Sq.assign .plain rfl rfl ?_
          refine Sq.nil ?_
          have e1 := toNat_succ hi.1
          have e2 : (((xs.length : Int) - 1 - i) - 1) = (xs.length : Int) - 1 - (i + 1) := by omega
          have e3 := hr.step (by omega)
          have e4 : ((xs.length : Int) - 1 - i).toNat = xs.length - 1 - i.toNat := by omega
          rw [e2]
          refine Eq.round _ _ ⟨i + 1, _, rfl, by omega, Own.setU2 ho, by rw [e1, e4]; exact e3, hgo, rfl⟩ (by omega) (.cons rfl (.cons rfl (.cons rfl (.nil))))
      · refine Sq.val .plain rfl rfl (Still.loadA one5 rfl hp48.1) ?_
        refine Sq.nil ?_
        refine Eq.goes (fun _ => hgo) ?_
        refine Gq.one 6 rfl (by kernel_rfl) ?_
        obtain ⟨p75, hp76⟩ := Bytes.at (Own.row ho) (i := ((xs.length : Int) - 1 - i)) (by omega) (by omega)
        refine Sq.val .plain rfl rfl (Still.at' sl103 hp76 rfl rfl) ?_
        refine Sq.nil ?_
        refine Eq.goes (fun _ => hgo) ?_
        refine Gq.one 7 rfl (by kernel_rfl) ?_
        refine Sq.val .plain rfl rfl (Still.loadA one5 rfl hp76.1) ?_
        refine Sq.nil ?_
        refine Eq.goes (fun _ => hgo) ?_
        obtain ⟨p77, hp78_w2⟩ := Bytes.at (Own.row ho_w2) (i := i) (by omega) (by omega)
        have hp78o := AtO.of ho_w2 hp78_w2
        refine Gq.st 12 rfl (by kernel_rfl) rfl .plain rfl (fun _ _ _ h => h) hgo (fun w' x => Still.at' sl103 hp78_w2 rfl rfl) ?_
        refine Gq.one 13 rfl (by kernel_rfl) ?_
        refine Sq.storeO one5 ho hp78o .plain rfl rfl rfl (fun w79 g80 ho81 => ?_)
        have hs82 := World.grownBy.size g80
        replace hgo := grown_trans hgo g80
        replace ho := ho81
        refine Sq.nil ?_
        refine Eq.goes (fun _ => hgo) ?_
        refine Gq.one 14 rfl (by kernel_rfl) ?_
        obtain ⟨p83, hp84o⟩ := Own.at ho (i := ((xs.length : Int) - 1 - i)) (by omega) (by first | (simp only [List.length_map]; omega) | (simp; omega))
        refine Sq.atO sl103 hp84o .plain rfl rfl rfl ?_
        refine Sq.nil ?_
        refine Eq.goes (fun h => absurd h (by decide)) ?_
        refine Gq.one 15 rfl (by kernel_rfl) ?_
        refine Sq.storeO one5 ho hp84o .plain rfl rfl rfl (fun w85 g86 ho87 => ?_)
        have hs88 := World.grownBy.size g86
        replace hgo := grown_trans hgo g86
        replace ho := ho87
        refine Sq.nil ?_
        refine Eq.goes (fun h => absurd h (by decide)) ?_
        refine Gq.done (by kernel_rfl) ?_
        refine Eq.end ?_
        refine Eq.next ?_
        refine Cq.region ?_
        refine Sq.move .plain rfl rfl ?_
        refine Sq.add .plain rfl rfl rfl (by omega) ?_
        refine Sq.move .plain rfl rfl ?_
        refine Sq.sub .plain rfl rfl rfl (by omega) ?_
        refine Sq.assign .plain rfl rfl ?_
        refine Sq.assign .plain rfl rfl ?_
        refine Sq.nil ?_
        have e1 := toNat_succ hi.1
        have e2 : (((xs.length : Int) - 1 - i) - 1) = (xs.length : Int) - 1 - (i + 1) := by omega
        have e3 := hr.step (by omega)
        have e4 : ((xs.length : Int) - 1 - i).toNat = xs.length - 1 - i.toNat := by omega
        rw [e2]
        refine Eq.round _ _ ⟨i + 1, _, rfl, by omega, Own.setU2 ho, by rw [e1, e4]; exact e3, hgo, rfl⟩ (by omega) (.cons rfl (.cons rfl (.cons rfl (.nil))))
  · refine Sq.nil ?_
    refine Eq.next ?_
    refine Cq.els rfl ?_
    refine Cq.exit ?_
    refine Eq.past ?_
    refine Eq.past ?_
    refine Eq.hit ?_
    refine Eq.fall0 rfl ?_
    exact ⟨rfl, by rw [← hr.done (by omega)]; exact ho, hgo⟩

end Go.Proofs.Ytdkdpmmfebdeaaa
