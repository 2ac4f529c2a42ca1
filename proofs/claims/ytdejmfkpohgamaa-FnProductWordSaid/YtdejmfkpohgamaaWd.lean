/-
  Walks, printed by a program out of the translation and a contract for each function; each step is one law.
-/
import Derived.Test.YtdejmfkpohgamaaWc
set_option linter.unusedSimpArgs false
set_option linter.unusedVariables false
namespace Go.Proofs.Ytdejmfkpohgamaa
open Go.RowKit

set_option maxRecDepth 100000 in
theorem pick_c (w0 : World) (rb : Nat) (bv : Value) (p : Int) (bs : List UInt8) (e0 : TypeId) (hR : Blk w0 rb 88 [bv, .int .i64 p]) (hb : Src w0 e0 bv bs rb) (hbl : bs.length ≤ 2000) (hp : 0 ≤ p ∧ p ≤ 1000000000) (n : Int) (hn : n ≤ 1000000000) : Ret Try.prog 43 #[Value.pointer (some ⟨rb, 0, none⟩), Value.int .i64 n] w0 (fun v w => (∃ p', (p ≤ p' ∧ p' ≤ p + 1) ∧ Blk w rb 88 [bv, .int .i64 p'] ∧ w0.grownBy w (some rb)) ∧ ∃ k, v = .int .i64 k ∧ 0 ≤ k ∧ (1 ≤ n → k < n) ∧ (n < 1 → k = 0)) := by
  have G := World.grownBy.refl w0 (some rb)
  have hlt := hR.lt
  refine Ret.of (args := [Value.pointer (some ⟨rb, 0, none⟩), Value.int .i64 n]) Try.func43 rfl rfl rfl ?_
  rintro _ rfl
  show Cq _ _ _ _ [(0, Value.pointer (some ⟨rb, 0, none⟩)), (1, Value.int .i64 n)] _
  refine Cq.seq ?_
  refine Cq.region ?_
  refine Sq.assign .plain rfl rfl ?_
  refine Sq.nil ?_
  refine Eq.next ?_
  refine Cq.seq ?_
  refine Cq.region ?_
  refine Sq.move .plain rfl rfl ?_
  refine Sq.move .plain rfl rfl ?_
  refine Sq.nilCheck .plain rfl rfl ?_
  refine Sq.fieldAddr fld88_1 .plain rfl rfl ?_
  refine Sq.loadB one3 .plain rfl rfl hR rfl ?_
  refine Sq.add .plain rfl rfl rfl (by omega) ?_
  refine Sq.nilCheck .plain rfl rfl ?_
  refine Sq.fieldAddr fld88_1 .plain rfl rfl ?_
  refine Sq.store one3 .plain rfl rfl rfl hR (by simp) (fun w1 g2 hB3 => ?_)
  have hs4 := World.grownBy.size g2
  replace G := grown_trans G g2
  replace hR := hB3
  refine Sq.nil ?_
  refine Eq.next ?_
  refine Cq.seq ?_
  refine Cq.seq ?_
  refine Cq.region ?_
  refine Sq.move .plain rfl rfl ?_
  refine Sq.lss .plain rfl rfl rfl ?_
  refine Sq.part (fun c5 => ?_) (fun c5 => ?_)
  · refine Sq.move .plain rfl rfl ?_
    refine Sq.off rfl rfl rfl rfl rfl rfl ?_
    refine Sq.off rfl rfl rfl rfl rfl rfl ?_
    refine Sq.off rfl rfl rfl rfl rfl rfl ?_
    refine Sq.off rfl rfl rfl rfl rfl rfl ?_
    refine Sq.off rfl rfl rfl rfl rfl rfl ?_
    refine Sq.off rfl rfl rfl rfl rfl rfl ?_
    refine Sq.pickT .plain rfl rfl rfl ?_
    refine Sq.nil ?_
    refine Eq.next ?_
    refine Cq.thn rfl ?_
    refine Cq.seq ?_
    refine Cq.region ?_
    refine Sq.assign .plain rfl rfl ?_
    refine Sq.nil ?_
    refine Eq.next ?_
    refine Cq.ret ?_
    refine Eq.pastRet ?_
    refine Eq.ret1 rfl rfl ?_
    exact ⟨⟨_, by omega, hR, G⟩, _, rfl, by first | omega | exact rem_ok _ (by omega)⟩
  · refine Sq.move .plain rfl rfl ?_
    refine Sq.move (.met rfl rfl rfl) rfl rfl ?_
    refine Sq.nilCheck (.met rfl rfl rfl) rfl rfl ?_
    refine Sq.fieldAddr fld88_0 (.met rfl rfl rfl) rfl rfl ?_
    refine Sq.loadB one22 (.met rfl rfl rfl) rfl rfl hR rfl ?_
    refine Sq.lenBytes (hb.ext G) (.met rfl rfl rfl) rfl und22 rfl ?_
    refine Sq.eql (.met rfl rfl rfl) rfl rfl rfl ?_
    refine Sq.part (fun c6 => ?_) (fun c6 => ?_)
    · refine Sq.pickF .plain rfl rfl rfl ?_
      refine Sq.nil ?_
      refine Eq.next ?_
      refine Cq.thn rfl ?_
      refine Cq.seq ?_
      refine Cq.region ?_
      refine Sq.assign .plain rfl rfl ?_
      refine Sq.nil ?_
      refine Eq.next ?_
      refine Cq.ret ?_
      refine Eq.pastRet ?_
      refine Eq.ret1 rfl rfl ?_
      exact ⟨⟨_, by omega, hR, G⟩, _, rfl, by first | omega | exact rem_ok _ (by omega)⟩
    · refine Sq.pickF .plain rfl rfl rfl ?_
      refine Sq.nil ?_
      refine Eq.next ?_
      refine Cq.els rfl ?_
      refine Cq.skip ?_
      refine Eq.next ?_
      refine Cq.seq ?_
      refine Cq.region ?_
      refine Sq.move .plain rfl rfl ?_
      refine Sq.nilCheck .plain rfl rfl ?_
      refine Sq.fieldAddr fld88_1 .plain rfl rfl ?_
      refine Sq.loadB one3 .plain rfl rfl hR rfl ?_
      refine Sq.sub .plain rfl rfl rfl (by omega) ?_
      refine Sq.assign .plain rfl rfl ?_
      refine Sq.nil ?_
      refine Eq.next ?_
      refine Cq.seq ?_
      refine Cq.seq ?_
      refine Cq.region ?_
      refine Sq.move .plain rfl rfl ?_
      refine Sq.move .plain rfl rfl ?_
      refine Sq.nilCheck .plain rfl rfl ?_
      refine Sq.fieldAddr fld88_0 .plain rfl rfl ?_
      refine Sq.loadB one22 .plain rfl rfl hR rfl ?_
      refine Sq.lenBytes (hb.ext G) .plain rfl und22 rfl ?_
      refine Sq.lss .plain rfl rfl rfl ?_
      refine Sq.part (fun c7 => ?_) (fun c7 => ?_)
      · refine Sq.nil ?_
        refine Eq.next ?_
        refine Cq.thn rfl ?_
        refine Cq.seq ?_
        refine Cq.region ?_
        refine Sq.move .plain rfl rfl ?_
        refine Sq.nilCheck .plain rfl rfl ?_
        refine Sq.fieldAddr fld88_0 .plain rfl rfl ?_
        refine Sq.loadB one22 .plain rfl rfl hR rfl ?_
        refine Sq.move .plain rfl rfl ?_
        refine Sq.idxBytes sl22 one5 (hb.ext G) .plain rfl rfl rfl .plain rfl rfl (by omega) (by omega) ?_
        refine Sq.conv conv5_3 .plain rfl rfl (u8_ok _) ?_
        refine Sq.move .plain rfl rfl ?_
        refine Sq.rem .plain rfl rfl rfl (by omega) ?_
        refine Sq.assign .plain rfl rfl ?_
        refine Sq.nil ?_
        refine Eq.next ?_
        refine Cq.ret ?_
        refine Eq.pastRet ?_
        refine Eq.ret1 rfl rfl ?_
        exact ⟨⟨_, by omega, hR, G⟩, _, rfl, by first | omega | exact rem_ok _ (by omega)⟩
      · refine Sq.nil ?_
        refine Eq.next ?_
        refine Cq.els rfl ?_
        refine Cq.skip ?_
        refine Eq.next ?_
        refine Cq.seq ?_
        refine Cq.draw 45 none mixed (fun w8 e9 => ?_)
        have hs10 := Below.size e9
        replace hR := hR.ext e9
        replace G := grown_trans G (Ext.to_grown e9 _)
        have hR_w8 := hR
        have G_w8 := G
        refine Gq.st 0 rfl (by kernel_rfl) rfl .plain rfl (fun _ _ _ h => h) (World.grownBy.refl w8 _) (fun w' x => Still.move rfl) ?_
        refine Gq.st 1 rfl (by kernel_rfl) rfl .plain rfl (fun _ _ _ h => h) (World.grownBy.refl w8 _) (fun w' x => Still.nilCheck rfl) ?_
        refine Gq.st 2 rfl (by kernel_rfl) rfl .plain rfl (fun _ _ _ h => h) (World.grownBy.refl w8 _) (fun w' x => Still.fieldAddr fld88_0 rfl) ?_
        refine Gq.st 3 rfl (by kernel_rfl) rfl .plain rfl (fun _ _ _ h => h) (World.grownBy.refl w8 _) (fun w' x => Still.loadB one22 rfl (hR_w8.ext (Ext.of_grown x)) rfl) ?_
        refine Gq.st 4 rfl (by kernel_rfl) rfl .plain rfl (fun _ _ _ h => h) (World.grownBy.refl w8 _) (fun w' x => Still.move rfl) ?_
        refine Gq.st 5 rfl (by kernel_rfl) rfl .plain rfl (fun _ _ _ h => h) (World.grownBy.refl w8 _) (fun w' x => Still.move rfl) ?_
        refine Gq.st 6 rfl (by kernel_rfl) rfl .plain rfl (fun _ _ _ h => h) (World.grownBy.refl w8 _) (fun w' x => Still.nilCheck rfl) ?_
        refine Gq.st 7 rfl (by kernel_rfl) rfl .plain rfl (fun _ _ _ h => h) (World.grownBy.refl w8 _) (fun w' x => Still.fieldAddr fld88_0 rfl) ?_
        refine Gq.st 8 rfl (by kernel_rfl) rfl .plain rfl (fun _ _ _ h => h) (World.grownBy.refl w8 _) (fun w' x => Still.loadB one22 rfl (hR_w8.ext (Ext.of_grown x)) rfl) ?_
        refine Gq.st 9 rfl (by kernel_rfl) rfl .plain rfl (fun _ _ _ h => h) (World.grownBy.refl w8 _) (fun w' x => Still.lenBytes (hb.ext (grown_trans G_w8 (Ext.to_grown (Ext.of_grown x) _))) und22 rfl) ?_
        refine Gq.st 10 rfl (by kernel_rfl) rfl .plain rfl (fun _ _ _ h => h) (World.grownBy.refl w8 _) (fun w' x => Still.rem rfl rfl (by omega)) ?_
        obtain ⟨p11, hp12_w8⟩ := Bytes.at (hb.ext G_w8) (i := ((p + 1) - 1) % (List.length bs : Int)) ((rem_in (by omega) (by omega)).1) (rem_lt (by omega) (by omega))
        refine Gq.st 11 rfl (by kernel_rfl) rfl .plain rfl (fun _ _ _ h => h) (World.grownBy.refl w8 _) (fun w' x => Still.at' sl22 hp12_w8 rfl rfl) ?_
        refine Gq.st 12 rfl (by kernel_rfl) rfl .plain rfl (fun _ _ _ h => h) (World.grownBy.refl w8 _) (fun w' x => Still.loadA one5 rfl (hp12_w8.ext (Ext.of_grown x)).1) ?_
        refine Gq.st 13 rfl (by kernel_rfl) rfl .plain rfl (fun _ _ _ h => h) (World.grownBy.refl w8 _) (fun w' x => Still.conv conv5_3 rfl (u8_ok _)) ?_
        refine Gq.st 14 rfl (by kernel_rfl) rfl .plain rfl (fun _ _ _ h => h) (World.grownBy.refl w8 _) (fun w' x => Still.mul rfl rfl (u8_mul _ (by decide))) ?_
        refine Gq.st 15 rfl (by kernel_rfl) rfl .plain rfl (fun _ _ _ h => h) (World.grownBy.refl w8 _) (fun w' x => Still.move rfl) ?_
        refine Gq.st 16 rfl (by kernel_rfl) rfl .plain rfl (fun _ _ _ h => h) (World.grownBy.refl w8 _) (fun w' x => Still.nilCheck rfl) ?_
        refine Gq.st 17 rfl (by kernel_rfl) rfl .plain rfl (fun _ _ _ h => h) (World.grownBy.refl w8 _) (fun w' x => Still.fieldAddr fld88_0 rfl) ?_
        refine Gq.st 18 rfl (by kernel_rfl) rfl .plain rfl (fun _ _ _ h => h) (World.grownBy.refl w8 _) (fun w' x => Still.loadB one22 rfl (hR_w8.ext (Ext.of_grown x)) rfl) ?_
        refine Gq.st 19 rfl (by kernel_rfl) rfl .plain rfl (fun _ _ _ h => h) (World.grownBy.refl w8 _) (fun w' x => Still.move rfl) ?_
        refine Gq.st 20 rfl (by kernel_rfl) rfl .plain rfl (fun _ _ _ h => h) (World.grownBy.refl w8 _) (fun w' x => Still.mul rfl rfl (by omega)) ?_
        refine Gq.st 21 rfl (by kernel_rfl) rfl .plain rfl (fun _ _ _ h => h) (World.grownBy.refl w8 _) (fun w' x => Still.add rfl rfl (by omega)) ?_
        refine Gq.st 22 rfl (by kernel_rfl) rfl .plain rfl (fun _ _ _ h => h) (World.grownBy.refl w8 _) (fun w' x => Still.move rfl) ?_
        refine Gq.st 23 rfl (by kernel_rfl) rfl .plain rfl (fun _ _ _ h => h) (World.grownBy.refl w8 _) (fun w' x => Still.nilCheck rfl) ?_
        refine Gq.st 24 rfl (by kernel_rfl) rfl .plain rfl (fun _ _ _ h => h) (World.grownBy.refl w8 _) (fun w' x => Still.fieldAddr fld88_0 rfl) ?_
        refine Gq.st 25 rfl (by kernel_rfl) rfl .plain rfl (fun _ _ _ h => h) (World.grownBy.refl w8 _) (fun w' x => Still.loadB one22 rfl (hR_w8.ext (Ext.of_grown x)) rfl) ?_
        refine Gq.st 26 rfl (by kernel_rfl) rfl .plain rfl (fun _ _ _ h => h) (World.grownBy.refl w8 _) (fun w' x => Still.lenBytes (hb.ext (grown_trans G_w8 (Ext.to_grown (Ext.of_grown x) _))) und22 rfl) ?_
        refine Gq.st 27 rfl (by kernel_rfl) rfl .plain rfl (fun _ _ _ h => h) (World.grownBy.refl w8 _) (fun w' x => Still.rem rfl rfl (by omega)) ?_
        obtain ⟨p13, hp14_w8⟩ := Bytes.at (hb.ext G_w8) (i := ((((p + 1) - 1) * 7) + 3) % (List.length bs : Int)) ((rem_in (by omega) (by omega)).1) (rem_lt (by omega) (by omega))
        refine Gq.st 28 rfl (by kernel_rfl) rfl .plain rfl (fun _ _ _ h => h) (World.grownBy.refl w8 _) (fun w' x => Still.at' sl22 hp14_w8 rfl rfl) ?_
        refine Gq.st 29 rfl (by kernel_rfl) rfl .plain rfl (fun _ _ _ h => h) (World.grownBy.refl w8 _) (fun w' x => Still.loadA one5 rfl (hp14_w8.ext (Ext.of_grown x)).1) ?_
        refine Gq.st 30 rfl (by kernel_rfl) rfl .plain rfl (fun _ _ _ h => h) (World.grownBy.refl w8 _) (fun w' x => Still.conv conv5_3 rfl (u8_ok _)) ?_
        refine Gq.st 31 rfl (by kernel_rfl) rfl .plain rfl (fun _ _ _ h => h) (World.grownBy.refl w8 _) (fun w' x => Still.mul rfl rfl (u8_mul _ (by decide))) ?_
        refine Gq.st 32 rfl (by kernel_rfl) rfl .plain rfl (fun _ _ _ h => h) (World.grownBy.refl w8 _) (fun w' x => Still.add rfl rfl (u8_sum _ _)) ?_
        refine Gq.st 33 rfl (by kernel_rfl) rfl .plain rfl (fun _ _ _ h => h) (World.grownBy.refl w8 _) (fun w' x => Still.move rfl) ?_
        refine Gq.st 34 rfl (by kernel_rfl) rfl .plain rfl (fun _ _ _ h => h) (World.grownBy.refl w8 _) (fun w' x => Still.mul rfl rfl (by omega)) ?_
        refine Gq.st 35 rfl (by kernel_rfl) rfl .plain rfl (fun _ _ _ h => h) (World.grownBy.refl w8 _) (fun w' x => Still.add rfl rfl (u8_sum3 _ _ (by omega))) ?_
        refine Gq.st 36 rfl (by kernel_rfl) rfl .plain rfl (fun _ _ _ h => h) (World.grownBy.refl w8 _) (fun w' x => Still.move rfl) ?_
        refine Gq.st 37 rfl (by kernel_rfl) rfl .plain rfl (fun _ _ _ h => h) (World.grownBy.refl w8 _) (fun w' x => Still.move rfl) ?_
        refine Gq.st 38 rfl (by kernel_rfl) rfl .plain rfl (fun _ _ _ h => h) (World.grownBy.refl w8 _) (fun w' x => Still.nilCheck rfl) ?_
        refine Gq.st 39 rfl (by kernel_rfl) rfl .plain rfl (fun _ _ _ h => h) (World.grownBy.refl w8 _) (fun w' x => Still.fieldAddr fld88_0 rfl) ?_
        refine Gq.st 40 rfl (by kernel_rfl) rfl .plain rfl (fun _ _ _ h => h) (World.grownBy.refl w8 _) (fun w' x => Still.loadB one22 rfl (hR_w8.ext (Ext.of_grown x)) rfl) ?_
        refine Gq.st 41 rfl (by kernel_rfl) rfl .plain rfl (fun _ _ _ h => h) (World.grownBy.refl w8 _) (fun w' x => Still.lenBytes (hb.ext (grown_trans G_w8 (Ext.to_grown (Ext.of_grown x) _))) und22 rfl) ?_
        refine Gq.st 42 rfl (by kernel_rfl) rfl .plain rfl (fun _ _ _ h => h) (World.grownBy.refl w8 _) (fun w' x => Still.quo rfl rfl (by omega)) ?_
        refine Gq.st 43 rfl (by kernel_rfl) rfl .plain rfl (fun _ _ _ h => h) (World.grownBy.refl w8 _) (fun w' x => Still.mul rfl rfl (div_mul (by omega))) ?_
        refine Gq.st 44 rfl (by kernel_rfl) rfl .plain rfl (fun _ _ _ h => h) (World.grownBy.refl w8 _) (fun w' x => Still.add rfl rfl (u8_sum4 _ _ _ (by omega))) ?_
        refine Gq.one 45 rfl (by kernel_rfl) ?_
        refine Sq.assign .plain rfl rfl ?_
        refine Sq.nil ?_
        refine Eq.goes (fun h => absurd h (by decide)) ?_
        refine Gq.done (by kernel_rfl) ?_
        refine Eq.next ?_
        refine Cq.seq ?_
        refine Cq.region ?_
        refine Sq.move .plain rfl rfl ?_
        refine Sq.move .plain rfl rfl ?_
        refine Sq.quo .plain rfl rfl rfl (u8_quo _ _ _ (by omega)) ?_
        refine Sq.xor .plain rfl rfl rfl (u8_xor _ _ _ (by omega)) ?_
        refine Sq.assign .plain rfl rfl ?_
        refine Sq.nil ?_
        refine Eq.next ?_
        refine Cq.seq ?_
        refine Cq.region ?_
        refine Sq.move .plain rfl rfl ?_
        refine Sq.move .plain rfl rfl ?_
        refine Sq.rem .plain rfl rfl rfl (⟨Int.natCast_nonneg _, by omega⟩) ?_
        refine Sq.assign .plain rfl rfl ?_
        refine Sq.nil ?_
        refine Eq.next ?_
        refine Cq.ret ?_
        refine Eq.ret1 rfl rfl ?_
        exact ⟨⟨_, by omega, hR, G⟩, _, rfl, by first | omega | exact rem_ok _ (by omega)⟩

set_option maxRecDepth 100000 in
theorem num_c (w0 : World) (rb : Nat) (bv : Value) (p : Int) (bs : List UInt8) (e0 : TypeId) (hR : Blk w0 rb 88 [bv, .int .i64 p]) (hb : Src w0 e0 bv bs rb) (hbl : bs.length ≤ 2000) (hp : 0 ≤ p ∧ p ≤ 900000000) (lv : Value) (xs : List Int) (hx : Ints w0 3 lv xs) (hl : 1 ≤ xs.length ∧ xs.length ≤ 1000) : Ret Try.prog 47 #[Value.pointer (some ⟨rb, 0, none⟩), lv] w0 (fun v w => (∃ p', (p ≤ p' ∧ p' ≤ p + 1) ∧ Blk w rb 88 [bv, .int .i64 p'] ∧ w0.grownBy w (some rb)) ∧ ∃ k, v = .int .i64 k ∧ k ∈ xs) := by
  have G := World.grownBy.refl w0 (some rb)
  have hlt := hR.lt
  refine Ret.of (args := [Value.pointer (some ⟨rb, 0, none⟩), lv]) Try.func47 rfl rfl rfl ?_
  rintro _ rfl
  show Cq _ _ _ _ [(0, Value.pointer (some ⟨rb, 0, none⟩)), (1, lv)] _
  refine Cq.seq ?_
  refine Cq.region ?_
  refine Sq.assign .plain rfl rfl ?_
  refine Sq.nil ?_
  refine Eq.next ?_
  refine Cq.seq ?_
  refine Cq.region ?_
  refine Sq.move .plain rfl rfl ?_
  refine Sq.move .plain rfl rfl ?_
  refine Sq.move .plain rfl rfl ?_
  refine Sq.lenInts hx .plain rfl und56 rfl ?_
  refine Sq.call fn43 .plain rfl rfl (pick_c _ _ _ _ _ _ hR (hb.go G) hbl (by omega) (List.length xs : Int) (by omega)) ?_
  rintro _ w2 ⟨⟨p3, hp6, hB5, g4⟩, ⟨k7, rfl, hk8⟩⟩
  have hs9 := World.grownBy.size g4
  have hs10 := World.grownBy.size G
  have hs11 := World.grownBy.size g4
  replace G := grown_trans G g4
  replace hx := hx.stored g4 hR (by decide)
  replace hR := hB5
  refine Sq.idxInts sl56 one3 hx .plain rfl rfl rfl .plain rfl rfl (by omega) (by omega) ?_
  refine Sq.assign .plain rfl rfl ?_
  refine Sq.nil ?_
  refine Eq.next ?_
  refine Cq.ret ?_
  refine Eq.ret1 rfl rfl ?_
  exact ⟨⟨_, by omega, hR, G⟩, _, rfl, getD_mem (by omega)⟩

set_option maxRecDepth 100000 in
theorem of_c (w0 : World) (rb : Nat) (bv : Value) (p : Int) (bs : List UInt8) (e0 : TypeId) (hR : Blk w0 rb 88 [bv, .int .i64 p]) (hb : Src w0 e0 bv bs rb) (hbl : bs.length ≤ 2000) (hp : 0 ≤ p ∧ p ≤ 900000000) (lv : Value) (xs : List ByteArray) (hx : Strs w0 9 lv xs) (hl : 1 ≤ xs.length ∧ xs.length ≤ 1000) : Ret Try.prog 85 #[Value.pointer (some ⟨rb, 0, none⟩), lv] w0 (fun v w => (∃ p', (p ≤ p' ∧ p' ≤ p + 1) ∧ Blk w rb 88 [bv, .int .i64 p'] ∧ w0.grownBy w (some rb)) ∧ ∃ k, v = .string k ∧ k ∈ xs) := by
  have G := World.grownBy.refl w0 (some rb)
  have hlt := hR.lt
  refine Ret.of (args := [Value.pointer (some ⟨rb, 0, none⟩), lv]) Try.func85 rfl rfl rfl ?_
  rintro _ rfl
  show Cq _ _ _ _ [(0, Value.pointer (some ⟨rb, 0, none⟩)), (1, lv)] _
  refine Cq.seq ?_
  refine Cq.region ?_
  refine Sq.assign .plain rfl rfl ?_
  refine Sq.nil ?_
  refine Eq.next ?_
  refine Cq.seq ?_
  refine Cq.region ?_
  refine Sq.move .plain rfl rfl ?_
  refine Sq.move .plain rfl rfl ?_
  refine Sq.move .plain rfl rfl ?_
  refine Sq.lenStrs hx .plain rfl und91 rfl ?_
  refine Sq.call fn43 .plain rfl rfl (pick_c _ _ _ _ _ _ hR (hb.go G) hbl (by omega) (List.length xs : Int) (by omega)) ?_
  rintro _ w2 ⟨⟨p3, hp6, hB5, g4⟩, ⟨k7, rfl, hk8⟩⟩
  have hs9 := World.grownBy.size g4
  have hs10 := World.grownBy.size G
  have hs11 := World.grownBy.size g4
  replace G := grown_trans G g4
  replace hx := hx.stored g4 hR (by decide)
  replace hR := hB5
  refine Sq.idxStrs sl91 one9 hx .plain rfl rfl rfl .plain rfl rfl (by omega) (by omega) ?_
  refine Sq.assign .plain rfl rfl ?_
  refine Sq.nil ?_
  refine Eq.next ?_
  refine Cq.ret ?_
  refine Eq.ret1 rfl rfl ?_
  exact ⟨⟨_, by omega, hR, G⟩, _, rfl, getD_mem (by omega)⟩

end Go.Proofs.Ytdejmfkpohgamaa
