/-
  Walks, printed by a program out of the translation and a contract for each function; each step is one law.
-/
import Derived.Test.YtdejmfkpohgamaaWh
import Derived.Test.YtdejmfkpohgamaaTz
set_option linter.unusedSimpArgs false
set_option linter.unusedVariables false
namespace Go.Proofs.Ytdejmfkpohgamaa
open Go.RowKit

set_option maxRecDepth 100000 in
theorem l4Change_c (w0 : World) (rb : Nat) (bv : Value) (p : Int) (bs : List UInt8) (e0 : TypeId) (hR : Blk w0 rb 88 [bv, .int .i64 p]) (hb : Src w0 e0 bv bs rb) (hbl : bs.length ≤ 2000) (hp : 0 ≤ p ∧ p ≤ 700000000) (a : A) (nx ac : Value) (hnx : Rows w0 56 3 nx a.next) (hac : Bools w0 4 ac a.acc) (N : Nat) (hN : N ≤ 1000) (hsm : Small N a) : Ret Try.prog 44 #[Value.pointer (some ⟨rb, 0, none⟩), Value.agg #[Value.int .i64 a.al, nx, ac]] w0 (fun v w => (∃ p', (p ≤ p' ∧ p' ≤ p + 10) ∧ Blk w rb 88 [bv, .int .i64 p'] ∧ w0.grownBy w (some rb)) ∧ ∃ a', RowsA w v a' ∧ Small (N + 20) a') := by
  have G := World.grownBy.refl w0 (some rb)
  have hlt := hR.lt
  have hsm1 := hsm.2.1
  have hsm2 := hsm.2.2.1
  refine Ret.of (args := [Value.pointer (some ⟨rb, 0, none⟩), Value.agg #[Value.int .i64 a.al, nx, ac]]) Try.func44 rfl rfl rfl ?_
  rintro _ rfl
  show Cq _ _ _ _ [(0, Value.pointer (some ⟨rb, 0, none⟩)), (1, Value.agg #[Value.int .i64 a.al, nx, ac])] _
  refine Cq.seq ?_
  refine Cq.region ?_
  refine Sq.box .plain rfl rfl (fun b1 w2 e3 hB4 hlo5 => ?_)
  have hd6 := Nat.lt_of_lt_of_le hR.lt hlo5
  have hd7 := Nat.le_trans (World.grownBy.size G) hlo5
  have hs8 := Below.size e3
  replace hR := hR.ext e3
  replace G := grown_trans G (Ext.to_grown e3 _)
  replace hnx := hnx.ext e3
  replace hac := hac.ext e3
  refine Sq.alloc zero26 .plain rfl (fun b9 w10 e11 hB12 hlo13 => ?_)
  have hd14 := Nat.lt_of_lt_of_le hR.lt hlo13
  have hd15 := Nat.le_trans (World.grownBy.size G) hlo13
  have hd16 := Nat.lt_of_lt_of_le hB4.lt hlo13
  have hs17 := Below.size e11
  replace hR := hR.ext e11
  replace G := grown_trans G (Ext.to_grown e11 _)
  replace hnx := hnx.ext e11
  replace hac := hac.ext e11
  replace hB4 := hB4.ext e11
  refine Sq.nil ?_
  refine Eq.next ?_
  refine Cq.seq ?_
  refine Cq.region ?_
  refine Sq.loadAgg agg26 .plain rfl rfl hB4 rfl ?_
  have hd25 := hR.lt
  have hd26 := hB4.lt
  have hd27 := hB12.lt
  refine Sq.call fn88 .plain rfl rfl (l3Copy_c _ a _ _ hnx hac (hsm.fit (by omega))) ?_
  rintro _ w19 ⟨⟨nx21, ac22, rfl, hn23, ha24⟩, e20⟩
  have hs28 := World.grownBy.size G
  have hs29 := Below.size e20
  replace hR := hR.ext e20
  replace G := grown_trans G (Ext.to_grown e20 _)
  replace hnx := hnx.ext e20
  replace hac := hac.ext e20
  replace hB4 := hB4.ext e20
  replace hB12 := hB12.ext e20
  refine Sq.alloc zero26 .plain rfl (fun b30 w31 e32 hB33 hlo34 => ?_)
  have hd35 := Nat.lt_of_lt_of_le hR.lt hlo34
  have hd36 := Nat.le_trans (World.grownBy.size G) hlo34
  have hd37 := Nat.lt_of_lt_of_le hB4.lt hlo34
  have hd38 := Nat.lt_of_lt_of_le hB12.lt hlo34
  have hs39 := Below.size e32
  replace hR := hR.ext e32
  replace G := grown_trans G (Ext.to_grown e32 _)
  replace hnx := hnx.ext e32
  replace hac := hac.ext e32
  replace hB4 := hB4.ext e32
  replace hB12 := hB12.ext e32
  replace hn23 := hn23.ext e32
  replace ha24 := ha24.ext e32
  refine Sq.storeAgg agg26 .plain rfl rfl (one_cons rfl (one_cons (Rows.one (OwnRows.rows hn23)) (one_cons (Row.one (Own.row ha24)) one_nil))) hB33 rfl rfl (fun w40 g41 hB42 => ?_)
  have hs43 := World.grownBy.size g41
  replace hR := hR.grown g41 (by intro h; injection h with h; omega)
  replace G := grown_far G g41 (fun k hk => by injection hk with hk; subst hk; omega)
  replace hnx := hnx.stored g41 hB33 (by decide) (by decide)
  replace hac := hac.stored g41 hB33 (by decide)
  replace hB4 := hB4.grown g41 (by intro h; injection h with h; omega)
  replace hB12 := hB12.grown g41 (by intro h; injection h with h; omega)
  replace hn23 := hn23.stored g41 hB33 (by decide) (by decide)
  replace ha24 := ha24.stored g41 hB33 (by decide)
  replace hB33 := hB42
  refine Sq.nil ?_
  refine Eq.next ?_
  refine Cq.seq ?_
  refine Cq.region ?_
  refine Sq.fieldAddr fld26_1 .plain rfl rfl ?_
  refine Sq.loadB one23 .plain rfl rfl hB33 rfl ?_
  refine Sq.lenRows (OwnRows.rows hn23) .plain rfl und23 rfl ?_
  refine Sq.assign .plain rfl rfl ?_
  refine Sq.nil ?_
  refine Eq.next ?_
  refine Cq.seq ?_
  refine Cq.seq ?_
  refine Cq.region ?_
  refine Sq.move .plain rfl rfl ?_
  refine Sq.eql .plain rfl rfl rfl ?_
  refine Sq.part (fun c44 => ?_) (fun c44 => ?_)
  · refine Sq.nil ?_
    refine Eq.next ?_
    refine Cq.thn rfl ?_
    refine Cq.seq ?_
    refine Cq.region ?_
    refine Sq.loadAgg agg26 .plain rfl rfl hB33 rfl ?_
    refine Sq.storeAgg agg26 .plain rfl rfl (one_cons rfl (one_cons (Rows.one (OwnRows.rows hn23)) (one_cons (Row.one (Own.row ha24)) one_nil))) hB12 rfl rfl (fun w45 g46 hB47 => ?_)
    have hs48 := World.grownBy.size g46
    replace hR := hR.grown g46 (by intro h; injection h with h; omega)
    replace G := grown_far G g46 (fun k hk => by injection hk with hk; subst hk; omega)
    replace hB4 := hB4.grown g46 (by intro h; injection h with h; omega)
    replace hn23 := hn23.stored g46 hB12 (by decide) (by decide)
    replace ha24 := ha24.stored g46 hB12 (by decide)
    replace hB33 := hB33.grown g46 (by intro h; injection h with h; omega)
    replace hB12 := hB47
    refine Sq.nil ?_
    refine Eq.next ?_
    refine Cq.ret ?_
    refine Eq.pastRet ?_
    refine Eq.retCell rfl rfl agg26 hB12 rfl ?_
    exact ⟨⟨_, by omega, hR, G⟩, a, ⟨_, _, rfl, (OwnRows.rows hn23), (Own.row ha24)⟩, hsm.mono (by omega)⟩
  · refine Sq.nil ?_
    refine Eq.next ?_
    refine Cq.els rfl ?_
    refine Cq.skip ?_
    refine Eq.next ?_
    refine Cq.seq ?_
    refine Cq.region ?_
    refine Sq.move .plain rfl rfl ?_
    refine Sq.move .plain rfl rfl ?_
    refine Sq.call fn43 .plain rfl rfl (pick_c _ _ _ _ _ _ hR (hb.go G) hbl (by omega) (List.length a.next : Int) (by omega)) ?_
    rintro _ w50 ⟨⟨p51, hp54, hB53, g52⟩, ⟨k55, rfl, hk56⟩⟩
    have hs57 := World.grownBy.size g52
    have hs58 := World.grownBy.size G
    have hs59 := World.grownBy.size g52
    replace G := grown_trans G g52
    replace hB4 := hB4.grown g52 (by intro h; injection h with h; omega)
    replace hB12 := hB12.grown g52 (by intro h; injection h with h; omega)
    replace hn23 := hn23.stored g52 hR (by decide) (by decide)
    replace ha24 := ha24.stored g52 hR (by decide)
    replace hB33 := hB33.grown g52 (by intro h; injection h with h; omega)
    replace hR := hB53
    refine Sq.assign .plain rfl rfl ?_
    refine Sq.nil ?_
    refine Eq.next ?_
    refine Cq.seq ?_
    refine Cq.seq ?_
    refine Cq.region ?_
    refine Sq.move .plain rfl rfl ?_
    refine Sq.call fn43 .plain rfl rfl (pick_c _ _ _ _ _ _ hR (hb.go G) hbl (by omega) 4 (by omega)) ?_
    rintro _ w61 ⟨⟨p62, hp65, hB64, g63⟩, ⟨k66, rfl, hk67⟩⟩
    have hs68 := World.grownBy.size g63
    have hs69 := World.grownBy.size G
    have hs70 := World.grownBy.size g63
    replace G := grown_trans G g63
    replace hB4 := hB4.grown g63 (by intro h; injection h with h; omega)
    replace hB12 := hB12.grown g63 (by intro h; injection h with h; omega)
    replace hn23 := hn23.stored g63 hR (by decide) (by decide)
    replace ha24 := ha24.stored g63 hR (by decide)
    replace hB33 := hB33.grown g63 (by intro h; injection h with h; omega)
    replace hR := hB64
    refine Sq.nil ?_
    refine Eq.next ?_
    refine Cq.block ?_
    refine Cq.seq ?_
    refine Cq.region ?_
    refine Sq.eql .plain rfl rfl rfl ?_
    refine Sq.part (fun c71 => ?_) (fun c71 => ?_)
    · refine Sq.assign .plain rfl rfl ?_
      refine Sq.nil ?_
      refine Eq.next ?_
      refine Cq.thn rfl ?_
      refine Cq.seq ?_
      refine Cq.region ?_
      have hrowk := hsm.rowAt (k := k55.toNat)
      refine Sq.fieldAddr fld26_2 .plain rfl rfl ?_
      refine Sq.loadB one24 .plain rfl rfl hB33 rfl ?_
      refine Sq.lenBools (Own.row ha24) .plain rfl und24 rfl ?_
      refine Sq.move .plain rfl rfl ?_
      refine Sq.gtr .plain rfl rfl rfl ?_
      refine Sq.part (fun c72 => ?_) (fun c72 => ?_)
      · refine Sq.nil ?_
        refine Eq.next ?_
        refine Cq.thn rfl ?_
        refine Cq.draw 9 none mixed (fun w73 e74 => ?_)
        have hs75 := Below.size e74
        replace hR := hR.ext e74
        replace G := grown_trans G (Ext.to_grown e74 _)
        replace hB4 := hB4.ext e74
        replace hB12 := hB12.ext e74
        replace hn23 := hn23.ext e74
        replace ha24 := ha24.ext e74
        replace hB33 := hB33.ext e74
        have hR_w73 := hR
        have G_w73 := G
        have hB4_w73 := hB4
        have hB12_w73 := hB12
        have hn23_w73 := hn23
        have ha24_w73 := ha24
        have hB33_w73 := hB33
        refine Gq.st 0 rfl (by kernel_rfl) rfl .plain rfl (fun _ _ _ h => h) (World.grownBy.refl w73 _) (fun w' x => Still.fieldAddr fld26_2 rfl) ?_
        refine Gq.st 1 rfl (by kernel_rfl) rfl .plain rfl (fun _ _ _ h => h) (World.grownBy.refl w73 _) (fun w' x => Still.loadB one24 rfl (hB33_w73.ext (Ext.of_grown x)) rfl) ?_
        refine Gq.st 2 rfl (by kernel_rfl) rfl .plain rfl (fun _ _ _ h => h) (World.grownBy.refl w73 _) (fun w' x => Still.move rfl) ?_
        refine Gq.st 3 rfl (by kernel_rfl) rfl .plain rfl (fun _ _ _ h => h) (World.grownBy.refl w73 _) (fun w' x => Still.fieldAddr fld26_2 rfl) ?_
        refine Gq.st 4 rfl (by kernel_rfl) rfl .plain rfl (fun _ _ _ h => h) (World.grownBy.refl w73 _) (fun w' x => Still.loadB one24 rfl (hB33_w73.ext (Ext.of_grown x)) rfl) ?_
        refine Gq.st 5 rfl (by kernel_rfl) rfl .plain rfl (fun _ _ _ h => h) (World.grownBy.refl w73 _) (fun w' x => Still.move rfl) ?_
        obtain ⟨p76, hp77_w73⟩ := Bools.at (Own.row ha24_w73) (i := k55) (by omega) (by omega)
        have hp77o := AtO.of ha24_w73 hp77_w73
        refine Gq.st 6 rfl (by kernel_rfl) rfl .plain rfl (fun _ _ _ h => h) (World.grownBy.refl w73 _) (fun w' x => Still.at' sl24 hp77_w73 rfl rfl) ?_
        refine Gq.st 7 rfl (by kernel_rfl) rfl .plain rfl (fun _ _ _ h => h) (World.grownBy.refl w73 _) (fun w' x => Still.loadA one4 rfl (hp77_w73.ext (Ext.of_grown x)).1) ?_
        refine Gq.st 8 rfl (by kernel_rfl) rfl .plain rfl (fun _ _ _ h => h) (World.grownBy.refl w73 _) (fun w' x => Still.not rfl) ?_
        refine Gq.one 9 rfl (by kernel_rfl) ?_
        obtain ⟨p78, hp79o⟩ := Own.at ha24 (i := k55) (by omega) (by first | (simp only [List.length_map]; omega) | (simp; omega))
        refine Sq.atO sl24 hp79o .plain rfl rfl rfl ?_
        refine Sq.nil ?_
        refine Eq.goes (fun h => absurd h (by decide)) ?_
        refine Gq.one 10 rfl (by kernel_rfl) ?_
        refine Sq.storeO one4 ha24 hp79o .plain rfl rfl rfl (fun w80 g81 ho82 => ?_)
        have hs83 := World.grownBy.size g81
        replace hR := hR.owned ha24 g81 (by decide)
        replace G := grown_new G ha24 g81 (by omega)
        replace hB4 := hB4.owned ha24 g81 (by decide)
        replace hB12 := hB12.owned ha24 g81 (by decide)
        replace hn23 := hn23.owned ha24 g81 (by decide) (by decide)
        replace hB33 := hB33.owned ha24 g81 (by decide)
        replace ha24 := ho82
        refine Sq.nil ?_
        refine Eq.goes (fun h => absurd h (by decide)) ?_
        refine Gq.done (by kernel_rfl) ?_
        refine Eq.end ?_
        refine Eq.next ?_
        refine Cq.seq ?_
        refine Cq.region ?_
        refine Sq.loadAgg agg26 .plain rfl rfl hB33 rfl ?_
        refine Sq.storeAgg agg26 .plain rfl rfl (one_cons rfl (one_cons (Rows.one (OwnRows.rows hn23)) (one_cons (Row.one (Own.row ha24)) one_nil))) hB12 rfl rfl (fun w84 g85 hB86 => ?_)
        have hs87 := World.grownBy.size g85
        replace hR := hR.grown g85 (by intro h; injection h with h; omega)
        replace G := grown_far G g85 (fun k hk => by injection hk with hk; subst hk; omega)
        replace hB4 := hB4.grown g85 (by intro h; injection h with h; omega)
        replace hn23 := hn23.stored g85 hB12 (by decide) (by decide)
        replace ha24 := ha24.stored g85 hB12 (by decide)
        replace hB33 := hB33.grown g85 (by intro h; injection h with h; omega)
        replace hB12 := hB86
        refine Sq.nil ?_
        refine Eq.next ?_
        refine Cq.ret ?_
        refine Eq.retCell rfl rfl agg26 hB12 rfl ?_
        exact ⟨⟨_, by omega, hR, G⟩, ⟨a.al, a.next, a.acc.set k55.toNat (!(a.acc.getD k55.toNat false))⟩, ⟨_, _, rfl, (OwnRows.rows hn23), (Own.row (Own.setB ha24))⟩, hsm.accs (by omega) (List.length_set ..)⟩
      · refine Sq.nil ?_
        refine Eq.next ?_
        refine Cq.els rfl ?_
        refine Cq.skip ?_
        refine Eq.end ?_
        refine Eq.next ?_
        refine Cq.seq ?_
        refine Cq.region ?_
        refine Sq.loadAgg agg26 .plain rfl rfl hB33 rfl ?_
        refine Sq.storeAgg agg26 .plain rfl rfl (one_cons rfl (one_cons (Rows.one (OwnRows.rows hn23)) (one_cons (Row.one (Own.row ha24)) one_nil))) hB12 rfl rfl (fun w88 g89 hB90 => ?_)
        have hs91 := World.grownBy.size g89
        replace hR := hR.grown g89 (by intro h; injection h with h; omega)
        replace G := grown_far G g89 (fun k hk => by injection hk with hk; subst hk; omega)
        replace hB4 := hB4.grown g89 (by intro h; injection h with h; omega)
        replace hn23 := hn23.stored g89 hB12 (by decide) (by decide)
        replace ha24 := ha24.stored g89 hB12 (by decide)
        replace hB33 := hB33.grown g89 (by intro h; injection h with h; omega)
        replace hB12 := hB90
        refine Sq.nil ?_
        refine Eq.next ?_
        refine Cq.ret ?_
        refine Eq.retCell rfl rfl agg26 hB12 rfl ?_
        exact ⟨⟨_, by omega, hR, G⟩, a, ⟨_, _, rfl, (OwnRows.rows hn23), (Own.row ha24)⟩, hsm.mono (by omega)⟩
    · refine Sq.assign .plain rfl rfl ?_
      refine Sq.nil ?_
      refine Eq.next ?_
      refine Cq.els rfl ?_
      refine Cq.seq ?_
      refine Cq.region ?_
      have hrowk := hsm.rowAt (k := k55.toNat)
      refine Sq.eql .plain rfl rfl rfl ?_
      refine Sq.part (fun c92 => ?_) (fun c92 => ?_)
      · refine Sq.assign .plain rfl rfl ?_
        refine Sq.nil ?_
        refine Eq.next ?_
        refine Cq.thn rfl ?_
        refine Cq.seq ?_
        refine Cq.region ?_
        refine Sq.fieldAddr fld26_1 .plain rfl rfl ?_
        refine Sq.loadB one23 .plain rfl rfl hB33 rfl ?_
        refine Sq.move .plain rfl rfl ?_
        refine Sq.idxRows sl23 one56 (OwnRows.rows hn23) .plain rfl rfl rfl .plain rfl rfl (by omega) (by omega) (fun r93 hr94 => ?_)
        refine Sq.lenInts hr94 .plain rfl und56 rfl ?_
        refine Sq.gtr .plain rfl rfl rfl ?_
        refine Sq.part (fun c95 => ?_) (fun c95 => ?_)
        · refine Sq.nil ?_
          refine Eq.next ?_
          refine Cq.thn rfl ?_
          obtain ⟨pA, rA, hpA, _⟩ := Rows.at (OwnRows.rows hn23) (i := k55) (by omega) (by omega)
          have hrA := (OwnRows.rowAt hn23 hpA).1
          obtain ⟨_, hoA, _, _⟩ := OwnRows.open hn23 (by decide)
          have hpAo := AtO.of hoA hpA
          refine Cq.drawS 16 (fun w' => Blk w' b30 26 [Value.int .i64 a.al, nx21, ac22] ∧ At w' 56 nx21 k55 pA rA) mixed (⟨hB33, hpA⟩) (fun w96 e97 hS => ?_)
          clear hS
          have hs98 := Below.size e97
          replace hR := hR.ext e97
          replace G := grown_trans G (Ext.to_grown e97 _)
          replace hB4 := hB4.ext e97
          replace hB12 := hB12.ext e97
          replace hn23 := hn23.ext e97
          replace ha24 := ha24.ext e97
          replace hB33 := hB33.ext e97
          replace hr94 := hr94.ext e97
          replace hpA := hpA.ext e97
          replace hrA := hrA.ext e97
          have hR_w96 := hR
          have G_w96 := G
          have hB4_w96 := hB4
          have hB12_w96 := hB12
          have hn23_w96 := hn23
          have ha24_w96 := ha24
          have hB33_w96 := hB33
          have hr94_w96 := hr94
          have hpA_w96 := hpA
          have hrA_w96 := hrA
          refine Gq.st 0 rfl (by kernel_rfl) rfl .plain rfl (fun _ _ _ h => h) ⟨hB33, hpA⟩ (fun w' x => Still.fieldAddr fld26_1 rfl) ?_
          refine Gq.st 1 rfl (by kernel_rfl) rfl .plain rfl (fun _ _ _ h => h) ⟨hB33, hpA⟩ (fun w' x => Still.loadB one23 rfl x.1 rfl) ?_
          refine Gq.st 2 rfl (by kernel_rfl) rfl .plain rfl (fun _ _ _ h => h) ⟨hB33, hpA⟩ (fun w' x => Still.move rfl) ?_
          refine Gq.st 3 rfl (by kernel_rfl) rfl .plain rfl (fun _ _ _ h => h) ⟨hB33, hpA⟩ (fun w' x => Still.at' sl23 hpA rfl rfl) ?_
          refine Gq.st 4 rfl (by kernel_rfl) rfl .plain rfl (fun _ _ _ h => h) ⟨hB33, hpA⟩ (fun w' x => Still.loadA one56 rfl (x.2).1) ?_
          refine Gq.st 5 rfl (by kernel_rfl) rfl .plain rfl (fun _ _ _ h => h) ⟨hB33, hpA⟩ (fun w' x => Still.move rfl) ?_
          refine Gq.st 6 rfl (by kernel_rfl) rfl .plain rfl (fun _ _ _ h => h) ⟨hB33, hpA⟩ (fun w' x => Still.fieldAddr fld26_1 rfl) ?_
          refine Gq.st 7 rfl (by kernel_rfl) rfl .plain rfl (fun _ _ _ h => h) ⟨hB33, hpA⟩ (fun w' x => Still.loadB one23 rfl x.1 rfl) ?_
          refine Gq.st 8 rfl (by kernel_rfl) rfl .plain rfl (fun _ _ _ h => h) ⟨hB33, hpA⟩ (fun w' x => Still.move rfl) ?_
          refine Gq.st 9 rfl (by kernel_rfl) rfl .plain rfl (fun _ _ _ h => h) ⟨hB33, hpA⟩ (fun w' x => Still.at' sl23 hpA rfl rfl) ?_
          refine Gq.st 10 rfl (by kernel_rfl) rfl .plain rfl (fun _ _ _ h => h) ⟨hB33, hpA⟩ (fun w' x => Still.loadA one56 rfl (x.2).1) ?_
          refine Gq.st 13 rfl (by kernel_rfl) rfl .plain rfl (fun _ _ _ h => h) ⟨hB33, hpA⟩ (fun w' x => Still.move rfl) ?_
          refine Gq.st 14 rfl (by kernel_rfl) rfl .plain rfl (fun _ _ _ h => h) ⟨hB33, hpA⟩ (fun w' x => Still.move rfl) ?_
          refine Gq.one 11 rfl (by kernel_rfl) ?_
          refine Sq.lenInts (Own.row hrA) .plain rfl und56 rfl ?_
          refine Sq.nil ?_
          refine Eq.goes (fun _ => ⟨hB33, hpA⟩) ?_
          refine Gq.one 12 rfl (by kernel_rfl) ?_
          refine Sq.call fn43 .plain rfl rfl (pick_c _ _ _ _ _ _ hR (hb.go G) hbl (by omega) ((List.length (a.next.getD k55.toNat []) : Int)) (by omega)) ?_
          rintro _ w100 ⟨⟨p101, hp104, hB103, g102⟩, ⟨k105, rfl, hk106⟩⟩
          have hs107 := World.grownBy.size g102
          have hs108 := World.grownBy.size G
          have hs109 := World.grownBy.size g102
          replace G := grown_trans G g102
          replace hB4 := hB4.grown g102 (by intro h; injection h with h; omega)
          replace hB12 := hB12.grown g102 (by intro h; injection h with h; omega)
          replace hn23 := hn23.stored g102 hR (by decide) (by decide)
          replace ha24 := ha24.stored g102 hR (by decide)
          replace hB33 := hB33.grown g102 (by intro h; injection h with h; omega)
          replace hr94 := hr94.stored g102 hR (by decide)
          replace hpA := hpA.stored g102 hR (by decide)
          replace hrA := hrA.stored g102 hR (by decide)
          replace hR := hB103
          refine Sq.nil ?_
          refine Eq.goes (fun _ => ⟨hB33, hpA⟩) ?_
          refine Gq.one 15 rfl (by kernel_rfl) ?_
          refine Sq.call fn43 .plain rfl rfl (pick_c _ _ _ _ _ _ hR (hb.go G) hbl (by omega) (List.length a.next : Int) (by omega)) ?_
          rintro _ w111 ⟨⟨p112, hp115, hB114, g113⟩, ⟨k116, rfl, hk117⟩⟩
          have hs118 := World.grownBy.size g113
          have hs119 := World.grownBy.size G
          have hs120 := World.grownBy.size g113
          replace G := grown_trans G g113
          replace hB4 := hB4.grown g113 (by intro h; injection h with h; omega)
          replace hB12 := hB12.grown g113 (by intro h; injection h with h; omega)
          replace hn23 := hn23.stored g113 hR (by decide) (by decide)
          replace ha24 := ha24.stored g113 hR (by decide)
          replace hB33 := hB33.grown g113 (by intro h; injection h with h; omega)
          replace hr94 := hr94.stored g113 hR (by decide)
          replace hpA := hpA.stored g113 hR (by decide)
          replace hrA := hrA.stored g113 hR (by decide)
          replace hR := hB114
          refine Sq.nil ?_
          refine Eq.goes (fun _ => ⟨hB33, hpA⟩) ?_
          refine Gq.one 16 rfl (by kernel_rfl) ?_
          obtain ⟨p121, hp122o⟩ := Own.at hrA (i := k105) (by omega) (by first | (simp only [List.length_map]; omega) | (simp; omega))
          refine Sq.atO sl56 hp122o .plain rfl rfl rfl ?_
          refine Sq.nil ?_
          refine Eq.goes (fun h => absurd h (by decide)) ?_
          refine Gq.one 17 rfl (by kernel_rfl) ?_
          refine Sq.storeO one3 hrA hp122o .plain rfl rfl rfl (fun w123 g124 ho125 => ?_)
          have hs126 := World.grownBy.size g124
          rw [← List.map_set] at ho125
          replace hn23 := (OwnRows.set hn23 (by decide) hpA ho125 g124).1
          replace hR := hR.owned hrA g124 (by decide)
          replace G := grown_new G hrA g124 (by omega)
          replace hB4 := hB4.owned hrA g124 (by decide)
          replace hB12 := hB12.owned hrA g124 (by decide)
          replace ha24 := ha24.owned hrA g124 (by decide)
          replace hB33 := hB33.owned hrA g124 (by decide)
          replace hrA := ho125
          refine Sq.nil ?_
          refine Eq.goes (fun h => absurd h (by decide)) ?_
          refine Gq.done (by kernel_rfl) ?_
          refine Eq.end ?_
          refine Eq.next ?_
          refine Cq.seq ?_
          refine Cq.region ?_
          refine Sq.loadAgg agg26 .plain rfl rfl hB33 rfl ?_
          refine Sq.storeAgg agg26 .plain rfl rfl (one_cons rfl (one_cons (Rows.one (OwnRows.rows hn23)) (one_cons (Row.one (Own.row ha24)) one_nil))) hB12 rfl rfl (fun w127 g128 hB129 => ?_)
          have hs130 := World.grownBy.size g128
          replace hR := hR.grown g128 (by intro h; injection h with h; omega)
          replace G := grown_far G g128 (fun k hk => by injection hk with hk; subst hk; omega)
          replace hB4 := hB4.grown g128 (by intro h; injection h with h; omega)
          replace hn23 := hn23.stored g128 hB12 (by decide) (by decide)
          replace ha24 := ha24.stored g128 hB12 (by decide)
          replace hB33 := hB33.grown g128 (by intro h; injection h with h; omega)
          replace hB12 := hB129
          refine Sq.nil ?_
          refine Eq.next ?_
          refine Cq.ret ?_
          refine Eq.retCell rfl rfl agg26 hB12 rfl ?_
          exact ⟨⟨_, by omega, hR, G⟩, ⟨a.al, a.next.set k55.toNat ((a.next.getD k55.toNat []).set k105.toNat k116), a.acc⟩, ⟨_, _, rfl, (OwnRows.rows hn23), (Own.row ha24)⟩, hsm.row (by omega) (by rw [List.length_set]; have := hsm.rowAt (k := k55.toNat); omega)⟩
        · refine Sq.nil ?_
          refine Eq.next ?_
          refine Cq.els rfl ?_
          refine Cq.skip ?_
          refine Eq.end ?_
          refine Eq.next ?_
          refine Cq.seq ?_
          refine Cq.region ?_
          refine Sq.loadAgg agg26 .plain rfl rfl hB33 rfl ?_
          refine Sq.storeAgg agg26 .plain rfl rfl (one_cons rfl (one_cons (Rows.one (OwnRows.rows hn23)) (one_cons (Row.one (Own.row ha24)) one_nil))) hB12 rfl rfl (fun w131 g132 hB133 => ?_)
          have hs134 := World.grownBy.size g132
          replace hR := hR.grown g132 (by intro h; injection h with h; omega)
          replace G := grown_far G g132 (fun k hk => by injection hk with hk; subst hk; omega)
          replace hB4 := hB4.grown g132 (by intro h; injection h with h; omega)
          replace hn23 := hn23.stored g132 hB12 (by decide) (by decide)
          replace ha24 := ha24.stored g132 hB12 (by decide)
          replace hB33 := hB33.grown g132 (by intro h; injection h with h; omega)
          replace hr94 := hr94.stored g132 hB12 (by decide)
          replace hB12 := hB133
          refine Sq.nil ?_
          refine Eq.next ?_
          refine Cq.ret ?_
          refine Eq.retCell rfl rfl agg26 hB12 rfl ?_
          exact ⟨⟨_, by omega, hR, G⟩, a, ⟨_, _, rfl, (OwnRows.rows hn23), (Own.row ha24)⟩, hsm.mono (by omega)⟩
      · refine Sq.assign .plain rfl rfl ?_
        refine Sq.nil ?_
        refine Eq.next ?_
        refine Cq.els rfl ?_
        refine Cq.seq ?_
        refine Cq.region ?_
        refine Sq.eql .plain rfl rfl rfl ?_
        refine Sq.part (fun c135 => ?_) (fun c135 => ?_)
        · refine Sq.assign .plain rfl rfl ?_
          refine Sq.nil ?_
          refine Eq.next ?_
          refine Cq.thn rfl ?_
          refine Cq.seq ?_
          refine Cq.region ?_
          refine Sq.move .plain rfl rfl ?_
          refine Sq.lss .plain rfl rfl rfl ?_
          refine Sq.part (fun c136 => ?_) (fun c136 => ?_)
          · refine Sq.move .plain rfl rfl ?_
            refine Sq.fieldAddr fld26_2 (.met rfl rfl rfl) rfl rfl ?_
            refine Sq.loadB one24 (.met rfl rfl rfl) rfl rfl hB33 rfl ?_
            refine Sq.lenBools (Own.row ha24) (.met rfl rfl rfl) rfl und24 rfl ?_
            refine Sq.move (.met rfl rfl rfl) rfl rfl ?_
            refine Sq.gtr (.met rfl rfl rfl) rfl rfl rfl ?_
            refine Sq.part (fun c137 => ?_) (fun c137 => ?_)
            · refine Sq.pickT .plain rfl rfl rfl ?_
              refine Sq.move .plain rfl rfl ?_
              refine Sq.fieldAddr fld26_1 (.met rfl rfl rfl) rfl rfl ?_
              refine Sq.loadB one23 (.met rfl rfl rfl) rfl rfl hB33 rfl ?_
              refine Sq.move (.met rfl rfl rfl) rfl rfl ?_
              refine Sq.idxRows sl23 one56 (OwnRows.rows hn23) (.met rfl rfl rfl) rfl rfl rfl (.met rfl rfl rfl) rfl rfl (by omega) (by omega) (fun r138 hr139 => ?_)
              refine Sq.lenInts hr139 (.met rfl rfl rfl) rfl und56 rfl ?_
              refine Sq.gtr (.met rfl rfl rfl) rfl rfl rfl ?_
              refine Sq.part (fun c140 => ?_) (fun c140 => ?_)
              · refine Sq.pickT .plain rfl rfl rfl ?_
                refine Sq.nil ?_
                refine Eq.next ?_
                refine Cq.thn rfl ?_
                refine Cq.seq ?_
                obtain ⟨pA, rA, hpA, _⟩ := Rows.at (OwnRows.rows hn23) (i := k55) (by omega) (by omega)
                have hrA := (OwnRows.rowAt hn23 hpA).1
                obtain ⟨_, hoA, _, _⟩ := OwnRows.open hn23 (by decide)
                have hpAo := AtO.of hoA hpA
                refine Cq.drawS 11 (fun w' => Blk w' b30 26 [Value.int .i64 a.al, nx21, ac22]) mixed (hB33) (fun w141 e142 hS => ?_)
                clear hS
                have hs143 := Below.size e142
                replace hR := hR.ext e142
                replace G := grown_trans G (Ext.to_grown e142 _)
                replace hB4 := hB4.ext e142
                replace hB12 := hB12.ext e142
                replace hn23 := hn23.ext e142
                replace ha24 := ha24.ext e142
                replace hB33 := hB33.ext e142
                replace hpA := hpA.ext e142
                replace hrA := hrA.ext e142
                have hR_w141 := hR
                have G_w141 := G
                have hB4_w141 := hB4
                have hB12_w141 := hB12
                have hn23_w141 := hn23
                have ha24_w141 := ha24
                have hB33_w141 := hB33
                have hpA_w141 := hpA
                have hrA_w141 := hrA
                refine Gq.st 0 rfl (by kernel_rfl) rfl .plain rfl (fun _ _ _ h => h) hB33 (fun w' x => Still.fieldAddr fld26_1 rfl) ?_
                refine Gq.st 1 rfl (by kernel_rfl) rfl .plain rfl (fun _ _ _ h => h) hB33 (fun w' x => Still.loadB one23 rfl x rfl) ?_
                refine Gq.st 3 rfl (by kernel_rfl) rfl .plain rfl (fun _ _ _ h => h) hB33 (fun w' x => Still.fieldAddr fld26_1 rfl) ?_
                refine Gq.st 4 rfl (by kernel_rfl) rfl .plain rfl (fun _ _ _ h => h) hB33 (fun w' x => Still.loadB one23 rfl x rfl) ?_
                refine Gq.st 5 rfl (by kernel_rfl) rfl .plain rfl (fun _ _ _ h => h) hB33 (fun w' x => Still.move rfl) ?_
                refine Gq.st 6 rfl (by kernel_rfl) rfl .plain rfl (fun _ _ _ h => h) hB33 (fun w' x => Still.at' sl23 hpA rfl rfl) ?_
                refine Gq.two 2 7 rfl rfl (by kernel_rfl) ?_ ?_
                · refine Sq.lit sl56 rfl rfl .plain rfl rfl one_nil (fun b144 w145 e146 hlo147 ho148 _ => ?_)
                  replace ho148 := ho148 w141.heap.size (Nat.le_refl _)
                  have hs150 := Below.size e146
                  replace hR := hR.ext e146
                  replace G := grown_trans G (Ext.to_grown e146 _)
                  replace hB4 := hB4.ext e146
                  replace hB12 := hB12.ext e146
                  replace hn23 := hn23.ext e146
                  replace ha24 := ha24.ext e146
                  replace hB33 := hB33.ext e146
                  replace hpA := hpA.ext e146
                  replace hrA := hrA.ext e146
                  refine Sq.nil ?_
                  refine Eq.goes (fun _ => hB33) ?_
                  refine Gq.one 7 rfl (by kernel_rfl) ?_
                  refine Sq.val .plain rfl rfl (Still.loadA one56 rfl hpA.1) ?_
                  refine Sq.nil ?_
                  refine Eq.goes (fun _ => hB33) ?_
                  refine Gq.one 8 rfl (by kernel_rfl) ?_
                  refine Sq.app sl56 ho148 (by omega) (Own.row hrA) (one_ints _) (by rw [List.length_map]; simp only [List.length_nil, Nat.zero_add]; omega) .plain rfl rfl rfl rfl (fun v151 w152 ho154 g153 => ?_)
                  have hs155 := g153.size
                  replace hR := hR.owned ho148 g153 (by decide)
                  replace G := grown_new G ho148 g153 (by omega)
                  replace hB4 := hB4.owned ho148 g153 (by decide)
                  replace hB12 := hB12.owned ho148 g153 (by decide)
                  replace hn23 := hn23.apart ho148 g153 (by omega) (by decide)
                  replace ha24 := ha24.owned ho148 g153 (by decide)
                  replace hB33 := hB33.owned ho148 g153 (by decide)
                  simp only [List.nil_append] at ho154
                  refine Sq.nil ?_
                  refine Eq.goes (fun _ => hB33) ?_
                  refine Gq.one 9 rfl (by kernel_rfl) ?_
                  refine Sq.lit sl23 rfl rfl .plain rfl rfl (one_cons (Row.one (Own.row ho154)) one_nil) (fun b156 w157 e158 hlo159 ho160 _ => ?_)
                  replace ho160 := ho160 w152.heap.size (Nat.le_refl _)
                  have hs162 := Below.size e158
                  replace hR := hR.ext e158
                  replace G := grown_trans G (Ext.to_grown e158 _)
                  replace hB4 := hB4.ext e158
                  replace hB12 := hB12.ext e158
                  replace hn23 := hn23.ext e158
                  replace ha24 := ha24.ext e158
                  replace hB33 := hB33.ext e158
                  replace ho154 := ho154.ext e158
                  refine Sq.nil ?_
                  refine Eq.goes (fun _ => hB33) ?_
                  refine Gq.one 10 rfl (by kernel_rfl) ?_
                  obtain ⟨rs167, q168, q169, q170⟩ := OwnRows.open hn23 (by decide)
                  have q170x := Ext.refl w157
                  refine Sq.app sl23 q168 (by omega) (Own.row ho160) (one_cons (Row.one (Own.row ho154)) one_nil) (by rw [q169]; first | omega | (simp; omega)) .plain rfl rfl rfl rfl (fun v163 w164 ho166 g165 => ?_)
                  have hs171 := g165.size
                  have ho166r := q170 _ (a.next.getD k55.toNat []) _ _ _ (Ext.refl _) (Own.mono ho154 (by omega)) (by omega) ho166 g165
                  replace hR := hR.owned q168 g165 (by decide)
                  replace G := grown_new G q168 g165 (by omega)
                  replace hB4 := hB4.owned q168 g165 (by decide)
                  replace hB12 := hB12.owned q168 g165 (by decide)
                  replace ha24 := ha24.owned q168 g165 (by decide)
                  replace hB33 := hB33.owned q168 g165 (by decide)
                  replace ho154 := ho154.owned q168 g165 (by decide)
                  refine Sq.nil ?_
                  refine Eq.goes (fun _ => hB33) ?_
                  refine Gq.one 11 rfl (by kernel_rfl) ?_
                  refine Sq.fieldAddr fld26_1 .plain rfl rfl ?_
                  refine Sq.nil ?_
                  refine Eq.goes (fun h => absurd h (by decide)) ?_
                  refine Gq.one 12 rfl (by kernel_rfl) ?_
                  refine Sq.store one23 .plain rfl rfl (Rows.one (OwnRows.rows ho166r)) hB33 (by simp) (fun w172 g173 hB174 => ?_)
                  have hs175 := World.grownBy.size g173
                  replace hR := hR.grown g173 (by intro h; injection h with h; omega)
                  replace G := grown_far G g173 (fun k hk => by injection hk with hk; subst hk; omega)
                  replace hB4 := hB4.grown g173 (by intro h; injection h with h; omega)
                  replace hB12 := hB12.grown g173 (by intro h; injection h with h; omega)
                  replace ha24 := ha24.stored g173 hB33 (by decide)
                  replace ho154 := ho154.stored g173 hB33 (by decide)
                  replace ho166r := ho166r.stored g173 hB33 (by decide) (by decide)
                  replace hB33 := hB174
                  refine Sq.nil ?_
                  refine Eq.goes (fun h => absurd h (by decide)) ?_
                  refine Gq.done (by kernel_rfl) ?_
                  refine Eq.next ?_
                  refine Cq.seq ?_
                  refine Cq.drawS 9 (fun w' => Blk w' b30 26 [Value.int .i64 a.al, v163, ac22]) mixed (hB33) (fun w176 e177 hS => ?_)
                  clear hS
                  have hs178 := Below.size e177
                  replace hR := hR.ext e177
                  replace G := grown_trans G (Ext.to_grown e177 _)
                  replace hB4 := hB4.ext e177
                  replace hB12 := hB12.ext e177
                  replace ha24 := ha24.ext e177
                  replace hB33 := hB33.ext e177
                  replace ho154 := ho154.ext e177
                  replace ho166r := ho166r.ext e177
                  have hR_w176 := hR
                  have G_w176 := G
                  have hB4_w176 := hB4
                  have hB12_w176 := hB12
                  have ha24_w176 := ha24
                  have hB33_w176 := hB33
                  have ho154_w176 := ho154
                  have ho166r_w176 := ho166r
                  refine Gq.st 0 rfl (by kernel_rfl) rfl .plain rfl (fun _ _ _ h => h) hB33 (fun w' x => Still.fieldAddr fld26_2 rfl) ?_
                  refine Gq.st 1 rfl (by kernel_rfl) rfl .plain rfl (fun _ _ _ h => h) hB33 (fun w' x => Still.loadB one24 rfl x rfl) ?_
                  refine Gq.st 2 rfl (by kernel_rfl) rfl .plain rfl (fun _ _ _ h => h) hB33 (fun w' x => Still.fieldAddr fld26_2 rfl) ?_
                  refine Gq.st 3 rfl (by kernel_rfl) rfl .plain rfl (fun _ _ _ h => h) hB33 (fun w' x => Still.loadB one24 rfl x rfl) ?_
                  refine Gq.st 4 rfl (by kernel_rfl) rfl .plain rfl (fun _ _ _ h => h) hB33 (fun w' x => Still.move rfl) ?_
                  refine Gq.one 5 rfl (by kernel_rfl) ?_
                  obtain ⟨p179, hp180⟩ := Bools.at (Own.row ha24) (i := k55) (by omega) (by omega)
                  refine Sq.val .plain rfl rfl (Still.at' sl24 hp180 rfl rfl) ?_
                  refine Sq.nil ?_
                  refine Eq.goes (fun _ => hB33) ?_
                  refine Gq.one 6 rfl (by kernel_rfl) ?_
                  refine Sq.val .plain rfl rfl (Still.loadA one4 rfl hp180.1) ?_
                  refine Sq.nil ?_
                  refine Eq.goes (fun _ => hB33) ?_
                  refine Gq.one 7 rfl (by kernel_rfl) ?_
                  refine Sq.lit sl24 rfl rfl .plain rfl rfl (one_cons rfl one_nil) (fun b181 w182 e183 hlo184 ho185 _ => ?_)
                  replace ho185 := ho185 w176.heap.size (Nat.le_refl _)
                  have hs187 := Below.size e183
                  replace hR := hR.ext e183
                  replace G := grown_trans G (Ext.to_grown e183 _)
                  replace hB4 := hB4.ext e183
                  replace hB12 := hB12.ext e183
                  replace ha24 := ha24.ext e183
                  replace hB33 := hB33.ext e183
                  replace ho154 := ho154.ext e183
                  replace ho166r := ho166r.ext e183
                  refine Sq.nil ?_
                  refine Eq.goes (fun _ => hB33) ?_
                  refine Gq.one 8 rfl (by kernel_rfl) ?_
                  refine Sq.app sl24 ha24 (by omega) (Own.row ho185) (one_cons rfl one_nil) (by first | omega | (simp; omega)) .plain rfl rfl rfl rfl (fun v188 w189 ho191 g190 => ?_)
                  have hs192 := g190.size
                  replace hR := hR.owned ha24 g190 (by decide)
                  replace G := grown_new G ha24 g190 (by omega)
                  replace hB4 := hB4.owned ha24 g190 (by decide)
                  replace hB12 := hB12.owned ha24 g190 (by decide)
                  replace hB33 := hB33.owned ha24 g190 (by decide)
                  replace ho154 := ho154.owned ha24 g190 (by decide)
                  replace ho166r := ho166r.owned ha24 g190 (by decide) (by decide)
                  refine Sq.nil ?_
                  refine Eq.goes (fun _ => hB33) ?_
                  refine Gq.one 9 rfl (by kernel_rfl) ?_
                  refine Sq.fieldAddr fld26_2 .plain rfl rfl ?_
                  refine Sq.nil ?_
                  refine Eq.goes (fun h => absurd h (by decide)) ?_
                  refine Gq.one 10 rfl (by kernel_rfl) ?_
                  refine Sq.store one24 .plain rfl rfl (Row.one (Own.row ho191)) hB33 (by simp) (fun w193 g194 hB195 => ?_)
                  have hs196 := World.grownBy.size g194
                  replace hR := hR.grown g194 (by intro h; injection h with h; omega)
                  replace G := grown_far G g194 (fun k hk => by injection hk with hk; subst hk; omega)
                  replace hB4 := hB4.grown g194 (by intro h; injection h with h; omega)
                  replace hB12 := hB12.grown g194 (by intro h; injection h with h; omega)
                  replace ho154 := ho154.stored g194 hB33 (by decide)
                  replace ho166r := ho166r.stored g194 hB33 (by decide) (by decide)
                  replace ho191 := ho191.stored g194 hB33 (by decide)
                  replace hB33 := hB195
                  refine Sq.nil ?_
                  refine Eq.goes (fun h => absurd h (by decide)) ?_
                  refine Gq.done (by kernel_rfl) ?_
                  refine Eq.next ?_
                  refine Cq.region ?_
                  refine Sq.fieldAddr fld26_1 .plain rfl rfl ?_
                  refine Sq.loadB one23 .plain rfl rfl hB33 rfl ?_
                  refine Sq.move .plain rfl rfl ?_
                  obtain ⟨p197, r199, hp198, _⟩ := Rows.at (OwnRows.rows ho166r) (i := k55) (by first | omega | (simp only [List.length_append, List.length_singleton]; omega)) (by first | omega | (simp only [List.length_append, List.length_singleton]; omega))
                  have hr200 := (OwnRows.rowAt ho166r hp198).1
                  refine Sq.val .plain rfl rfl (Still.at' sl23 hp198 rfl rfl) ?_
                  refine Sq.val .plain rfl rfl (Still.loadA one56 rfl hp198.1) ?_
                  refine Sq.move .plain rfl rfl ?_
                  obtain ⟨p201, hp202o⟩ := Own.at hr200 (i := 0) (by first | omega | (rw [getD_app (by omega)]; omega)) (by first | (simp only [List.length_map]; first | omega | (rw [getD_app (by omega)]; omega)) | (simp; first | omega | (rw [getD_app (by omega)]; omega)))
                  refine Sq.atO sl56 hp202o .plain rfl rfl rfl ?_
                  refine Sq.storeO one3 hr200 hp202o .plain rfl rfl rfl (fun w203 g204 ho205 => ?_)
                  have hs206 := World.grownBy.size g204
                  rw [← List.map_set] at ho205
                  replace ho166r := (OwnRows.set ho166r (by decide) hp198 ho205 g204).1
                  replace hR := hR.owned hr200 g204 (by decide)
                  replace G := grown_new G hr200 g204 (by omega)
                  replace hB4 := hB4.owned hr200 g204 (by decide)
                  replace hB12 := hB12.owned hr200 g204 (by decide)
                  replace hB33 := hB33.owned hr200 g204 (by decide)
                  replace ho191 := ho191.owned hr200 g204 (by decide)
                  replace hr200 := ho205
                  refine Sq.nil ?_
                  refine Eq.end ?_
                  refine Eq.next ?_
                  refine Cq.seq ?_
                  refine Cq.region ?_
                  refine Sq.loadAgg agg26 .plain rfl rfl hB33 rfl ?_
                  refine Sq.storeAgg agg26 .plain rfl rfl (one_cons rfl (one_cons (Rows.one (OwnRows.rows ho166r)) (one_cons (Row.one (Own.row ho191)) one_nil))) hB12 rfl rfl (fun w207 g208 hB209 => ?_)
                  have hs210 := World.grownBy.size g208
                  replace hR := hR.grown g208 (by intro h; injection h with h; omega)
                  replace G := grown_far G g208 (fun k hk => by injection hk with hk; subst hk; omega)
                  replace hB4 := hB4.grown g208 (by intro h; injection h with h; omega)
                  replace hB33 := hB33.grown g208 (by intro h; injection h with h; omega)
                  replace ho166r := ho166r.stored g208 hB12 (by decide) (by decide)
                  replace ho191 := ho191.stored g208 hB12 (by decide)
                  replace hB12 := hB209
                  refine Sq.nil ?_
                  refine Eq.next ?_
                  refine Cq.ret ?_
                  refine Eq.retCell rfl rfl agg26 hB12 rfl ?_
                  exact ⟨⟨_, by omega, hR, G⟩, ⟨a.al, _, a.acc ++ [a.acc.getD k55.toNat false]⟩, ⟨_, _, rfl, (OwnRows.rows ho166r), (Own.row (Own.snocB ho191))⟩, Small.row (a := ⟨a.al, a.next ++ [a.next.getD k55.toNat []], a.acc ++ [a.acc.getD k55.toNat false]⟩) (hsm.push2 (m := N + 10) (by omega) (by have := hsm.rowAt (k := k55.toNat); omega)) (by omega) (by rw [List.length_set, getD_app (by omega)]; have := hsm.rowAt (k := k55.toNat); omega)⟩
                · refine Sq.val .plain rfl rfl (Still.loadA one56 rfl hpA.1) ?_
                  refine Sq.nil ?_
                  refine Eq.goes (fun _ => hB33) ?_
                  refine Gq.one 2 rfl (by kernel_rfl) ?_
                  refine Sq.lit sl56 rfl rfl .plain rfl rfl one_nil (fun b211 w212 e213 hlo214 ho215 _ => ?_)
                  replace ho215 := ho215 w141.heap.size (Nat.le_refl _)
                  have hs217 := Below.size e213
                  replace hR := hR.ext e213
                  replace G := grown_trans G (Ext.to_grown e213 _)
                  replace hB4 := hB4.ext e213
                  replace hB12 := hB12.ext e213
                  replace hn23 := hn23.ext e213
                  replace ha24 := ha24.ext e213
                  replace hB33 := hB33.ext e213
                  replace hpA := hpA.ext e213
                  replace hrA := hrA.ext e213
                  refine Sq.nil ?_
                  refine Eq.goes (fun _ => hB33) ?_
                  refine Gq.one 8 rfl (by kernel_rfl) ?_
                  refine Sq.app sl56 ho215 (by omega) (Own.row hrA) (one_ints _) (by rw [List.length_map]; simp only [List.length_nil, Nat.zero_add]; omega) .plain rfl rfl rfl rfl (fun v218 w219 ho221 g220 => ?_)
                  have hs222 := g220.size
                  replace hR := hR.owned ho215 g220 (by decide)
                  replace G := grown_new G ho215 g220 (by omega)
                  replace hB4 := hB4.owned ho215 g220 (by decide)
                  replace hB12 := hB12.owned ho215 g220 (by decide)
                  replace hn23 := hn23.apart ho215 g220 (by omega) (by decide)
                  replace ha24 := ha24.owned ho215 g220 (by decide)
                  replace hB33 := hB33.owned ho215 g220 (by decide)
                  simp only [List.nil_append] at ho221
                  refine Sq.nil ?_
                  refine Eq.goes (fun _ => hB33) ?_
                  refine Gq.one 9 rfl (by kernel_rfl) ?_
                  refine Sq.lit sl23 rfl rfl .plain rfl rfl (one_cons (Row.one (Own.row ho221)) one_nil) (fun b223 w224 e225 hlo226 ho227 _ => ?_)
                  replace ho227 := ho227 w219.heap.size (Nat.le_refl _)
                  have hs229 := Below.size e225
                  replace hR := hR.ext e225
                  replace G := grown_trans G (Ext.to_grown e225 _)
                  replace hB4 := hB4.ext e225
                  replace hB12 := hB12.ext e225
                  replace hn23 := hn23.ext e225
                  replace ha24 := ha24.ext e225
                  replace hB33 := hB33.ext e225
                  replace ho221 := ho221.ext e225
                  refine Sq.nil ?_
                  refine Eq.goes (fun _ => hB33) ?_
                  refine Gq.one 10 rfl (by kernel_rfl) ?_
                  obtain ⟨rs234, q235, q236, q237⟩ := OwnRows.open hn23 (by decide)
                  have q237x := Ext.refl w224
                  refine Sq.app sl23 q235 (by omega) (Own.row ho227) (one_cons (Row.one (Own.row ho221)) one_nil) (by rw [q236]; first | omega | (simp; omega)) .plain rfl rfl rfl rfl (fun v230 w231 ho233 g232 => ?_)
                  have hs238 := g232.size
                  have ho233r := q237 _ (a.next.getD k55.toNat []) _ _ _ (Ext.refl _) (Own.mono ho221 (by omega)) (by omega) ho233 g232
                  replace hR := hR.owned q235 g232 (by decide)
                  replace G := grown_new G q235 g232 (by omega)
                  replace hB4 := hB4.owned q235 g232 (by decide)
                  replace hB12 := hB12.owned q235 g232 (by decide)
                  replace ha24 := ha24.owned q235 g232 (by decide)
                  replace hB33 := hB33.owned q235 g232 (by decide)
                  replace ho221 := ho221.owned q235 g232 (by decide)
                  refine Sq.nil ?_
                  refine Eq.goes (fun _ => hB33) ?_
                  refine Gq.one 11 rfl (by kernel_rfl) ?_
                  refine Sq.fieldAddr fld26_1 .plain rfl rfl ?_
                  refine Sq.nil ?_
                  refine Eq.goes (fun h => absurd h (by decide)) ?_
                  refine Gq.one 12 rfl (by kernel_rfl) ?_
                  refine Sq.store one23 .plain rfl rfl (Rows.one (OwnRows.rows ho233r)) hB33 (by simp) (fun w239 g240 hB241 => ?_)
                  have hs242 := World.grownBy.size g240
                  replace hR := hR.grown g240 (by intro h; injection h with h; omega)
                  replace G := grown_far G g240 (fun k hk => by injection hk with hk; subst hk; omega)
                  replace hB4 := hB4.grown g240 (by intro h; injection h with h; omega)
                  replace hB12 := hB12.grown g240 (by intro h; injection h with h; omega)
                  replace ha24 := ha24.stored g240 hB33 (by decide)
                  replace ho221 := ho221.stored g240 hB33 (by decide)
                  replace ho233r := ho233r.stored g240 hB33 (by decide) (by decide)
                  replace hB33 := hB241
                  refine Sq.nil ?_
                  refine Eq.goes (fun h => absurd h (by decide)) ?_
                  refine Gq.done (by kernel_rfl) ?_
                  refine Eq.next ?_
                  refine Cq.seq ?_
                  refine Cq.drawS 9 (fun w' => Blk w' b30 26 [Value.int .i64 a.al, v230, ac22]) mixed (hB33) (fun w243 e244 hS => ?_)
                  clear hS
                  have hs245 := Below.size e244
                  replace hR := hR.ext e244
                  replace G := grown_trans G (Ext.to_grown e244 _)
                  replace hB4 := hB4.ext e244
                  replace hB12 := hB12.ext e244
                  replace ha24 := ha24.ext e244
                  replace hB33 := hB33.ext e244
                  replace ho221 := ho221.ext e244
                  replace ho233r := ho233r.ext e244
                  have hR_w243 := hR
                  have G_w243 := G
                  have hB4_w243 := hB4
                  have hB12_w243 := hB12
                  have ha24_w243 := ha24
                  have hB33_w243 := hB33
                  have ho221_w243 := ho221
                  have ho233r_w243 := ho233r
                  refine Gq.st 0 rfl (by kernel_rfl) rfl .plain rfl (fun _ _ _ h => h) hB33 (fun w' x => Still.fieldAddr fld26_2 rfl) ?_
                  refine Gq.st 1 rfl (by kernel_rfl) rfl .plain rfl (fun _ _ _ h => h) hB33 (fun w' x => Still.loadB one24 rfl x rfl) ?_
                  refine Gq.st 2 rfl (by kernel_rfl) rfl .plain rfl (fun _ _ _ h => h) hB33 (fun w' x => Still.fieldAddr fld26_2 rfl) ?_
                  refine Gq.st 3 rfl (by kernel_rfl) rfl .plain rfl (fun _ _ _ h => h) hB33 (fun w' x => Still.loadB one24 rfl x rfl) ?_
                  refine Gq.st 4 rfl (by kernel_rfl) rfl .plain rfl (fun _ _ _ h => h) hB33 (fun w' x => Still.move rfl) ?_
                  refine Gq.one 5 rfl (by kernel_rfl) ?_
                  obtain ⟨p246, hp247⟩ := Bools.at (Own.row ha24) (i := k55) (by omega) (by omega)
                  refine Sq.val .plain rfl rfl (Still.at' sl24 hp247 rfl rfl) ?_
                  refine Sq.nil ?_
                  refine Eq.goes (fun _ => hB33) ?_
                  refine Gq.one 6 rfl (by kernel_rfl) ?_
                  refine Sq.val .plain rfl rfl (Still.loadA one4 rfl hp247.1) ?_
                  refine Sq.nil ?_
                  refine Eq.goes (fun _ => hB33) ?_
                  refine Gq.one 7 rfl (by kernel_rfl) ?_
                  refine Sq.lit sl24 rfl rfl .plain rfl rfl (one_cons rfl one_nil) (fun b248 w249 e250 hlo251 ho252 _ => ?_)
                  replace ho252 := ho252 w243.heap.size (Nat.le_refl _)
                  have hs254 := Below.size e250
                  replace hR := hR.ext e250
                  replace G := grown_trans G (Ext.to_grown e250 _)
                  replace hB4 := hB4.ext e250
                  replace hB12 := hB12.ext e250
                  replace ha24 := ha24.ext e250
                  replace hB33 := hB33.ext e250
                  replace ho221 := ho221.ext e250
                  replace ho233r := ho233r.ext e250
                  refine Sq.nil ?_
                  refine Eq.goes (fun _ => hB33) ?_
                  refine Gq.one 8 rfl (by kernel_rfl) ?_
                  refine Sq.app sl24 ha24 (by omega) (Own.row ho252) (one_cons rfl one_nil) (by first | omega | (simp; omega)) .plain rfl rfl rfl rfl (fun v255 w256 ho258 g257 => ?_)
                  have hs259 := g257.size
                  replace hR := hR.owned ha24 g257 (by decide)
                  replace G := grown_new G ha24 g257 (by omega)
                  replace hB4 := hB4.owned ha24 g257 (by decide)
                  replace hB12 := hB12.owned ha24 g257 (by decide)
                  replace hB33 := hB33.owned ha24 g257 (by decide)
                  replace ho221 := ho221.owned ha24 g257 (by decide)
                  replace ho233r := ho233r.owned ha24 g257 (by decide) (by decide)
                  refine Sq.nil ?_
                  refine Eq.goes (fun _ => hB33) ?_
                  refine Gq.one 9 rfl (by kernel_rfl) ?_
                  refine Sq.fieldAddr fld26_2 .plain rfl rfl ?_
                  refine Sq.nil ?_
                  refine Eq.goes (fun h => absurd h (by decide)) ?_
                  refine Gq.one 10 rfl (by kernel_rfl) ?_
                  refine Sq.store one24 .plain rfl rfl (Row.one (Own.row ho258)) hB33 (by simp) (fun w260 g261 hB262 => ?_)
                  have hs263 := World.grownBy.size g261
                  replace hR := hR.grown g261 (by intro h; injection h with h; omega)
                  replace G := grown_far G g261 (fun k hk => by injection hk with hk; subst hk; omega)
                  replace hB4 := hB4.grown g261 (by intro h; injection h with h; omega)
                  replace hB12 := hB12.grown g261 (by intro h; injection h with h; omega)
                  replace ho221 := ho221.stored g261 hB33 (by decide)
                  replace ho233r := ho233r.stored g261 hB33 (by decide) (by decide)
                  replace ho258 := ho258.stored g261 hB33 (by decide)
                  replace hB33 := hB262
                  refine Sq.nil ?_
                  refine Eq.goes (fun h => absurd h (by decide)) ?_
                  refine Gq.done (by kernel_rfl) ?_
                  refine Eq.next ?_
                  refine Cq.region ?_
                  refine Sq.fieldAddr fld26_1 .plain rfl rfl ?_
                  refine Sq.loadB one23 .plain rfl rfl hB33 rfl ?_
                  refine Sq.move .plain rfl rfl ?_
                  obtain ⟨p264, r266, hp265, _⟩ := Rows.at (OwnRows.rows ho233r) (i := k55) (by first | omega | (simp only [List.length_append, List.length_singleton]; omega)) (by first | omega | (simp only [List.length_append, List.length_singleton]; omega))
                  have hr267 := (OwnRows.rowAt ho233r hp265).1
                  refine Sq.val .plain rfl rfl (Still.at' sl23 hp265 rfl rfl) ?_
                  refine Sq.val .plain rfl rfl (Still.loadA one56 rfl hp265.1) ?_
                  refine Sq.move .plain rfl rfl ?_
                  obtain ⟨p268, hp269o⟩ := Own.at hr267 (i := 0) (by first | omega | (rw [getD_app (by omega)]; omega)) (by first | (simp only [List.length_map]; first | omega | (rw [getD_app (by omega)]; omega)) | (simp; first | omega | (rw [getD_app (by omega)]; omega)))
                  refine Sq.atO sl56 hp269o .plain rfl rfl rfl ?_
                  refine Sq.storeO one3 hr267 hp269o .plain rfl rfl rfl (fun w270 g271 ho272 => ?_)
                  have hs273 := World.grownBy.size g271
                  rw [← List.map_set] at ho272
                  replace ho233r := (OwnRows.set ho233r (by decide) hp265 ho272 g271).1
                  replace hR := hR.owned hr267 g271 (by decide)
                  replace G := grown_new G hr267 g271 (by omega)
                  replace hB4 := hB4.owned hr267 g271 (by decide)
                  replace hB12 := hB12.owned hr267 g271 (by decide)
                  replace hB33 := hB33.owned hr267 g271 (by decide)
                  replace ho258 := ho258.owned hr267 g271 (by decide)
                  replace hr267 := ho272
                  refine Sq.nil ?_
                  refine Eq.end ?_
                  refine Eq.next ?_
                  refine Cq.seq ?_
                  refine Cq.region ?_
                  refine Sq.loadAgg agg26 .plain rfl rfl hB33 rfl ?_
                  refine Sq.storeAgg agg26 .plain rfl rfl (one_cons rfl (one_cons (Rows.one (OwnRows.rows ho233r)) (one_cons (Row.one (Own.row ho258)) one_nil))) hB12 rfl rfl (fun w274 g275 hB276 => ?_)
                  have hs277 := World.grownBy.size g275
                  replace hR := hR.grown g275 (by intro h; injection h with h; omega)
                  replace G := grown_far G g275 (fun k hk => by injection hk with hk; subst hk; omega)
                  replace hB4 := hB4.grown g275 (by intro h; injection h with h; omega)
                  replace hB33 := hB33.grown g275 (by intro h; injection h with h; omega)
                  replace ho233r := ho233r.stored g275 hB12 (by decide) (by decide)
                  replace ho258 := ho258.stored g275 hB12 (by decide)
                  replace hB12 := hB276
                  refine Sq.nil ?_
                  refine Eq.next ?_
                  refine Cq.ret ?_
                  refine Eq.retCell rfl rfl agg26 hB12 rfl ?_
                  exact ⟨⟨_, by omega, hR, G⟩, ⟨a.al, _, a.acc ++ [a.acc.getD k55.toNat false]⟩, ⟨_, _, rfl, (OwnRows.rows ho233r), (Own.row (Own.snocB ho258))⟩, Small.row (a := ⟨a.al, a.next ++ [a.next.getD k55.toNat []], a.acc ++ [a.acc.getD k55.toNat false]⟩) (hsm.push2 (m := N + 10) (by omega) (by have := hsm.rowAt (k := k55.toNat); omega)) (by omega) (by rw [List.length_set, getD_app (by omega)]; have := hsm.rowAt (k := k55.toNat); omega)⟩
              · refine Sq.pickT .plain rfl rfl rfl ?_
                refine Sq.nil ?_
                refine Eq.next ?_
                refine Cq.els rfl ?_
                refine Cq.skip ?_
                refine Eq.end ?_
                refine Eq.next ?_
                refine Cq.seq ?_
                refine Cq.region ?_
                refine Sq.loadAgg agg26 .plain rfl rfl hB33 rfl ?_
                refine Sq.storeAgg agg26 .plain rfl rfl (one_cons rfl (one_cons (Rows.one (OwnRows.rows hn23)) (one_cons (Row.one (Own.row ha24)) one_nil))) hB12 rfl rfl (fun w278 g279 hB280 => ?_)
                have hs281 := World.grownBy.size g279
                replace hR := hR.grown g279 (by intro h; injection h with h; omega)
                replace G := grown_far G g279 (fun k hk => by injection hk with hk; subst hk; omega)
                replace hB4 := hB4.grown g279 (by intro h; injection h with h; omega)
                replace hn23 := hn23.stored g279 hB12 (by decide) (by decide)
                replace ha24 := ha24.stored g279 hB12 (by decide)
                replace hB33 := hB33.grown g279 (by intro h; injection h with h; omega)
                replace hr139 := hr139.stored g279 hB12 (by decide)
                replace hB12 := hB280
                refine Sq.nil ?_
                refine Eq.next ?_
                refine Cq.ret ?_
                refine Eq.retCell rfl rfl agg26 hB12 rfl ?_
                exact ⟨⟨_, by omega, hR, G⟩, a, ⟨_, _, rfl, (OwnRows.rows hn23), (Own.row ha24)⟩, hsm.mono (by omega)⟩
            · refine Sq.pickT .plain rfl rfl rfl ?_
              refine Sq.move .plain rfl rfl ?_
              refine Sq.off rfl rfl rfl rfl rfl rfl ?_
              refine Sq.off rfl rfl rfl rfl rfl rfl ?_
              refine Sq.off rfl rfl rfl rfl rfl rfl ?_
              refine Sq.off rfl rfl rfl rfl rfl rfl ?_
              refine Sq.off rfl rfl rfl rfl rfl rfl ?_
              refine Sq.off rfl rfl rfl rfl rfl rfl ?_
              refine Sq.off rfl rfl rfl rfl rfl rfl ?_
              refine Sq.pickF .plain rfl rfl rfl ?_
              refine Sq.nil ?_
              refine Eq.next ?_
              refine Cq.els rfl ?_
              refine Cq.skip ?_
              refine Eq.end ?_
              refine Eq.next ?_
              refine Cq.seq ?_
              refine Cq.region ?_
              refine Sq.loadAgg agg26 .plain rfl rfl hB33 rfl ?_
              refine Sq.storeAgg agg26 .plain rfl rfl (one_cons rfl (one_cons (Rows.one (OwnRows.rows hn23)) (one_cons (Row.one (Own.row ha24)) one_nil))) hB12 rfl rfl (fun w282 g283 hB284 => ?_)
              have hs285 := World.grownBy.size g283
              replace hR := hR.grown g283 (by intro h; injection h with h; omega)
              replace G := grown_far G g283 (fun k hk => by injection hk with hk; subst hk; omega)
              replace hB4 := hB4.grown g283 (by intro h; injection h with h; omega)
              replace hn23 := hn23.stored g283 hB12 (by decide) (by decide)
              replace ha24 := ha24.stored g283 hB12 (by decide)
              replace hB33 := hB33.grown g283 (by intro h; injection h with h; omega)
              replace hB12 := hB284
              refine Sq.nil ?_
              refine Eq.next ?_
              refine Cq.ret ?_
              refine Eq.retCell rfl rfl agg26 hB12 rfl ?_
              exact ⟨⟨_, by omega, hR, G⟩, a, ⟨_, _, rfl, (OwnRows.rows hn23), (Own.row ha24)⟩, hsm.mono (by omega)⟩
          · refine Sq.move .plain rfl rfl ?_
            refine Sq.off rfl rfl rfl rfl rfl rfl ?_
            refine Sq.off rfl rfl rfl rfl rfl rfl ?_
            refine Sq.off rfl rfl rfl rfl rfl rfl ?_
            refine Sq.off rfl rfl rfl rfl rfl rfl ?_
            refine Sq.off rfl rfl rfl rfl rfl rfl ?_
            refine Sq.pickF .plain rfl rfl rfl ?_
            refine Sq.move .plain rfl rfl ?_
            refine Sq.off rfl rfl rfl rfl rfl rfl ?_
            refine Sq.off rfl rfl rfl rfl rfl rfl ?_
            refine Sq.off rfl rfl rfl rfl rfl rfl ?_
            refine Sq.off rfl rfl rfl rfl rfl rfl ?_
            refine Sq.off rfl rfl rfl rfl rfl rfl ?_
            refine Sq.off rfl rfl rfl rfl rfl rfl ?_
            refine Sq.off rfl rfl rfl rfl rfl rfl ?_
            refine Sq.pickF .plain rfl rfl rfl ?_
            refine Sq.nil ?_
            refine Eq.next ?_
            refine Cq.els rfl ?_
            refine Cq.skip ?_
            refine Eq.end ?_
            refine Eq.next ?_
            refine Cq.seq ?_
            refine Cq.region ?_
            refine Sq.loadAgg agg26 .plain rfl rfl hB33 rfl ?_
            refine Sq.storeAgg agg26 .plain rfl rfl (one_cons rfl (one_cons (Rows.one (OwnRows.rows hn23)) (one_cons (Row.one (Own.row ha24)) one_nil))) hB12 rfl rfl (fun w286 g287 hB288 => ?_)
            have hs289 := World.grownBy.size g287
            replace hR := hR.grown g287 (by intro h; injection h with h; omega)
            replace G := grown_far G g287 (fun k hk => by injection hk with hk; subst hk; omega)
            replace hB4 := hB4.grown g287 (by intro h; injection h with h; omega)
            replace hn23 := hn23.stored g287 hB12 (by decide) (by decide)
            replace ha24 := ha24.stored g287 hB12 (by decide)
            replace hB33 := hB33.grown g287 (by intro h; injection h with h; omega)
            replace hB12 := hB288
            refine Sq.nil ?_
            refine Eq.next ?_
            refine Cq.ret ?_
            refine Eq.retCell rfl rfl agg26 hB12 rfl ?_
            exact ⟨⟨_, by omega, hR, G⟩, a, ⟨_, _, rfl, (OwnRows.rows hn23), (Own.row ha24)⟩, hsm.mono (by omega)⟩
        · refine Sq.assign .plain rfl rfl ?_
          refine Sq.nil ?_
          refine Eq.next ?_
          refine Cq.els rfl ?_
          refine Cq.skip ?_
          refine Eq.end ?_
          refine Eq.next ?_
          refine Cq.seq ?_
          refine Cq.region ?_
          refine Sq.loadAgg agg26 .plain rfl rfl hB33 rfl ?_
          refine Sq.storeAgg agg26 .plain rfl rfl (one_cons rfl (one_cons (Rows.one (OwnRows.rows hn23)) (one_cons (Row.one (Own.row ha24)) one_nil))) hB12 rfl rfl (fun w290 g291 hB292 => ?_)
          have hs293 := World.grownBy.size g291
          replace hR := hR.grown g291 (by intro h; injection h with h; omega)
          replace G := grown_far G g291 (fun k hk => by injection hk with hk; subst hk; omega)
          replace hB4 := hB4.grown g291 (by intro h; injection h with h; omega)
          replace hn23 := hn23.stored g291 hB12 (by decide) (by decide)
          replace ha24 := ha24.stored g291 hB12 (by decide)
          replace hB33 := hB33.grown g291 (by intro h; injection h with h; omega)
          replace hB12 := hB292
          refine Sq.nil ?_
          refine Eq.next ?_
          refine Cq.ret ?_
          refine Eq.retCell rfl rfl agg26 hB12 rfl ?_
          exact ⟨⟨_, by omega, hR, G⟩, a, ⟨_, _, rfl, (OwnRows.rows hn23), (Own.row ha24)⟩, hsm.mono (by omega)⟩

end Go.Proofs.Ytdejmfkpohgamaa
