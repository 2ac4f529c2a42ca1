/-
  Walks, printed by a program out of the translation and a contract for each function; each step is one law.
-/
import Derived.Test.YtdejmfkpohgamaaNd
import Derived.Test.YtdejmfkpohgamaaWi
set_option linter.unusedSimpArgs false
set_option linter.unusedVariables false
namespace Go.Proofs.Ytdejmfkpohgamaa
open Go.RowKit

set_option maxRecDepth 100000 in
theorem l5Any_c (w0 : World) (rb : Nat) (bv : Value) (p : Int) (bs : List UInt8) (e0 : TypeId) (hR : Blk w0 rb 88 [bv, .int .i64 p]) (hb : Src w0 e0 bv bs rb) (hbl : bs.length ≤ 2000) (hp : 0 ≤ p ∧ p ≤ 450000000) : Ret Try.prog 79 #[Value.pointer (some ⟨rb, 0, none⟩)] w0 (fun v w => (∃ p', (p ≤ p' ∧ p' ≤ p + 500) ∧ Blk w rb 88 [bv, .int .i64 p'] ∧ w0.grownBy w (some rb)) ∧ ∃ a, RowsA w v a ∧ Small 400 a) := by
  have G := World.grownBy.refl w0 (some rb)
  have hlt := hR.lt
  refine Ret.of (args := [Value.pointer (some ⟨rb, 0, none⟩)]) Try.func79 rfl rfl rfl ?_
  rintro _ rfl
  show Cq _ _ _ _ [(0, Value.pointer (some ⟨rb, 0, none⟩))] _
  refine Cq.seq ?_
  refine Cq.region ?_
  refine Sq.alloc zero26 .plain rfl (fun b1 w2 e3 hB4 hlo5 => ?_)
  have hd6 := Nat.lt_of_lt_of_le hR.lt hlo5
  have hd7 := Nat.le_trans (World.grownBy.size G) hlo5
  have hs8 := Below.size e3
  replace hR := hR.ext e3
  replace G := grown_trans G (Ext.to_grown e3 _)
  refine Sq.nil ?_
  refine Eq.next ?_
  refine Cq.seq ?_
  refine Cq.region ?_
  refine Sq.move .plain rfl rfl ?_
  refine Sq.call fn42 .plain rfl rfl (l3Draw_c _ _ _ _ _ _ hR (hb.go G) hbl (by omega) ) ?_
  rintro _ w10 ⟨⟨p11, hp14, hB13, g12⟩, ⟨a15, ⟨nx16, ac17, rfl, hn18, ha19⟩, hv20⟩⟩
  have hs21 := World.grownBy.size g12
  have hs22 := World.grownBy.size G
  have hs23 := World.grownBy.size g12
  replace G := grown_trans G g12
  replace hB4 := hB4.grown g12 (by intro h; injection h with h; omega)
  replace hR := hB13
  refine Sq.alloc zero26 .plain rfl (fun b24 w25 e26 hB27 hlo28 => ?_)
  have hd29 := Nat.lt_of_lt_of_le hR.lt hlo28
  have hd30 := Nat.le_trans (World.grownBy.size G) hlo28
  have hd31 := Nat.lt_of_lt_of_le hB4.lt hlo28
  have hs32 := Below.size e26
  replace hR := hR.ext e26
  replace G := grown_trans G (Ext.to_grown e26 _)
  replace hB4 := hB4.ext e26
  replace hn18 := hn18.ext e26
  replace ha19 := ha19.ext e26
  refine Sq.storeAgg agg26 .plain rfl rfl (one_cons rfl (one_cons (Rows.one hn18) (one_cons (Row.one ha19) one_nil))) hB27 rfl rfl (fun w33 g34 hB35 => ?_)
  have hs36 := World.grownBy.size g34
  replace hR := hR.grown g34 (by intro h; injection h with h; omega)
  replace G := grown_far G g34 (fun k hk => by injection hk with hk; subst hk; omega)
  replace hB4 := hB4.grown g34 (by intro h; injection h with h; omega)
  replace hn18 := hn18.stored g34 hB27 (by decide) (by decide)
  replace ha19 := ha19.stored g34 hB27 (by decide)
  replace hB27 := hB35
  refine Sq.nil ?_
  refine Eq.next ?_
  refine Cq.seq ?_
  refine Cq.seq ?_
  refine Cq.region ?_
  refine Sq.move .plain rfl rfl ?_
  refine Sq.call fn43 .plain rfl rfl (pick_c _ _ _ _ _ _ hR (hb.go G) hbl (by omega) 3 (by omega)) ?_
  rintro _ w38 ⟨⟨p39, hp42, hB41, g40⟩, ⟨k43, rfl, hk44⟩⟩
  have hs45 := World.grownBy.size g40
  have hs46 := World.grownBy.size G
  have hs47 := World.grownBy.size g40
  replace G := grown_trans G g40
  replace hB4 := hB4.grown g40 (by intro h; injection h with h; omega)
  replace hn18 := hn18.stored g40 hR (by decide) (by decide)
  replace ha19 := ha19.stored g40 hR (by decide)
  replace hB27 := hB27.grown g40 (by intro h; injection h with h; omega)
  replace hR := hB41
  refine Sq.assign .plain rfl rfl ?_
  refine Sq.nil ?_
  refine Eq.next ?_
  refine Cq.block ?_
  refine Cq.loop (fun nn w ls => ∃ (i : Int), ∃ (p1 : Int), ∃ (N1 : Nat), ∃ (A1 : A), ∃ (nxv : Value), ∃ (acv : Value), ls = [(0, Value.pointer (some ⟨rb, 0, none⟩)), (2, Value.pointer (some ⟨b1, 0, none⟩)), (3, Value.pointer (some ⟨b24, 0, none⟩)), (4, Value.int .i64 i)] ∧ (0 ≤ i ∧ i ≤ 2) ∧ (p ≤ p1 ∧ p1 ≤ p + 310 + 10 * (2 - i)) ∧ Blk w rb 88 [bv, Value.int .i64 p1] ∧ Blk w b24 26 [Value.int .i64 A1.al, nxv, acv] ∧ Rows w 56 3 nxv A1.next ∧ Bools w 4 acv A1.acc ∧ (N1 + 20 * i.toNat ≤ 240) ∧ Small N1 A1 ∧ World.grownBy w0 w (some rb) ∧ Blk w b1 26 [Value.int .i64 0, Value.slice none 0 0, Value.slice none 0 0] ∧ nn = i.toNat) _ _ ⟨k43, _, _, _, _, _, rfl, by omega, by omega, hR, hB27, hn18, ha19, by omega, hv20, G, hB4, rfl⟩ (.cons rfl (.cons rfl (.cons rfl (.cons rfl (.nil))))) ?_
  rintro nn wl1 ls ⟨i, p1, N1, A1, nxv, acv, rfl, hi, hp1, hR, hBr, hnr, har, hN1, hsm0, G, hB4, rfl⟩
  have hs48 := World.grownBy.size G
  refine Cq.seq ?_
  refine Cq.seq ?_
  refine Cq.region ?_
  refine Sq.move .plain rfl rfl ?_
  refine Sq.gtr .plain rfl rfl rfl ?_
  refine Sq.part (fun c49 => ?_) (fun c49 => ?_)
  · refine Sq.nil ?_
    refine Eq.next ?_
    refine Cq.thn rfl ?_
    refine Cq.skip ?_
    refine Eq.next ?_
    refine Cq.seq ?_
    refine Cq.block ?_
    refine Cq.region ?_
    refine Sq.move .plain rfl rfl ?_
    refine Sq.loadAgg agg26 .plain rfl rfl hBr rfl ?_
    refine Sq.call fn44 .plain rfl rfl (l4Change_c _ _ _ _ _ _ hR (hb.go G) hbl (by omega) A1 _ _ hnr har _ (by omega) hsm0) ?_
    rintro _ w51 ⟨⟨p52, hp55, hB54, g53⟩, ⟨a56, ⟨nx57, ac58, rfl, hn59, ha60⟩, hv61⟩⟩
    have hs62 := World.grownBy.size g53
    have hs63 := World.grownBy.size G
    have hs64 := World.grownBy.size g53
    replace G := grown_trans G g53
    replace hB4 := hB4.grown g53 (by intro h; injection h with h; omega)
    replace hBr := hBr.grown g53 (by intro h; injection h with h; omega)
    replace hnr := hnr.stored g53 hR (by decide) (by decide)
    replace har := har.stored g53 hR (by decide)
    replace hR := hB54
    refine Sq.storeAgg agg26 .plain rfl rfl (one_cons rfl (one_cons (Rows.one hn59) (one_cons (Row.one ha60) one_nil))) hBr rfl rfl (fun w65 g66 hB67 => ?_)
    have hs68 := World.grownBy.size g66
    replace G := grown_far G g66 (fun k hk => by injection hk with hk; subst hk; omega)
    replace hB4 := hB4.grown g66 (by intro h; injection h with h; omega)
    replace hR := hR.grown g66 (by intro h; injection h with h; omega)
    replace hnr := hnr.stored g66 hBr (by decide) (by decide)
    replace har := har.stored g66 hBr (by decide)
    replace hn59 := hn59.stored g66 hBr (by decide) (by decide)
    replace ha60 := ha60.stored g66 hBr (by decide)
    replace hBr := hB67
    refine Sq.nil ?_
    refine Eq.end ?_
    refine Eq.next ?_
    refine Cq.region ?_
    refine Sq.move .plain rfl rfl ?_
    refine Sq.sub .plain rfl rfl rfl (by omega) ?_
    refine Sq.assign .plain rfl rfl ?_
    refine Sq.nil ?_
    refine Eq.round _ _ ⟨_, _, _, _, _, _, rfl, by omega, by omega, hR, hBr, hn59, ha60, by omega, hv61, G, hB4, rfl⟩ (by omega) (.cons rfl (.cons rfl (.cons rfl (.cons rfl (.nil)))))
  · refine Sq.nil ?_
    refine Eq.next ?_
    refine Cq.els rfl ?_
    refine Cq.exit ?_
    refine Eq.past ?_
    refine Eq.past ?_
    refine Eq.hit ?_
    refine Eq.next ?_
    refine Cq.seq ?_
    refine Cq.seq ?_
    refine Cq.region ?_
    refine Sq.move .plain rfl rfl ?_
    refine Sq.call fn43 .plain rfl rfl (pick_c _ _ _ _ _ _ hR (hb.go G) hbl (by omega) 10 (by omega)) ?_
    rintro _ w70 ⟨⟨p71, hp74, hB73, g72⟩, ⟨k75, rfl, hk76⟩⟩
    have hs77 := World.grownBy.size g72
    have hs78 := World.grownBy.size G
    have hs79 := World.grownBy.size g72
    replace G := grown_trans G g72
    replace hB4 := hB4.grown g72 (by intro h; injection h with h; omega)
    replace hBr := hBr.grown g72 (by intro h; injection h with h; omega)
    replace hnr := hnr.stored g72 hR (by decide) (by decide)
    replace har := har.stored g72 hR (by decide)
    replace hR := hB73
    refine Sq.eql .plain rfl rfl rfl ?_
    refine Sq.part (fun c80 => ?_) (fun c80 => ?_)
    · refine Sq.nil ?_
      refine Eq.next ?_
      refine Cq.thn rfl ?_
      refine Cq.region ?_
      refine Sq.move .plain rfl rfl ?_
      refine Sq.call fn45 .plain rfl rfl (l3Big_c _ _ _ _ _ _ hR (hb.go G) hbl (by omega) ) ?_
      rintro _ w82 ⟨⟨p83, hp86, hB85, g84⟩, ⟨a87, ⟨nx88, ac89, rfl, hn90, ha91⟩, hv92⟩⟩
      have hs93 := World.grownBy.size g84
      have hs94 := World.grownBy.size G
      have hs95 := World.grownBy.size g84
      replace G := grown_trans G g84
      replace hB4 := hB4.grown g84 (by intro h; injection h with h; omega)
      replace hBr := hBr.grown g84 (by intro h; injection h with h; omega)
      replace hnr := hnr.stored g84 hR (by decide) (by decide)
      replace har := har.stored g84 hR (by decide)
      replace hR := hB85
      refine Sq.storeAgg agg26 .plain rfl rfl (one_cons rfl (one_cons (Rows.one (OwnRows.rows hn90)) (one_cons (Row.one (Own.row ha91)) one_nil))) hBr rfl rfl (fun w96 g97 hB98 => ?_)
      have hs99 := World.grownBy.size g97
      replace G := grown_far G g97 (fun k hk => by injection hk with hk; subst hk; omega)
      replace hB4 := hB4.grown g97 (by intro h; injection h with h; omega)
      replace hR := hR.grown g97 (by intro h; injection h with h; omega)
      replace hnr := hnr.stored g97 hBr (by decide) (by decide)
      replace har := har.stored g97 hBr (by decide)
      replace hn90 := hn90.stored g97 hBr (by decide) (by decide)
      replace ha91 := ha91.stored g97 hBr (by decide)
      replace hBr := hB98
      refine Sq.nil ?_
      refine Eq.next ?_
      refine Cq.seq ?_
      refine Cq.seq ?_
      refine Cq.region ?_
      refine Sq.move .plain rfl rfl ?_
      refine Sq.call fn43 .plain rfl rfl (pick_c _ _ _ _ _ _ hR (hb.go G) hbl (by omega) 6 (by omega)) ?_
      rintro _ w101 ⟨⟨p102, hp105, hB104, g103⟩, ⟨k106, rfl, hk107⟩⟩
      have hs108 := World.grownBy.size g103
      have hs109 := World.grownBy.size G
      have hs110 := World.grownBy.size g103
      replace G := grown_trans G g103
      replace hB4 := hB4.grown g103 (by intro h; injection h with h; omega)
      replace hBr := hBr.grown g103 (by intro h; injection h with h; omega)
      replace hnr := hnr.stored g103 hR (by decide) (by decide)
      replace har := har.stored g103 hR (by decide)
      replace hn90 := hn90.stored g103 hR (by decide) (by decide)
      replace ha91 := ha91.stored g103 hR (by decide)
      replace hR := hB104
      refine Sq.eql .plain rfl rfl rfl ?_
      refine Sq.part (fun c111 => ?_) (fun c111 => ?_)
      · refine Sq.nil ?_
        refine Eq.next ?_
        refine Cq.thn rfl ?_
        refine Cq.region ?_
        refine Sq.move .plain rfl rfl ?_
        refine Sq.loadAgg agg26 .plain rfl rfl hBr rfl ?_
        refine Sq.call fn46 .plain rfl rfl (l3Wrong_c _ _ _ _ _ _ hR (hb.go G) hbl (by omega) a87 _ _ (OwnRows.rows hn90) (Own.row ha91) _ (by omega) (Small.of hv92)) ?_
        rintro _ w113 ⟨⟨p114, hp117, hB116, g115⟩, ⟨a118, ⟨nx119, ac120, rfl, hn121, ha122⟩, hv123⟩⟩
        have hs124 := World.grownBy.size g115
        have hs125 := World.grownBy.size G
        have hs126 := World.grownBy.size g115
        replace G := grown_trans G g115
        replace hB4 := hB4.grown g115 (by intro h; injection h with h; omega)
        replace hBr := hBr.grown g115 (by intro h; injection h with h; omega)
        replace hnr := hnr.stored g115 hR (by decide) (by decide)
        replace har := har.stored g115 hR (by decide)
        replace hn90 := hn90.stored g115 hR (by decide) (by decide)
        replace ha91 := ha91.stored g115 hR (by decide)
        replace hR := hB116
        refine Sq.storeAgg agg26 .plain rfl rfl (one_cons rfl (one_cons (Rows.one hn121) (one_cons (Row.one ha122) one_nil))) hBr rfl rfl (fun w127 g128 hB129 => ?_)
        have hs130 := World.grownBy.size g128
        replace G := grown_far G g128 (fun k hk => by injection hk with hk; subst hk; omega)
        replace hB4 := hB4.grown g128 (by intro h; injection h with h; omega)
        replace hR := hR.grown g128 (by intro h; injection h with h; omega)
        replace hnr := hnr.stored g128 hBr (by decide) (by decide)
        replace har := har.stored g128 hBr (by decide)
        replace hn90 := hn90.stored g128 hBr (by decide) (by decide)
        replace ha91 := ha91.stored g128 hBr (by decide)
        replace hn121 := hn121.stored g128 hBr (by decide) (by decide)
        replace ha122 := ha122.stored g128 hBr (by decide)
        replace hBr := hB129
        refine Sq.nil ?_
        refine Eq.next ?_
        refine Cq.seq ?_
        refine Cq.region ?_
        refine Sq.loadAgg agg26 .plain rfl rfl hBr rfl ?_
        refine Sq.storeAgg agg26 .plain rfl rfl (one_cons rfl (one_cons (Rows.one hn121) (one_cons (Row.one ha122) one_nil))) hB4 rfl rfl (fun w131 g132 hB133 => ?_)
        have hs134 := World.grownBy.size g132
        replace G := grown_far G g132 (fun k hk => by injection hk with hk; subst hk; omega)
        replace hR := hR.grown g132 (by intro h; injection h with h; omega)
        replace hBr := hBr.grown g132 (by intro h; injection h with h; omega)
        replace hnr := hnr.stored g132 hB4 (by decide) (by decide)
        replace har := har.stored g132 hB4 (by decide)
        replace hn90 := hn90.stored g132 hB4 (by decide) (by decide)
        replace ha91 := ha91.stored g132 hB4 (by decide)
        replace hn121 := hn121.stored g132 hB4 (by decide) (by decide)
        replace ha122 := ha122.stored g132 hB4 (by decide)
        replace hB4 := hB133
        refine Sq.nil ?_
        refine Eq.next ?_
        refine Cq.ret ?_
        refine Eq.retCell rfl rfl agg26 hB4 rfl ?_
        exact ⟨⟨_, by omega, hR, G⟩, _, ⟨_, _, rfl, hn121, ha122⟩, by first | exact (Small.of hsm0).mono (by omega) | exact Small.mono hsm0 (by omega) | exact (Small.of hv123).mono (by omega) | exact Small.mono hv123 (by omega) | exact (Small.of hv92).mono (by omega) | exact Small.mono hv92 (by omega) | exact (Small.of hv61).mono (by omega) | exact Small.mono hv61 (by omega) | exact (Small.of hv20).mono (by omega) | exact Small.mono hv20 (by omega)⟩
      · refine Sq.nil ?_
        refine Eq.next ?_
        refine Cq.els rfl ?_
        refine Cq.skip ?_
        refine Eq.next ?_
        refine Cq.seq ?_
        refine Cq.region ?_
        refine Sq.loadAgg agg26 .plain rfl rfl hBr rfl ?_
        refine Sq.storeAgg agg26 .plain rfl rfl (one_cons rfl (one_cons (Rows.one (OwnRows.rows hn90)) (one_cons (Row.one (Own.row ha91)) one_nil))) hB4 rfl rfl (fun w135 g136 hB137 => ?_)
        have hs138 := World.grownBy.size g136
        replace G := grown_far G g136 (fun k hk => by injection hk with hk; subst hk; omega)
        replace hR := hR.grown g136 (by intro h; injection h with h; omega)
        replace hBr := hBr.grown g136 (by intro h; injection h with h; omega)
        replace hnr := hnr.stored g136 hB4 (by decide) (by decide)
        replace har := har.stored g136 hB4 (by decide)
        replace hn90 := hn90.stored g136 hB4 (by decide) (by decide)
        replace ha91 := ha91.stored g136 hB4 (by decide)
        replace hB4 := hB137
        refine Sq.nil ?_
        refine Eq.next ?_
        refine Cq.ret ?_
        refine Eq.retCell rfl rfl agg26 hB4 rfl ?_
        exact ⟨⟨_, by omega, hR, G⟩, _, ⟨_, _, rfl, (OwnRows.rows hn90), (Own.row ha91)⟩, by first | exact (Small.of hsm0).mono (by omega) | exact Small.mono hsm0 (by omega) | exact (Small.of hv123).mono (by omega) | exact Small.mono hv123 (by omega) | exact (Small.of hv92).mono (by omega) | exact Small.mono hv92 (by omega) | exact (Small.of hv61).mono (by omega) | exact Small.mono hv61 (by omega) | exact (Small.of hv20).mono (by omega) | exact Small.mono hv20 (by omega)⟩
    · refine Sq.nil ?_
      refine Eq.next ?_
      refine Cq.els rfl ?_
      refine Cq.skip ?_
      refine Eq.next ?_
      refine Cq.seq ?_
      refine Cq.seq ?_
      refine Cq.region ?_
      refine Sq.move .plain rfl rfl ?_
      refine Sq.call fn43 .plain rfl rfl (pick_c _ _ _ _ _ _ hR (hb.go G) hbl (by omega) 6 (by omega)) ?_
      rintro _ w140 ⟨⟨p141, hp144, hB143, g142⟩, ⟨k145, rfl, hk146⟩⟩
      have hs147 := World.grownBy.size g142
      have hs148 := World.grownBy.size G
      have hs149 := World.grownBy.size g142
      replace G := grown_trans G g142
      replace hB4 := hB4.grown g142 (by intro h; injection h with h; omega)
      replace hBr := hBr.grown g142 (by intro h; injection h with h; omega)
      replace hnr := hnr.stored g142 hR (by decide) (by decide)
      replace har := har.stored g142 hR (by decide)
      replace hR := hB143
      refine Sq.eql .plain rfl rfl rfl ?_
      refine Sq.part (fun c150 => ?_) (fun c150 => ?_)
      · refine Sq.nil ?_
        refine Eq.next ?_
        refine Cq.thn rfl ?_
        refine Cq.region ?_
        refine Sq.move .plain rfl rfl ?_
        refine Sq.loadAgg agg26 .plain rfl rfl hBr rfl ?_
        refine Sq.call fn46 .plain rfl rfl (l3Wrong_c _ _ _ _ _ _ hR (hb.go G) hbl (by omega) A1 _ _ hnr har _ (by omega) hsm0) ?_
        rintro _ w152 ⟨⟨p153, hp156, hB155, g154⟩, ⟨a157, ⟨nx158, ac159, rfl, hn160, ha161⟩, hv162⟩⟩
        have hs163 := World.grownBy.size g154
        have hs164 := World.grownBy.size G
        have hs165 := World.grownBy.size g154
        replace G := grown_trans G g154
        replace hB4 := hB4.grown g154 (by intro h; injection h with h; omega)
        replace hBr := hBr.grown g154 (by intro h; injection h with h; omega)
        replace hnr := hnr.stored g154 hR (by decide) (by decide)
        replace har := har.stored g154 hR (by decide)
        replace hR := hB155
        refine Sq.storeAgg agg26 .plain rfl rfl (one_cons rfl (one_cons (Rows.one hn160) (one_cons (Row.one ha161) one_nil))) hBr rfl rfl (fun w166 g167 hB168 => ?_)
        have hs169 := World.grownBy.size g167
        replace G := grown_far G g167 (fun k hk => by injection hk with hk; subst hk; omega)
        replace hB4 := hB4.grown g167 (by intro h; injection h with h; omega)
        replace hR := hR.grown g167 (by intro h; injection h with h; omega)
        replace hnr := hnr.stored g167 hBr (by decide) (by decide)
        replace har := har.stored g167 hBr (by decide)
        replace hn160 := hn160.stored g167 hBr (by decide) (by decide)
        replace ha161 := ha161.stored g167 hBr (by decide)
        replace hBr := hB168
        refine Sq.nil ?_
        refine Eq.next ?_
        refine Cq.seq ?_
        refine Cq.region ?_
        refine Sq.loadAgg agg26 .plain rfl rfl hBr rfl ?_
        refine Sq.storeAgg agg26 .plain rfl rfl (one_cons rfl (one_cons (Rows.one hn160) (one_cons (Row.one ha161) one_nil))) hB4 rfl rfl (fun w170 g171 hB172 => ?_)
        have hs173 := World.grownBy.size g171
        replace G := grown_far G g171 (fun k hk => by injection hk with hk; subst hk; omega)
        replace hR := hR.grown g171 (by intro h; injection h with h; omega)
        replace hBr := hBr.grown g171 (by intro h; injection h with h; omega)
        replace hnr := hnr.stored g171 hB4 (by decide) (by decide)
        replace har := har.stored g171 hB4 (by decide)
        replace hn160 := hn160.stored g171 hB4 (by decide) (by decide)
        replace ha161 := ha161.stored g171 hB4 (by decide)
        replace hB4 := hB172
        refine Sq.nil ?_
        refine Eq.next ?_
        refine Cq.ret ?_
        refine Eq.retCell rfl rfl agg26 hB4 rfl ?_
        exact ⟨⟨_, by omega, hR, G⟩, _, ⟨_, _, rfl, hn160, ha161⟩, by first | exact (Small.of hsm0).mono (by omega) | exact Small.mono hsm0 (by omega) | exact (Small.of hv162).mono (by omega) | exact Small.mono hv162 (by omega) | exact (Small.of hv123).mono (by omega) | exact Small.mono hv123 (by omega) | exact (Small.of hv92).mono (by omega) | exact Small.mono hv92 (by omega) | exact (Small.of hv61).mono (by omega) | exact Small.mono hv61 (by omega) | exact (Small.of hv20).mono (by omega) | exact Small.mono hv20 (by omega)⟩
      · refine Sq.nil ?_
        refine Eq.next ?_
        refine Cq.els rfl ?_
        refine Cq.skip ?_
        refine Eq.next ?_
        refine Cq.seq ?_
        refine Cq.region ?_
        refine Sq.loadAgg agg26 .plain rfl rfl hBr rfl ?_
        refine Sq.storeAgg agg26 .plain rfl rfl (one_cons rfl (one_cons (Rows.one hnr) (one_cons (Row.one har) one_nil))) hB4 rfl rfl (fun w174 g175 hB176 => ?_)
        have hs177 := World.grownBy.size g175
        replace G := grown_far G g175 (fun k hk => by injection hk with hk; subst hk; omega)
        replace hR := hR.grown g175 (by intro h; injection h with h; omega)
        replace hBr := hBr.grown g175 (by intro h; injection h with h; omega)
        replace hnr := hnr.stored g175 hB4 (by decide) (by decide)
        replace har := har.stored g175 hB4 (by decide)
        replace hB4 := hB176
        refine Sq.nil ?_
        refine Eq.next ?_
        refine Cq.ret ?_
        refine Eq.retCell rfl rfl agg26 hB4 rfl ?_
        exact ⟨⟨_, by omega, hR, G⟩, _, ⟨_, _, rfl, hnr, har⟩, by first | exact (Small.of hsm0).mono (by omega) | exact Small.mono hsm0 (by omega) | exact (Small.of hv162).mono (by omega) | exact Small.mono hv162 (by omega) | exact (Small.of hv123).mono (by omega) | exact Small.mono hv123 (by omega) | exact (Small.of hv92).mono (by omega) | exact Small.mono hv92 (by omega) | exact (Small.of hv61).mono (by omega) | exact Small.mono hv61 (by omega) | exact (Small.of hv20).mono (by omega) | exact Small.mono hv20 (by omega)⟩

set_option maxRecDepth 100000 in
theorem drawTrim_c (w0 : World) (e : TypeId) (a0 : Option Addr) (c0 : Nat) (cs : List UInt8) (hc : Bytes w0 e (.slice a0 cs.length c0) cs) (hcap : cs.length ≤ c0) : Ret Try.prog 35 #[Value.slice a0 cs.length c0] w0 (fun v w => (∃ a, RowsA w v a ∧ Small 400 a) ∧ Ext w0 w) := by
  have E := Ext.refl w0
  refine Ret.of (args := [Value.slice a0 cs.length c0]) Try.func35 rfl rfl rfl ?_
  rintro _ rfl
  show Cq _ _ _ _ [(0, Value.slice a0 cs.length c0)] _
  refine Cq.seq ?_
  refine Cq.region ?_
  refine Sq.alloc zero26 .plain rfl (fun b1 w2 e3 hB4 hlo5 => ?_)
  have hd6 := Nat.le_trans (Below.size E) hlo5
  have hs7 := Below.size e3
  replace E := E.trans e3
  refine Sq.nil ?_
  refine Eq.next ?_
  refine Cq.seq ?_
  refine Cq.region ?_
  refine Sq.move .plain rfl rfl ?_
  refine Sq.call fn41 .plain rfl rfl (open_c _ _ _ _ _ (hc.ext E) hcap) ?_
  rintro _ w8 ⟨⟨rb, bv, bs, rfl, hrb, hR, hb, hbl⟩, e9⟩
  have hrlt := hR.lt
  have hd10 := Nat.le_trans (Below.size E) hrb
  have hd11 := Nat.lt_of_lt_of_le hB4.lt hrb
  have hs12 := Below.size e9
  replace E := E.trans e9
  replace hB4 := hB4.ext e9
  have G := World.grownBy.refl w8 (some rb)
  refine Sq.call fn79 .plain rfl rfl (l5Any_c _ _ _ _ _ _ hR (hb.go G) hbl (by omega) ) ?_
  rintro _ w14 ⟨⟨p15, hp18, hB17, g16⟩, ⟨a19, ⟨nx20, ac21, rfl, hn22, ha23⟩, hv24⟩⟩
  have hs25 := World.grownBy.size g16
  have hs26 := Below.size E
  have hs27 := World.grownBy.size G
  have hs28 := World.grownBy.size g16
  replace E := E.grown g16 (fun k hk => by injection hk with hk; subst hk; omega)
  replace hB4 := hB4.grown g16 (by intro h; injection h with h; omega)
  replace G := grown_trans G g16
  replace hR := hB17
  refine Sq.storeAgg agg26 .plain rfl rfl (one_cons rfl (one_cons (Rows.one hn22) (one_cons (Row.one ha23) one_nil))) hB4 rfl rfl (fun w29 g30 hB31 => ?_)
  have hs32 := World.grownBy.size g30
  replace E := E.grown g30 (fun k hk => by injection hk with hk; subst hk; omega)
  replace hR := hR.grown g30 (by intro h; injection h with h; omega)
  replace hn22 := hn22.stored g30 hB4 (by decide) (by decide)
  replace ha23 := ha23.stored g30 hB4 (by decide)
  replace hB4 := hB31
  refine Sq.nil ?_
  refine Eq.next ?_
  refine Cq.ret ?_
  refine Eq.retCell rfl rfl agg26 hB4 rfl ?_
  exact ⟨⟨_, ⟨_, _, rfl, hn22, ha23⟩, by first | exact (Small.of hv24).mono (by omega) | exact Small.mono hv24 (by omega)⟩, E⟩

set_option maxRecDepth 100000 in
theorem drawProd_c (w0 : World) (e : TypeId) (a0 : Option Addr) (c0 : Nat) (cs : List UInt8) (hc : Bytes w0 e (.slice a0 cs.length c0) cs) (hcap : cs.length ≤ c0) : Ret Try.prog 15 #[Value.slice a0 cs.length c0] w0 (fun v w => (∃ (u u' : Value) (k : Int) (a b : A), v = .tuple #[u, u', .int .i64 k] ∧ RowsA w u a ∧ RowsA w u' b ∧ Small 400 a ∧ Small 400 b ∧ -1 ≤ k ∧ k ≤ 3) ∧ Ext w0 w) := by
  have E := Ext.refl w0
  refine Ret.of (args := [Value.slice a0 cs.length c0]) Try.func15 rfl rfl rfl ?_
  rintro _ rfl
  show Cq _ _ _ _ [(0, Value.slice a0 cs.length c0)] _
  refine Cq.seq ?_
  refine Cq.region ?_
  refine Sq.alloc zero26 .plain rfl (fun b1 w2 e3 hB4 hlo5 => ?_)
  have hd6 := Nat.le_trans (Below.size E) hlo5
  have hs7 := Below.size e3
  replace E := E.trans e3
  refine Sq.alloc zero26 .plain rfl (fun b8 w9 e10 hB11 hlo12 => ?_)
  have hd13 := Nat.le_trans (Below.size E) hlo12
  have hd14 := Nat.lt_of_lt_of_le hB4.lt hlo12
  have hs15 := Below.size e10
  replace E := E.trans e10
  replace hB4 := hB4.ext e10
  refine Sq.assign .plain rfl rfl ?_
  refine Sq.nil ?_
  refine Eq.next ?_
  refine Cq.seq ?_
  refine Cq.region ?_
  refine Sq.move .plain rfl rfl ?_
  refine Sq.call fn41 .plain rfl rfl (open_c _ _ _ _ _ (hc.ext E) hcap) ?_
  rintro _ w16 ⟨⟨rb, bv, bs, rfl, hrb, hR, hb, hbl⟩, e17⟩
  have hrlt := hR.lt
  have hd18 := Nat.le_trans (Below.size E) hrb
  have hd19 := Nat.lt_of_lt_of_le hB4.lt hrb
  have hd20 := Nat.lt_of_lt_of_le hB11.lt hrb
  have hs21 := Below.size e17
  replace E := E.trans e17
  replace hB4 := hB4.ext e17
  replace hB11 := hB11.ext e17
  have G := World.grownBy.refl w16 (some rb)
  refine Sq.assign .plain rfl rfl ?_
  refine Sq.nil ?_
  refine Eq.next ?_
  refine Cq.seq ?_
  refine Cq.region ?_
  refine Sq.move .plain rfl rfl ?_
  refine Sq.call fn42 .plain rfl rfl (l3Draw_c _ _ _ _ _ _ hR (hb.go G) hbl (by omega) ) ?_
  rintro _ w23 ⟨⟨p24, hp27, hB26, g25⟩, ⟨a28, ⟨nx29, ac30, rfl, hn31, ha32⟩, hv33⟩⟩
  have hs34 := World.grownBy.size g25
  have hs35 := Below.size E
  have hs36 := World.grownBy.size G
  have hs37 := World.grownBy.size g25
  replace E := E.grown g25 (fun k hk => by injection hk with hk; subst hk; omega)
  replace hB4 := hB4.grown g25 (by intro h; injection h with h; omega)
  replace hB11 := hB11.grown g25 (by intro h; injection h with h; omega)
  replace G := grown_trans G g25
  replace hR := hB26
  refine Sq.alloc zero26 .plain rfl (fun b38 w39 e40 hB41 hlo42 => ?_)
  have hd43 := Nat.le_trans (Below.size E) hlo42
  have hd44 := Nat.lt_of_lt_of_le hB4.lt hlo42
  have hd45 := Nat.lt_of_lt_of_le hB11.lt hlo42
  have hd46 := Nat.lt_of_lt_of_le hR.lt hlo42
  have hd47 := Nat.le_trans (World.grownBy.size G) hlo42
  have hs48 := Below.size e40
  replace E := E.trans e40
  replace hB4 := hB4.ext e40
  replace hB11 := hB11.ext e40
  replace hR := hR.ext e40
  replace G := grown_trans G (Ext.to_grown e40 _)
  replace hn31 := hn31.ext e40
  replace ha32 := ha32.ext e40
  refine Sq.storeAgg agg26 .plain rfl rfl (one_cons rfl (one_cons (Rows.one hn31) (one_cons (Row.one ha32) one_nil))) hB41 rfl rfl (fun w49 g50 hB51 => ?_)
  have hs52 := World.grownBy.size g50
  replace E := E.grown g50 (fun k hk => by injection hk with hk; subst hk; omega)
  replace hB4 := hB4.grown g50 (by intro h; injection h with h; omega)
  replace hB11 := hB11.grown g50 (by intro h; injection h with h; omega)
  replace hR := hR.grown g50 (by intro h; injection h with h; omega)
  replace G := grown_far G g50 (fun k hk => by injection hk with hk; subst hk; omega)
  replace hn31 := hn31.stored g50 hB41 (by decide) (by decide)
  replace ha32 := ha32.stored g50 hB41 (by decide)
  replace hB41 := hB51
  refine Sq.nil ?_
  refine Eq.next ?_
  refine Cq.seq ?_
  refine Cq.region ?_
  refine Sq.move .plain rfl rfl ?_
  refine Sq.call fn42 .plain rfl rfl (l3Draw_c _ _ _ _ _ _ hR (hb.go G) hbl (by omega) ) ?_
  rintro _ w54 ⟨⟨p55, hp58, hB57, g56⟩, ⟨a59, ⟨nx60, ac61, rfl, hn62, ha63⟩, hv64⟩⟩
  have hs65 := World.grownBy.size g56
  have hs66 := Below.size E
  have hs67 := World.grownBy.size G
  have hs68 := World.grownBy.size g56
  replace E := E.grown g56 (fun k hk => by injection hk with hk; subst hk; omega)
  replace hB4 := hB4.grown g56 (by intro h; injection h with h; omega)
  replace hB11 := hB11.grown g56 (by intro h; injection h with h; omega)
  replace G := grown_trans G g56
  replace hn31 := hn31.stored g56 hR (by decide) (by decide)
  replace ha32 := ha32.stored g56 hR (by decide)
  replace hB41 := hB41.grown g56 (by intro h; injection h with h; omega)
  replace hR := hB57
  refine Sq.alloc zero26 .plain rfl (fun b69 w70 e71 hB72 hlo73 => ?_)
  have hd74 := Nat.le_trans (Below.size E) hlo73
  have hd75 := Nat.lt_of_lt_of_le hB4.lt hlo73
  have hd76 := Nat.lt_of_lt_of_le hB11.lt hlo73
  have hd77 := Nat.lt_of_lt_of_le hR.lt hlo73
  have hd78 := Nat.le_trans (World.grownBy.size G) hlo73
  have hd79 := Nat.lt_of_lt_of_le hB41.lt hlo73
  have hs80 := Below.size e71
  replace E := E.trans e71
  replace hB4 := hB4.ext e71
  replace hB11 := hB11.ext e71
  replace hR := hR.ext e71
  replace G := grown_trans G (Ext.to_grown e71 _)
  replace hn31 := hn31.ext e71
  replace ha32 := ha32.ext e71
  replace hB41 := hB41.ext e71
  replace hn62 := hn62.ext e71
  replace ha63 := ha63.ext e71
  refine Sq.storeAgg agg26 .plain rfl rfl (one_cons rfl (one_cons (Rows.one hn62) (one_cons (Row.one ha63) one_nil))) hB72 rfl rfl (fun w81 g82 hB83 => ?_)
  have hs84 := World.grownBy.size g82
  replace E := E.grown g82 (fun k hk => by injection hk with hk; subst hk; omega)
  replace hB4 := hB4.grown g82 (by intro h; injection h with h; omega)
  replace hB11 := hB11.grown g82 (by intro h; injection h with h; omega)
  replace hR := hR.grown g82 (by intro h; injection h with h; omega)
  replace G := grown_far G g82 (fun k hk => by injection hk with hk; subst hk; omega)
  replace hn31 := hn31.stored g82 hB72 (by decide) (by decide)
  replace ha32 := ha32.stored g82 hB72 (by decide)
  replace hB41 := hB41.grown g82 (by intro h; injection h with h; omega)
  replace hn62 := hn62.stored g82 hB72 (by decide) (by decide)
  replace ha63 := ha63.stored g82 hB72 (by decide)
  replace hB72 := hB83
  refine Sq.nil ?_
  refine Eq.next ?_
  refine Cq.seq ?_
  refine Cq.seq ?_
  refine Cq.region ?_
  refine Sq.move .plain rfl rfl ?_
  refine Sq.call fn43 .plain rfl rfl (pick_c _ _ _ _ _ _ hR (hb.go G) hbl (by omega) 6 (by omega)) ?_
  rintro _ w86 ⟨⟨p87, hp90, hB89, g88⟩, ⟨k91, rfl, hk92⟩⟩
  have hs93 := World.grownBy.size g88
  have hs94 := Below.size E
  have hs95 := World.grownBy.size G
  have hs96 := World.grownBy.size g88
  replace E := E.grown g88 (fun k hk => by injection hk with hk; subst hk; omega)
  replace hB4 := hB4.grown g88 (by intro h; injection h with h; omega)
  replace hB11 := hB11.grown g88 (by intro h; injection h with h; omega)
  replace G := grown_trans G g88
  replace hn31 := hn31.stored g88 hR (by decide) (by decide)
  replace ha32 := ha32.stored g88 hR (by decide)
  replace hB41 := hB41.grown g88 (by intro h; injection h with h; omega)
  replace hn62 := hn62.stored g88 hR (by decide) (by decide)
  replace ha63 := ha63.stored g88 hR (by decide)
  replace hB72 := hB72.grown g88 (by intro h; injection h with h; omega)
  replace hR := hB89
  refine Sq.nil ?_
  refine Eq.next ?_
  refine Cq.block ?_
  refine Cq.seq ?_
  refine Cq.region ?_
  refine Sq.eql .plain rfl rfl rfl ?_
  refine Sq.part (fun c97 => ?_) (fun c97 => ?_)
  · refine Sq.assign .plain rfl rfl ?_
    refine Sq.nil ?_
    refine Eq.next ?_
    refine Cq.thn rfl ?_
    refine Cq.region ?_
    refine Sq.move .plain rfl rfl ?_
    refine Sq.loadAgg agg26 .plain rfl rfl hB41 rfl ?_
    refine Sq.call fn44 .plain rfl rfl (l4Change_c _ _ _ _ _ _ hR (hb.go G) hbl (by omega) a28 _ _ hn31 ha32 _ (by omega) hv33) ?_
    rintro _ w99 ⟨⟨p100, hp103, hB102, g101⟩, ⟨a104, ⟨nx105, ac106, rfl, hn107, ha108⟩, hv109⟩⟩
    have hs110 := World.grownBy.size g101
    have hs111 := Below.size E
    have hs112 := World.grownBy.size G
    have hs113 := World.grownBy.size g101
    replace E := E.grown g101 (fun k hk => by injection hk with hk; subst hk; omega)
    replace hB4 := hB4.grown g101 (by intro h; injection h with h; omega)
    replace hB11 := hB11.grown g101 (by intro h; injection h with h; omega)
    replace G := grown_trans G g101
    replace hn31 := hn31.stored g101 hR (by decide) (by decide)
    replace ha32 := ha32.stored g101 hR (by decide)
    replace hB41 := hB41.grown g101 (by intro h; injection h with h; omega)
    replace hn62 := hn62.stored g101 hR (by decide) (by decide)
    replace ha63 := ha63.stored g101 hR (by decide)
    replace hB72 := hB72.grown g101 (by intro h; injection h with h; omega)
    replace hR := hB102
    refine Sq.storeAgg agg26 .plain rfl rfl (one_cons rfl (one_cons (Rows.one hn107) (one_cons (Row.one ha108) one_nil))) hB72 rfl rfl (fun w114 g115 hB116 => ?_)
    have hs117 := World.grownBy.size g115
    replace E := E.grown g115 (fun k hk => by injection hk with hk; subst hk; omega)
    replace hB4 := hB4.grown g115 (by intro h; injection h with h; omega)
    replace hB11 := hB11.grown g115 (by intro h; injection h with h; omega)
    replace hR := hR.grown g115 (by intro h; injection h with h; omega)
    replace G := grown_far G g115 (fun k hk => by injection hk with hk; subst hk; omega)
    replace hn31 := hn31.stored g115 hB72 (by decide) (by decide)
    replace ha32 := ha32.stored g115 hB72 (by decide)
    replace hB41 := hB41.grown g115 (by intro h; injection h with h; omega)
    replace hn62 := hn62.stored g115 hB72 (by decide) (by decide)
    replace ha63 := ha63.stored g115 hB72 (by decide)
    replace hn107 := hn107.stored g115 hB72 (by decide) (by decide)
    replace ha108 := ha108.stored g115 hB72 (by decide)
    replace hB72 := hB116
    refine Sq.nil ?_
    refine Eq.end ?_
    refine Eq.next ?_
    refine Cq.seq ?_
    refine Cq.drawS 7 (fun w' => Blk w' b38 26 [Value.int .i64 a28.al, nx29, ac30] ∧ Blk w' b69 26 [Value.int .i64 a104.al, nx105, ac106]) mixed (⟨hB41, hB72⟩) (fun w118 e119 hS => ?_)
    clear hS
    have hs120 := Below.size e119
    replace E := E.trans e119
    replace hB4 := hB4.ext e119
    replace hB11 := hB11.ext e119
    replace hR := hR.ext e119
    replace G := grown_trans G (Ext.to_grown e119 _)
    replace hn31 := hn31.ext e119
    replace ha32 := ha32.ext e119
    replace hB41 := hB41.ext e119
    replace hn62 := hn62.ext e119
    replace ha63 := ha63.ext e119
    replace hB72 := hB72.ext e119
    replace hn107 := hn107.ext e119
    replace ha108 := ha108.ext e119
    have E_w118 := E
    have hB4_w118 := hB4
    have hB11_w118 := hB11
    have hR_w118 := hR
    have G_w118 := G
    have hn31_w118 := hn31
    have ha32_w118 := ha32
    have hB41_w118 := hB41
    have hn62_w118 := hn62
    have ha63_w118 := ha63
    have hB72_w118 := hB72
    have hn107_w118 := hn107
    have ha108_w118 := ha108
    refine Gq.st 0 rfl (by kernel_rfl) rfl .plain rfl (fun _ _ _ h => h) ⟨hB41, hB72⟩ (fun w' x => Still.loadAgg agg26 rfl x.1 rfl) ?_
    refine Gq.st 1 rfl (by kernel_rfl) rfl .plain rfl (fun _ _ _ h => h) ⟨hB41, hB72⟩ (fun w' x => Still.loadAgg agg26 rfl x.2 rfl) ?_
    refine Gq.st 2 rfl (by kernel_rfl) rfl .plain rfl (fun _ _ _ h => h) ⟨hB41, hB72⟩ (fun w' x => Still.move rfl) ?_
    refine Gq.one 3 rfl (by kernel_rfl) ?_
    refine Sq.lit sl56 rfl rfl .plain rfl rfl (one_cons rfl (one_cons rfl (one_cons rfl (one_cons rfl (one_cons rfl (one_cons rfl (one_cons rfl (one_cons rfl (one_cons rfl (one_cons rfl (one_cons rfl one_nil))))))))))) (fun b121 w122 e123 hlo124 ho125 _ => ?_)
    replace ho125 := ho125 w118.heap.size (Nat.le_refl _)
    have hs127 := Below.size e123
    replace E := E.trans e123
    replace hB4 := hB4.ext e123
    replace hB11 := hB11.ext e123
    replace hR := hR.ext e123
    replace G := grown_trans G (Ext.to_grown e123 _)
    replace hn31 := hn31.ext e123
    replace ha32 := ha32.ext e123
    replace hB41 := hB41.ext e123
    replace hn62 := hn62.ext e123
    replace ha63 := ha63.ext e123
    replace hB72 := hB72.ext e123
    replace hn107 := hn107.ext e123
    replace ha108 := ha108.ext e123
    refine Sq.nil ?_
    refine Eq.goes (fun _ => ⟨hB41, hB72⟩) ?_
    refine Gq.one 4 rfl (by kernel_rfl) ?_
    refine Sq.call fn47 .plain rfl rfl (num_c _ _ _ _ _ _ hR (hb.go G) hbl (by omega) _ [0, 1, 2, 0, 1, 2, 0, 1, 2, 3, -1] (Own.row ho125) (by simp)) ?_
    rintro _ w129 ⟨⟨p130, hp133, hB132, g131⟩, ⟨k134, rfl, hm135⟩⟩
    have hs136 := World.grownBy.size g131
    have hs137 := Below.size E
    have hs138 := World.grownBy.size G
    have hs139 := World.grownBy.size g131
    replace E := E.grown g131 (fun k hk => by injection hk with hk; subst hk; omega)
    replace hB4 := hB4.grown g131 (by intro h; injection h with h; omega)
    replace hB11 := hB11.grown g131 (by intro h; injection h with h; omega)
    replace G := grown_trans G g131
    replace hn31 := hn31.stored g131 hR (by decide) (by decide)
    replace ha32 := ha32.stored g131 hR (by decide)
    replace hB41 := hB41.grown g131 (by intro h; injection h with h; omega)
    replace hn62 := hn62.stored g131 hR (by decide) (by decide)
    replace ha63 := ha63.stored g131 hR (by decide)
    replace hB72 := hB72.grown g131 (by intro h; injection h with h; omega)
    replace hn107 := hn107.stored g131 hR (by decide) (by decide)
    replace ha108 := ha108.stored g131 hR (by decide)
    replace ho125 := ho125.stored g131 hR (by decide)
    replace hR := hB132
    simp only [List.mem_cons, List.not_mem_nil, or_false] at hm135
    refine Sq.nil ?_
    refine Eq.goes (fun _ => ⟨hB41, hB72⟩) ?_
    refine Gq.one 5 rfl (by kernel_rfl) ?_
    refine Sq.storeAgg agg26 .plain rfl rfl (one_cons rfl (one_cons (Rows.one hn31) (one_cons (Row.one ha32) one_nil))) hB4 rfl rfl (fun w140 g141 hB142 => ?_)
    have hs143 := World.grownBy.size g141
    replace E := E.grown g141 (fun k hk => by injection hk with hk; subst hk; omega)
    replace hB11 := hB11.grown g141 (by intro h; injection h with h; omega)
    replace hR := hR.grown g141 (by intro h; injection h with h; omega)
    replace hn31 := hn31.stored g141 hB4 (by decide) (by decide)
    replace ha32 := ha32.stored g141 hB4 (by decide)
    replace hB41 := hB41.grown g141 (by intro h; injection h with h; omega)
    replace hn62 := hn62.stored g141 hB4 (by decide) (by decide)
    replace ha63 := ha63.stored g141 hB4 (by decide)
    replace hB72 := hB72.grown g141 (by intro h; injection h with h; omega)
    replace hn107 := hn107.stored g141 hB4 (by decide) (by decide)
    replace ha108 := ha108.stored g141 hB4 (by decide)
    replace ho125 := ho125.stored g141 hB4 (by decide)
    replace hB4 := hB142
    refine Sq.nil ?_
    refine Eq.goes (fun _ => ⟨hB41, hB72⟩) ?_
    refine Gq.one 6 rfl (by kernel_rfl) ?_
    refine Sq.storeAgg agg26 .plain rfl rfl (one_cons rfl (one_cons (Rows.one hn107) (one_cons (Row.one ha108) one_nil))) hB11 rfl rfl (fun w144 g145 hB146 => ?_)
    have hs147 := World.grownBy.size g145
    replace E := E.grown g145 (fun k hk => by injection hk with hk; subst hk; omega)
    replace hB4 := hB4.grown g145 (by intro h; injection h with h; omega)
    replace hR := hR.grown g145 (by intro h; injection h with h; omega)
    replace hn31 := hn31.stored g145 hB11 (by decide) (by decide)
    replace ha32 := ha32.stored g145 hB11 (by decide)
    replace hB41 := hB41.grown g145 (by intro h; injection h with h; omega)
    replace hn62 := hn62.stored g145 hB11 (by decide) (by decide)
    replace ha63 := ha63.stored g145 hB11 (by decide)
    replace hB72 := hB72.grown g145 (by intro h; injection h with h; omega)
    replace hn107 := hn107.stored g145 hB11 (by decide) (by decide)
    replace ha108 := ha108.stored g145 hB11 (by decide)
    replace ho125 := ho125.stored g145 hB11 (by decide)
    replace hB11 := hB146
    refine Sq.nil ?_
    refine Eq.goes (fun _ => ⟨hB41, hB72⟩) ?_
    refine Gq.one 7 rfl (by kernel_rfl) ?_
    refine Sq.assign .plain rfl rfl ?_
    refine Sq.nil ?_
    refine Eq.goes (fun h => absurd h (by decide)) ?_
    refine Gq.done (by kernel_rfl) ?_
    refine Eq.next ?_
    refine Cq.ret ?_
    refine Eq.retCCT rfl rfl rfl rfl agg26 agg26 hB4 hB11 rfl rfl ?_
    exact ⟨⟨_, _, _, _, _, rfl, ⟨_, _, rfl, hn31, ha32⟩, ⟨_, _, rfl, hn107, ha108⟩, by first | exact (Small.of hv109).mono (by omega) | exact Small.mono hv109 (by omega) | exact (Small.of hv64).mono (by omega) | exact Small.mono hv64 (by omega) | exact (Small.of hv33).mono (by omega) | exact Small.mono hv33 (by omega), by first | exact (Small.of hv109).mono (by omega) | exact Small.mono hv109 (by omega) | exact (Small.of hv64).mono (by omega) | exact Small.mono hv64 (by omega) | exact (Small.of hv33).mono (by omega) | exact Small.mono hv33 (by omega), by omega⟩, E⟩
  · refine Sq.assign .plain rfl rfl ?_
    refine Sq.nil ?_
    refine Eq.next ?_
    refine Cq.els rfl ?_
    refine Cq.seq ?_
    refine Cq.region ?_
    refine Sq.eql .plain rfl rfl rfl ?_
    refine Sq.part (fun c148 => ?_) (fun c148 => ?_)
    · refine Sq.assign .plain rfl rfl ?_
      refine Sq.nil ?_
      refine Eq.next ?_
      refine Cq.thn rfl ?_
      refine Cq.region ?_
      refine Sq.move .plain rfl rfl ?_
      refine Sq.call fn45 .plain rfl rfl (l3Big_c _ _ _ _ _ _ hR (hb.go G) hbl (by omega) ) ?_
      rintro _ w150 ⟨⟨p151, hp154, hB153, g152⟩, ⟨a155, ⟨nx156, ac157, rfl, hn158, ha159⟩, hv160⟩⟩
      have hs161 := World.grownBy.size g152
      have hs162 := Below.size E
      have hs163 := World.grownBy.size G
      have hs164 := World.grownBy.size g152
      replace E := E.grown g152 (fun k hk => by injection hk with hk; subst hk; omega)
      replace hB4 := hB4.grown g152 (by intro h; injection h with h; omega)
      replace hB11 := hB11.grown g152 (by intro h; injection h with h; omega)
      replace G := grown_trans G g152
      replace hn31 := hn31.stored g152 hR (by decide) (by decide)
      replace ha32 := ha32.stored g152 hR (by decide)
      replace hB41 := hB41.grown g152 (by intro h; injection h with h; omega)
      replace hn62 := hn62.stored g152 hR (by decide) (by decide)
      replace ha63 := ha63.stored g152 hR (by decide)
      replace hB72 := hB72.grown g152 (by intro h; injection h with h; omega)
      replace hR := hB153
      refine Sq.storeAgg agg26 .plain rfl rfl (one_cons rfl (one_cons (Rows.one (OwnRows.rows hn158)) (one_cons (Row.one (Own.row ha159)) one_nil))) hB41 rfl rfl (fun w165 g166 hB167 => ?_)
      have hs168 := World.grownBy.size g166
      replace E := E.grown g166 (fun k hk => by injection hk with hk; subst hk; omega)
      replace hB4 := hB4.grown g166 (by intro h; injection h with h; omega)
      replace hB11 := hB11.grown g166 (by intro h; injection h with h; omega)
      replace hR := hR.grown g166 (by intro h; injection h with h; omega)
      replace G := grown_far G g166 (fun k hk => by injection hk with hk; subst hk; omega)
      replace hn31 := hn31.stored g166 hB41 (by decide) (by decide)
      replace ha32 := ha32.stored g166 hB41 (by decide)
      replace hn62 := hn62.stored g166 hB41 (by decide) (by decide)
      replace ha63 := ha63.stored g166 hB41 (by decide)
      replace hB72 := hB72.grown g166 (by intro h; injection h with h; omega)
      replace hn158 := hn158.stored g166 hB41 (by decide) (by decide)
      replace ha159 := ha159.stored g166 hB41 (by decide)
      replace hB41 := hB167
      refine Sq.nil ?_
      refine Eq.end ?_
      refine Eq.next ?_
      refine Cq.seq ?_
      refine Cq.drawS 7 (fun w' => Blk w' b38 26 [Value.int .i64 a155.al, nx156, ac157] ∧ Blk w' b69 26 [Value.int .i64 a59.al, nx60, ac61]) mixed (⟨hB41, hB72⟩) (fun w169 e170 hS => ?_)
      clear hS
      have hs171 := Below.size e170
      replace E := E.trans e170
      replace hB4 := hB4.ext e170
      replace hB11 := hB11.ext e170
      replace hR := hR.ext e170
      replace G := grown_trans G (Ext.to_grown e170 _)
      replace hn31 := hn31.ext e170
      replace ha32 := ha32.ext e170
      replace hB41 := hB41.ext e170
      replace hn62 := hn62.ext e170
      replace ha63 := ha63.ext e170
      replace hB72 := hB72.ext e170
      replace hn158 := hn158.ext e170
      replace ha159 := ha159.ext e170
      have E_w169 := E
      have hB4_w169 := hB4
      have hB11_w169 := hB11
      have hR_w169 := hR
      have G_w169 := G
      have hn31_w169 := hn31
      have ha32_w169 := ha32
      have hB41_w169 := hB41
      have hn62_w169 := hn62
      have ha63_w169 := ha63
      have hB72_w169 := hB72
      have hn158_w169 := hn158
      have ha159_w169 := ha159
      refine Gq.st 0 rfl (by kernel_rfl) rfl .plain rfl (fun _ _ _ h => h) ⟨hB41, hB72⟩ (fun w' x => Still.loadAgg agg26 rfl x.1 rfl) ?_
      refine Gq.st 1 rfl (by kernel_rfl) rfl .plain rfl (fun _ _ _ h => h) ⟨hB41, hB72⟩ (fun w' x => Still.loadAgg agg26 rfl x.2 rfl) ?_
      refine Gq.st 2 rfl (by kernel_rfl) rfl .plain rfl (fun _ _ _ h => h) ⟨hB41, hB72⟩ (fun w' x => Still.move rfl) ?_
      refine Gq.one 3 rfl (by kernel_rfl) ?_
      refine Sq.lit sl56 rfl rfl .plain rfl rfl (one_cons rfl (one_cons rfl (one_cons rfl (one_cons rfl (one_cons rfl (one_cons rfl (one_cons rfl (one_cons rfl (one_cons rfl (one_cons rfl (one_cons rfl one_nil))))))))))) (fun b172 w173 e174 hlo175 ho176 _ => ?_)
      replace ho176 := ho176 w169.heap.size (Nat.le_refl _)
      have hs178 := Below.size e174
      replace E := E.trans e174
      replace hB4 := hB4.ext e174
      replace hB11 := hB11.ext e174
      replace hR := hR.ext e174
      replace G := grown_trans G (Ext.to_grown e174 _)
      replace hn31 := hn31.ext e174
      replace ha32 := ha32.ext e174
      replace hB41 := hB41.ext e174
      replace hn62 := hn62.ext e174
      replace ha63 := ha63.ext e174
      replace hB72 := hB72.ext e174
      replace hn158 := hn158.ext e174
      replace ha159 := ha159.ext e174
      refine Sq.nil ?_
      refine Eq.goes (fun _ => ⟨hB41, hB72⟩) ?_
      refine Gq.one 4 rfl (by kernel_rfl) ?_
      refine Sq.call fn47 .plain rfl rfl (num_c _ _ _ _ _ _ hR (hb.go G) hbl (by omega) _ [0, 1, 2, 0, 1, 2, 0, 1, 2, 3, -1] (Own.row ho176) (by simp)) ?_
      rintro _ w180 ⟨⟨p181, hp184, hB183, g182⟩, ⟨k185, rfl, hm186⟩⟩
      have hs187 := World.grownBy.size g182
      have hs188 := Below.size E
      have hs189 := World.grownBy.size G
      have hs190 := World.grownBy.size g182
      replace E := E.grown g182 (fun k hk => by injection hk with hk; subst hk; omega)
      replace hB4 := hB4.grown g182 (by intro h; injection h with h; omega)
      replace hB11 := hB11.grown g182 (by intro h; injection h with h; omega)
      replace G := grown_trans G g182
      replace hn31 := hn31.stored g182 hR (by decide) (by decide)
      replace ha32 := ha32.stored g182 hR (by decide)
      replace hB41 := hB41.grown g182 (by intro h; injection h with h; omega)
      replace hn62 := hn62.stored g182 hR (by decide) (by decide)
      replace ha63 := ha63.stored g182 hR (by decide)
      replace hB72 := hB72.grown g182 (by intro h; injection h with h; omega)
      replace hn158 := hn158.stored g182 hR (by decide) (by decide)
      replace ha159 := ha159.stored g182 hR (by decide)
      replace ho176 := ho176.stored g182 hR (by decide)
      replace hR := hB183
      simp only [List.mem_cons, List.not_mem_nil, or_false] at hm186
      refine Sq.nil ?_
      refine Eq.goes (fun _ => ⟨hB41, hB72⟩) ?_
      refine Gq.one 5 rfl (by kernel_rfl) ?_
      refine Sq.storeAgg agg26 .plain rfl rfl (one_cons rfl (one_cons (Rows.one (OwnRows.rows hn158)) (one_cons (Row.one (Own.row ha159)) one_nil))) hB4 rfl rfl (fun w191 g192 hB193 => ?_)
      have hs194 := World.grownBy.size g192
      replace E := E.grown g192 (fun k hk => by injection hk with hk; subst hk; omega)
      replace hB11 := hB11.grown g192 (by intro h; injection h with h; omega)
      replace hR := hR.grown g192 (by intro h; injection h with h; omega)
      replace hn31 := hn31.stored g192 hB4 (by decide) (by decide)
      replace ha32 := ha32.stored g192 hB4 (by decide)
      replace hB41 := hB41.grown g192 (by intro h; injection h with h; omega)
      replace hn62 := hn62.stored g192 hB4 (by decide) (by decide)
      replace ha63 := ha63.stored g192 hB4 (by decide)
      replace hB72 := hB72.grown g192 (by intro h; injection h with h; omega)
      replace hn158 := hn158.stored g192 hB4 (by decide) (by decide)
      replace ha159 := ha159.stored g192 hB4 (by decide)
      replace ho176 := ho176.stored g192 hB4 (by decide)
      replace hB4 := hB193
      refine Sq.nil ?_
      refine Eq.goes (fun _ => ⟨hB41, hB72⟩) ?_
      refine Gq.one 6 rfl (by kernel_rfl) ?_
      refine Sq.storeAgg agg26 .plain rfl rfl (one_cons rfl (one_cons (Rows.one hn62) (one_cons (Row.one ha63) one_nil))) hB11 rfl rfl (fun w195 g196 hB197 => ?_)
      have hs198 := World.grownBy.size g196
      replace E := E.grown g196 (fun k hk => by injection hk with hk; subst hk; omega)
      replace hB4 := hB4.grown g196 (by intro h; injection h with h; omega)
      replace hR := hR.grown g196 (by intro h; injection h with h; omega)
      replace hn31 := hn31.stored g196 hB11 (by decide) (by decide)
      replace ha32 := ha32.stored g196 hB11 (by decide)
      replace hB41 := hB41.grown g196 (by intro h; injection h with h; omega)
      replace hn62 := hn62.stored g196 hB11 (by decide) (by decide)
      replace ha63 := ha63.stored g196 hB11 (by decide)
      replace hB72 := hB72.grown g196 (by intro h; injection h with h; omega)
      replace hn158 := hn158.stored g196 hB11 (by decide) (by decide)
      replace ha159 := ha159.stored g196 hB11 (by decide)
      replace ho176 := ho176.stored g196 hB11 (by decide)
      replace hB11 := hB197
      refine Sq.nil ?_
      refine Eq.goes (fun _ => ⟨hB41, hB72⟩) ?_
      refine Gq.one 7 rfl (by kernel_rfl) ?_
      refine Sq.assign .plain rfl rfl ?_
      refine Sq.nil ?_
      refine Eq.goes (fun h => absurd h (by decide)) ?_
      refine Gq.done (by kernel_rfl) ?_
      refine Eq.next ?_
      refine Cq.ret ?_
      refine Eq.retCCT rfl rfl rfl rfl agg26 agg26 hB4 hB11 rfl rfl ?_
      exact ⟨⟨_, _, _, _, _, rfl, ⟨_, _, rfl, (OwnRows.rows hn158), (Own.row ha159)⟩, ⟨_, _, rfl, hn62, ha63⟩, by first | exact (Small.of hv160).mono (by omega) | exact Small.mono hv160 (by omega) | exact (Small.of hv109).mono (by omega) | exact Small.mono hv109 (by omega) | exact (Small.of hv64).mono (by omega) | exact Small.mono hv64 (by omega) | exact (Small.of hv33).mono (by omega) | exact Small.mono hv33 (by omega), by first | exact (Small.of hv160).mono (by omega) | exact Small.mono hv160 (by omega) | exact (Small.of hv109).mono (by omega) | exact Small.mono hv109 (by omega) | exact (Small.of hv64).mono (by omega) | exact Small.mono hv64 (by omega) | exact (Small.of hv33).mono (by omega) | exact Small.mono hv33 (by omega), by omega⟩, E⟩
    · refine Sq.assign .plain rfl rfl ?_
      refine Sq.nil ?_
      refine Eq.next ?_
      refine Cq.els rfl ?_
      refine Cq.seq ?_
      refine Cq.region ?_
      refine Sq.eql .plain rfl rfl rfl ?_
      refine Sq.part (fun c199 => ?_) (fun c199 => ?_)
      · refine Sq.assign .plain rfl rfl ?_
        refine Sq.nil ?_
        refine Eq.next ?_
        refine Cq.thn rfl ?_
        refine Cq.region ?_
        refine Sq.move .plain rfl rfl ?_
        refine Sq.move .plain rfl rfl ?_
        refine Sq.loadAgg agg26 .plain rfl rfl hB41 rfl ?_
        refine Sq.call fn46 .plain rfl rfl (l3Wrong_c _ _ _ _ _ _ hR (hb.go G) hbl (by omega) a28 _ _ hn31 ha32 _ (by omega) hv33) ?_
        rintro _ w201 ⟨⟨p202, hp205, hB204, g203⟩, ⟨a206, ⟨nx207, ac208, rfl, hn209, ha210⟩, hv211⟩⟩
        have hs212 := World.grownBy.size g203
        have hs213 := Below.size E
        have hs214 := World.grownBy.size G
        have hs215 := World.grownBy.size g203
        replace E := E.grown g203 (fun k hk => by injection hk with hk; subst hk; omega)
        replace hB4 := hB4.grown g203 (by intro h; injection h with h; omega)
        replace hB11 := hB11.grown g203 (by intro h; injection h with h; omega)
        replace G := grown_trans G g203
        replace hn31 := hn31.stored g203 hR (by decide) (by decide)
        replace ha32 := ha32.stored g203 hR (by decide)
        replace hB41 := hB41.grown g203 (by intro h; injection h with h; omega)
        replace hn62 := hn62.stored g203 hR (by decide) (by decide)
        replace ha63 := ha63.stored g203 hR (by decide)
        replace hB72 := hB72.grown g203 (by intro h; injection h with h; omega)
        replace hR := hB204
        refine Sq.call fn46 .plain rfl rfl (l3Wrong_c _ _ _ _ _ _ hR (hb.go G) hbl (by omega) a206 _ _ hn209 ha210 _ (by omega) hv211) ?_
        rintro _ w217 ⟨⟨p218, hp221, hB220, g219⟩, ⟨a222, ⟨nx223, ac224, rfl, hn225, ha226⟩, hv227⟩⟩
        have hs228 := World.grownBy.size g219
        have hs229 := Below.size E
        have hs230 := World.grownBy.size G
        have hs231 := World.grownBy.size g219
        replace E := E.grown g219 (fun k hk => by injection hk with hk; subst hk; omega)
        replace hB4 := hB4.grown g219 (by intro h; injection h with h; omega)
        replace hB11 := hB11.grown g219 (by intro h; injection h with h; omega)
        replace G := grown_trans G g219
        replace hn31 := hn31.stored g219 hR (by decide) (by decide)
        replace ha32 := ha32.stored g219 hR (by decide)
        replace hB41 := hB41.grown g219 (by intro h; injection h with h; omega)
        replace hn62 := hn62.stored g219 hR (by decide) (by decide)
        replace ha63 := ha63.stored g219 hR (by decide)
        replace hB72 := hB72.grown g219 (by intro h; injection h with h; omega)
        replace hn209 := hn209.stored g219 hR (by decide) (by decide)
        replace ha210 := ha210.stored g219 hR (by decide)
        replace hR := hB220
        refine Sq.storeAgg agg26 .plain rfl rfl (one_cons rfl (one_cons (Rows.one hn225) (one_cons (Row.one ha226) one_nil))) hB41 rfl rfl (fun w232 g233 hB234 => ?_)
        have hs235 := World.grownBy.size g233
        replace E := E.grown g233 (fun k hk => by injection hk with hk; subst hk; omega)
        replace hB4 := hB4.grown g233 (by intro h; injection h with h; omega)
        replace hB11 := hB11.grown g233 (by intro h; injection h with h; omega)
        replace hR := hR.grown g233 (by intro h; injection h with h; omega)
        replace G := grown_far G g233 (fun k hk => by injection hk with hk; subst hk; omega)
        replace hn31 := hn31.stored g233 hB41 (by decide) (by decide)
        replace ha32 := ha32.stored g233 hB41 (by decide)
        replace hn62 := hn62.stored g233 hB41 (by decide) (by decide)
        replace ha63 := ha63.stored g233 hB41 (by decide)
        replace hB72 := hB72.grown g233 (by intro h; injection h with h; omega)
        replace hn209 := hn209.stored g233 hB41 (by decide) (by decide)
        replace ha210 := ha210.stored g233 hB41 (by decide)
        replace hn225 := hn225.stored g233 hB41 (by decide) (by decide)
        replace ha226 := ha226.stored g233 hB41 (by decide)
        replace hB41 := hB234
        refine Sq.nil ?_
        refine Eq.end ?_
        refine Eq.next ?_
        refine Cq.seq ?_
        refine Cq.drawS 7 (fun w' => Blk w' b38 26 [Value.int .i64 a222.al, nx223, ac224] ∧ Blk w' b69 26 [Value.int .i64 a59.al, nx60, ac61]) mixed (⟨hB41, hB72⟩) (fun w236 e237 hS => ?_)
        clear hS
        have hs238 := Below.size e237
        replace E := E.trans e237
        replace hB4 := hB4.ext e237
        replace hB11 := hB11.ext e237
        replace hR := hR.ext e237
        replace G := grown_trans G (Ext.to_grown e237 _)
        replace hn31 := hn31.ext e237
        replace ha32 := ha32.ext e237
        replace hB41 := hB41.ext e237
        replace hn62 := hn62.ext e237
        replace ha63 := ha63.ext e237
        replace hB72 := hB72.ext e237
        replace hn209 := hn209.ext e237
        replace ha210 := ha210.ext e237
        replace hn225 := hn225.ext e237
        replace ha226 := ha226.ext e237
        have E_w236 := E
        have hB4_w236 := hB4
        have hB11_w236 := hB11
        have hR_w236 := hR
        have G_w236 := G
        have hn31_w236 := hn31
        have ha32_w236 := ha32
        have hB41_w236 := hB41
        have hn62_w236 := hn62
        have ha63_w236 := ha63
        have hB72_w236 := hB72
        have hn209_w236 := hn209
        have ha210_w236 := ha210
        have hn225_w236 := hn225
        have ha226_w236 := ha226
        refine Gq.st 0 rfl (by kernel_rfl) rfl .plain rfl (fun _ _ _ h => h) ⟨hB41, hB72⟩ (fun w' x => Still.loadAgg agg26 rfl x.1 rfl) ?_
        refine Gq.st 1 rfl (by kernel_rfl) rfl .plain rfl (fun _ _ _ h => h) ⟨hB41, hB72⟩ (fun w' x => Still.loadAgg agg26 rfl x.2 rfl) ?_
        refine Gq.st 2 rfl (by kernel_rfl) rfl .plain rfl (fun _ _ _ h => h) ⟨hB41, hB72⟩ (fun w' x => Still.move rfl) ?_
        refine Gq.one 3 rfl (by kernel_rfl) ?_
        refine Sq.lit sl56 rfl rfl .plain rfl rfl (one_cons rfl (one_cons rfl (one_cons rfl (one_cons rfl (one_cons rfl (one_cons rfl (one_cons rfl (one_cons rfl (one_cons rfl (one_cons rfl (one_cons rfl one_nil))))))))))) (fun b239 w240 e241 hlo242 ho243 _ => ?_)
        replace ho243 := ho243 w236.heap.size (Nat.le_refl _)
        have hs245 := Below.size e241
        replace E := E.trans e241
        replace hB4 := hB4.ext e241
        replace hB11 := hB11.ext e241
        replace hR := hR.ext e241
        replace G := grown_trans G (Ext.to_grown e241 _)
        replace hn31 := hn31.ext e241
        replace ha32 := ha32.ext e241
        replace hB41 := hB41.ext e241
        replace hn62 := hn62.ext e241
        replace ha63 := ha63.ext e241
        replace hB72 := hB72.ext e241
        replace hn209 := hn209.ext e241
        replace ha210 := ha210.ext e241
        replace hn225 := hn225.ext e241
        replace ha226 := ha226.ext e241
        refine Sq.nil ?_
        refine Eq.goes (fun _ => ⟨hB41, hB72⟩) ?_
        refine Gq.one 4 rfl (by kernel_rfl) ?_
        refine Sq.call fn47 .plain rfl rfl (num_c _ _ _ _ _ _ hR (hb.go G) hbl (by omega) _ [0, 1, 2, 0, 1, 2, 0, 1, 2, 3, -1] (Own.row ho243) (by simp)) ?_
        rintro _ w247 ⟨⟨p248, hp251, hB250, g249⟩, ⟨k252, rfl, hm253⟩⟩
        have hs254 := World.grownBy.size g249
        have hs255 := Below.size E
        have hs256 := World.grownBy.size G
        have hs257 := World.grownBy.size g249
        replace E := E.grown g249 (fun k hk => by injection hk with hk; subst hk; omega)
        replace hB4 := hB4.grown g249 (by intro h; injection h with h; omega)
        replace hB11 := hB11.grown g249 (by intro h; injection h with h; omega)
        replace G := grown_trans G g249
        replace hn31 := hn31.stored g249 hR (by decide) (by decide)
        replace ha32 := ha32.stored g249 hR (by decide)
        replace hB41 := hB41.grown g249 (by intro h; injection h with h; omega)
        replace hn62 := hn62.stored g249 hR (by decide) (by decide)
        replace ha63 := ha63.stored g249 hR (by decide)
        replace hB72 := hB72.grown g249 (by intro h; injection h with h; omega)
        replace hn209 := hn209.stored g249 hR (by decide) (by decide)
        replace ha210 := ha210.stored g249 hR (by decide)
        replace hn225 := hn225.stored g249 hR (by decide) (by decide)
        replace ha226 := ha226.stored g249 hR (by decide)
        replace ho243 := ho243.stored g249 hR (by decide)
        replace hR := hB250
        simp only [List.mem_cons, List.not_mem_nil, or_false] at hm253
        refine Sq.nil ?_
        refine Eq.goes (fun _ => ⟨hB41, hB72⟩) ?_
        refine Gq.one 5 rfl (by kernel_rfl) ?_
        refine Sq.storeAgg agg26 .plain rfl rfl (one_cons rfl (one_cons (Rows.one hn225) (one_cons (Row.one ha226) one_nil))) hB4 rfl rfl (fun w258 g259 hB260 => ?_)
        have hs261 := World.grownBy.size g259
        replace E := E.grown g259 (fun k hk => by injection hk with hk; subst hk; omega)
        replace hB11 := hB11.grown g259 (by intro h; injection h with h; omega)
        replace hR := hR.grown g259 (by intro h; injection h with h; omega)
        replace hn31 := hn31.stored g259 hB4 (by decide) (by decide)
        replace ha32 := ha32.stored g259 hB4 (by decide)
        replace hB41 := hB41.grown g259 (by intro h; injection h with h; omega)
        replace hn62 := hn62.stored g259 hB4 (by decide) (by decide)
        replace ha63 := ha63.stored g259 hB4 (by decide)
        replace hB72 := hB72.grown g259 (by intro h; injection h with h; omega)
        replace hn209 := hn209.stored g259 hB4 (by decide) (by decide)
        replace ha210 := ha210.stored g259 hB4 (by decide)
        replace hn225 := hn225.stored g259 hB4 (by decide) (by decide)
        replace ha226 := ha226.stored g259 hB4 (by decide)
        replace ho243 := ho243.stored g259 hB4 (by decide)
        replace hB4 := hB260
        refine Sq.nil ?_
        refine Eq.goes (fun _ => ⟨hB41, hB72⟩) ?_
        refine Gq.one 6 rfl (by kernel_rfl) ?_
        refine Sq.storeAgg agg26 .plain rfl rfl (one_cons rfl (one_cons (Rows.one hn62) (one_cons (Row.one ha63) one_nil))) hB11 rfl rfl (fun w262 g263 hB264 => ?_)
        have hs265 := World.grownBy.size g263
        replace E := E.grown g263 (fun k hk => by injection hk with hk; subst hk; omega)
        replace hB4 := hB4.grown g263 (by intro h; injection h with h; omega)
        replace hR := hR.grown g263 (by intro h; injection h with h; omega)
        replace hn31 := hn31.stored g263 hB11 (by decide) (by decide)
        replace ha32 := ha32.stored g263 hB11 (by decide)
        replace hB41 := hB41.grown g263 (by intro h; injection h with h; omega)
        replace hn62 := hn62.stored g263 hB11 (by decide) (by decide)
        replace ha63 := ha63.stored g263 hB11 (by decide)
        replace hB72 := hB72.grown g263 (by intro h; injection h with h; omega)
        replace hn209 := hn209.stored g263 hB11 (by decide) (by decide)
        replace ha210 := ha210.stored g263 hB11 (by decide)
        replace hn225 := hn225.stored g263 hB11 (by decide) (by decide)
        replace ha226 := ha226.stored g263 hB11 (by decide)
        replace ho243 := ho243.stored g263 hB11 (by decide)
        replace hB11 := hB264
        refine Sq.nil ?_
        refine Eq.goes (fun _ => ⟨hB41, hB72⟩) ?_
        refine Gq.one 7 rfl (by kernel_rfl) ?_
        refine Sq.assign .plain rfl rfl ?_
        refine Sq.nil ?_
        refine Eq.goes (fun h => absurd h (by decide)) ?_
        refine Gq.done (by kernel_rfl) ?_
        refine Eq.next ?_
        refine Cq.ret ?_
        refine Eq.retCCT rfl rfl rfl rfl agg26 agg26 hB4 hB11 rfl rfl ?_
        exact ⟨⟨_, _, _, _, _, rfl, ⟨_, _, rfl, hn225, ha226⟩, ⟨_, _, rfl, hn62, ha63⟩, by first | exact (Small.of hv227).mono (by omega) | exact Small.mono hv227 (by omega) | exact (Small.of hv211).mono (by omega) | exact Small.mono hv211 (by omega) | exact (Small.of hv160).mono (by omega) | exact Small.mono hv160 (by omega) | exact (Small.of hv109).mono (by omega) | exact Small.mono hv109 (by omega) | exact (Small.of hv64).mono (by omega) | exact Small.mono hv64 (by omega) | exact (Small.of hv33).mono (by omega) | exact Small.mono hv33 (by omega), by first | exact (Small.of hv227).mono (by omega) | exact Small.mono hv227 (by omega) | exact (Small.of hv211).mono (by omega) | exact Small.mono hv211 (by omega) | exact (Small.of hv160).mono (by omega) | exact Small.mono hv160 (by omega) | exact (Small.of hv109).mono (by omega) | exact Small.mono hv109 (by omega) | exact (Small.of hv64).mono (by omega) | exact Small.mono hv64 (by omega) | exact (Small.of hv33).mono (by omega) | exact Small.mono hv33 (by omega), by omega⟩, E⟩
      · refine Sq.assign .plain rfl rfl ?_
        refine Sq.nil ?_
        refine Eq.next ?_
        refine Cq.els rfl ?_
        refine Cq.skip ?_
        refine Eq.end ?_
        refine Eq.next ?_
        refine Cq.seq ?_
        refine Cq.drawS 7 (fun w' => Blk w' b38 26 [Value.int .i64 a28.al, nx29, ac30] ∧ Blk w' b69 26 [Value.int .i64 a59.al, nx60, ac61]) mixed (⟨hB41, hB72⟩) (fun w266 e267 hS => ?_)
        clear hS
        have hs268 := Below.size e267
        replace E := E.trans e267
        replace hB4 := hB4.ext e267
        replace hB11 := hB11.ext e267
        replace hR := hR.ext e267
        replace G := grown_trans G (Ext.to_grown e267 _)
        replace hn31 := hn31.ext e267
        replace ha32 := ha32.ext e267
        replace hB41 := hB41.ext e267
        replace hn62 := hn62.ext e267
        replace ha63 := ha63.ext e267
        replace hB72 := hB72.ext e267
        have E_w266 := E
        have hB4_w266 := hB4
        have hB11_w266 := hB11
        have hR_w266 := hR
        have G_w266 := G
        have hn31_w266 := hn31
        have ha32_w266 := ha32
        have hB41_w266 := hB41
        have hn62_w266 := hn62
        have ha63_w266 := ha63
        have hB72_w266 := hB72
        refine Gq.st 0 rfl (by kernel_rfl) rfl .plain rfl (fun _ _ _ h => h) ⟨hB41, hB72⟩ (fun w' x => Still.loadAgg agg26 rfl x.1 rfl) ?_
        refine Gq.st 1 rfl (by kernel_rfl) rfl .plain rfl (fun _ _ _ h => h) ⟨hB41, hB72⟩ (fun w' x => Still.loadAgg agg26 rfl x.2 rfl) ?_
        refine Gq.st 2 rfl (by kernel_rfl) rfl .plain rfl (fun _ _ _ h => h) ⟨hB41, hB72⟩ (fun w' x => Still.move rfl) ?_
        refine Gq.one 3 rfl (by kernel_rfl) ?_
        refine Sq.lit sl56 rfl rfl .plain rfl rfl (one_cons rfl (one_cons rfl (one_cons rfl (one_cons rfl (one_cons rfl (one_cons rfl (one_cons rfl (one_cons rfl (one_cons rfl (one_cons rfl (one_cons rfl one_nil))))))))))) (fun b269 w270 e271 hlo272 ho273 _ => ?_)
        replace ho273 := ho273 w266.heap.size (Nat.le_refl _)
        have hs275 := Below.size e271
        replace E := E.trans e271
        replace hB4 := hB4.ext e271
        replace hB11 := hB11.ext e271
        replace hR := hR.ext e271
        replace G := grown_trans G (Ext.to_grown e271 _)
        replace hn31 := hn31.ext e271
        replace ha32 := ha32.ext e271
        replace hB41 := hB41.ext e271
        replace hn62 := hn62.ext e271
        replace ha63 := ha63.ext e271
        replace hB72 := hB72.ext e271
        refine Sq.nil ?_
        refine Eq.goes (fun _ => ⟨hB41, hB72⟩) ?_
        refine Gq.one 4 rfl (by kernel_rfl) ?_
        refine Sq.call fn47 .plain rfl rfl (num_c _ _ _ _ _ _ hR (hb.go G) hbl (by omega) _ [0, 1, 2, 0, 1, 2, 0, 1, 2, 3, -1] (Own.row ho273) (by simp)) ?_
        rintro _ w277 ⟨⟨p278, hp281, hB280, g279⟩, ⟨k282, rfl, hm283⟩⟩
        have hs284 := World.grownBy.size g279
        have hs285 := Below.size E
        have hs286 := World.grownBy.size G
        have hs287 := World.grownBy.size g279
        replace E := E.grown g279 (fun k hk => by injection hk with hk; subst hk; omega)
        replace hB4 := hB4.grown g279 (by intro h; injection h with h; omega)
        replace hB11 := hB11.grown g279 (by intro h; injection h with h; omega)
        replace G := grown_trans G g279
        replace hn31 := hn31.stored g279 hR (by decide) (by decide)
        replace ha32 := ha32.stored g279 hR (by decide)
        replace hB41 := hB41.grown g279 (by intro h; injection h with h; omega)
        replace hn62 := hn62.stored g279 hR (by decide) (by decide)
        replace ha63 := ha63.stored g279 hR (by decide)
        replace hB72 := hB72.grown g279 (by intro h; injection h with h; omega)
        replace ho273 := ho273.stored g279 hR (by decide)
        replace hR := hB280
        simp only [List.mem_cons, List.not_mem_nil, or_false] at hm283
        refine Sq.nil ?_
        refine Eq.goes (fun _ => ⟨hB41, hB72⟩) ?_
        refine Gq.one 5 rfl (by kernel_rfl) ?_
        refine Sq.storeAgg agg26 .plain rfl rfl (one_cons rfl (one_cons (Rows.one hn31) (one_cons (Row.one ha32) one_nil))) hB4 rfl rfl (fun w288 g289 hB290 => ?_)
        have hs291 := World.grownBy.size g289
        replace E := E.grown g289 (fun k hk => by injection hk with hk; subst hk; omega)
        replace hB11 := hB11.grown g289 (by intro h; injection h with h; omega)
        replace hR := hR.grown g289 (by intro h; injection h with h; omega)
        replace hn31 := hn31.stored g289 hB4 (by decide) (by decide)
        replace ha32 := ha32.stored g289 hB4 (by decide)
        replace hB41 := hB41.grown g289 (by intro h; injection h with h; omega)
        replace hn62 := hn62.stored g289 hB4 (by decide) (by decide)
        replace ha63 := ha63.stored g289 hB4 (by decide)
        replace hB72 := hB72.grown g289 (by intro h; injection h with h; omega)
        replace ho273 := ho273.stored g289 hB4 (by decide)
        replace hB4 := hB290
        refine Sq.nil ?_
        refine Eq.goes (fun _ => ⟨hB41, hB72⟩) ?_
        refine Gq.one 6 rfl (by kernel_rfl) ?_
        refine Sq.storeAgg agg26 .plain rfl rfl (one_cons rfl (one_cons (Rows.one hn62) (one_cons (Row.one ha63) one_nil))) hB11 rfl rfl (fun w292 g293 hB294 => ?_)
        have hs295 := World.grownBy.size g293
        replace E := E.grown g293 (fun k hk => by injection hk with hk; subst hk; omega)
        replace hB4 := hB4.grown g293 (by intro h; injection h with h; omega)
        replace hR := hR.grown g293 (by intro h; injection h with h; omega)
        replace hn31 := hn31.stored g293 hB11 (by decide) (by decide)
        replace ha32 := ha32.stored g293 hB11 (by decide)
        replace hB41 := hB41.grown g293 (by intro h; injection h with h; omega)
        replace hn62 := hn62.stored g293 hB11 (by decide) (by decide)
        replace ha63 := ha63.stored g293 hB11 (by decide)
        replace hB72 := hB72.grown g293 (by intro h; injection h with h; omega)
        replace ho273 := ho273.stored g293 hB11 (by decide)
        replace hB11 := hB294
        refine Sq.nil ?_
        refine Eq.goes (fun _ => ⟨hB41, hB72⟩) ?_
        refine Gq.one 7 rfl (by kernel_rfl) ?_
        refine Sq.assign .plain rfl rfl ?_
        refine Sq.nil ?_
        refine Eq.goes (fun h => absurd h (by decide)) ?_
        refine Gq.done (by kernel_rfl) ?_
        refine Eq.next ?_
        refine Cq.ret ?_
        refine Eq.retCCT rfl rfl rfl rfl agg26 agg26 hB4 hB11 rfl rfl ?_
        exact ⟨⟨_, _, _, _, _, rfl, ⟨_, _, rfl, hn31, ha32⟩, ⟨_, _, rfl, hn62, ha63⟩, by first | exact (Small.of hv227).mono (by omega) | exact Small.mono hv227 (by omega) | exact (Small.of hv211).mono (by omega) | exact Small.mono hv211 (by omega) | exact (Small.of hv160).mono (by omega) | exact Small.mono hv160 (by omega) | exact (Small.of hv109).mono (by omega) | exact Small.mono hv109 (by omega) | exact (Small.of hv64).mono (by omega) | exact Small.mono hv64 (by omega) | exact (Small.of hv33).mono (by omega) | exact Small.mono hv33 (by omega), by first | exact (Small.of hv227).mono (by omega) | exact Small.mono hv227 (by omega) | exact (Small.of hv211).mono (by omega) | exact Small.mono hv211 (by omega) | exact (Small.of hv160).mono (by omega) | exact Small.mono hv160 (by omega) | exact (Small.of hv109).mono (by omega) | exact Small.mono hv109 (by omega) | exact (Small.of hv64).mono (by omega) | exact Small.mono hv64 (by omega) | exact (Small.of hv33).mono (by omega) | exact Small.mono hv33 (by omega), by omega⟩, E⟩

end Go.Proofs.Ytdejmfkpohgamaa
