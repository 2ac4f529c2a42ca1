/-
  The texts of this proof, joined (wip/merge.py): the calculus of slots, plain mathematics, walks.
-/
import Derived.Test.YtdejmfkpohgamaaGe1
set_option linter.unusedSimpArgs false
set_option linter.unusedVariables false
namespace Go.Proofs.Ytdejmfkpohgamaa
open Go.RowKit
set_option maxRecDepth 100000 in
theorem l3Random_c (w0 : World) (rb : Nat) (bv : Value) (p : Int) (bs : List UInt8) (e0 : TypeId) (hR : Blk w0 rb 88 [bv, .int .i64 p]) (hb : Src w0 e0 bv bs rb) (hbl : bs.length ≤ 2000) (hp : 0 ≤ p ∧ p ≤ 800000000) (al n : Int) (hal : 0 ≤ al ∧ al ≤ 63) (hn : 1 ≤ n ∧ n ≤ 12) : Ret Try.prog 115 #[Value.pointer (some ⟨rb, 0, none⟩), Value.int .i64 al, Value.int .i64 n] w0 (fun v w => (∃ p', (p ≤ p' ∧ p' ≤ p + 100) ∧ Blk w rb 88 [bv, .int .i64 p'] ∧ w0.grownBy w (some rb)) ∧ ∃ a, OwnA w w0.heap.size v a ∧ validA a = true ∧ a.al = al ∧ (a.next.length : Int) = n) := by
  have G := World.grownBy.refl w0 (some rb)
  have hlt := hR.lt
  refine Ret.of (args := [Value.pointer (some ⟨rb, 0, none⟩), Value.int .i64 al, Value.int .i64 n]) Try.func115 rfl rfl rfl ?_
  rintro _ rfl
  show Cq _ _ _ _ [(0, Value.pointer (some ⟨rb, 0, none⟩)), (1, Value.int .i64 al), (2, Value.int .i64 n)] _
  refine Cq.seq ?_
  refine Cq.region ?_
  refine Sq.alloc zero26 .plain rfl (fun b1 w2 e3 hB4 hlo5 => ?_)
  have hd6 := Nat.lt_of_lt_of_le hR.lt hlo5
  have hd7 := Nat.le_trans (World.grownBy.size G) hlo5
  have hs8 := Below.size e3
  replace hR := hR.ext e3
  replace G := grown_trans G (Ext.to_grown e3 _)
  refine Sq.nil ?_
  refine Eq.next ?_
  refine Cq.seq ?_
  refine Cq.region ?_
  refine Sq.move .plain rfl rfl ?_
  refine Sq.build st26 rfl rfl .plain rfl rfl (one_cons rfl one_nil) rfl ?_
  refine Sq.alloc zero26 .plain rfl (fun b9 w10 e11 hB12 hlo13 => ?_)
  have hd14 := Nat.lt_of_lt_of_le hR.lt hlo13
  have hd15 := Nat.le_trans (World.grownBy.size G) hlo13
  have hd16 := Nat.lt_of_lt_of_le hB4.lt hlo13
  have hs17 := Below.size e11
  replace hR := hR.ext e11
  replace G := grown_trans G (Ext.to_grown e11 _)
  replace hB4 := hB4.ext e11
  refine Sq.storeAgg agg26 .plain rfl rfl (one_cons rfl (one_cons rfl (one_cons rfl one_nil))) hB12 rfl rfl (fun w18 g19 hB20 => ?_)
  have hs21 := World.grownBy.size g19
  replace hR := hR.grown g19 (by intro h; injection h with h; omega)
  replace G := grown_far G g19 (fun k hk => by injection hk with hk; subst hk; omega)
  replace hB4 := hB4.grown g19 (by intro h; injection h with h; omega)
  replace hB12 := hB20
  refine Sq.nil ?_
  refine Eq.next ?_
  refine Cq.seq ?_
  refine Cq.region ?_
  refine Sq.move .plain rfl rfl ?_
  have hd26 := hR.lt
  have hd27 := hB4.lt
  have hd28 := hB12.lt
  refine Sq.call fn53 .plain rfl rfl (l1Letters_c al (by omega) _) ?_
  rintro v22 w23 ⟨hl25, e24⟩
  have hs29 := World.grownBy.size G
  have hs30 := Below.size e24
  replace hR := hR.ext e24
  replace G := grown_trans G (Ext.to_grown e24 _)
  replace hB4 := hB4.ext e24
  replace hB12 := hB12.ext e24
  refine Sq.lenInts (Own.row hl25) .plain rfl und56 rfl ?_
  refine Sq.assign .plain rfl rfl ?_
  refine Sq.nil ?_
  refine Eq.next ?_
  refine Cq.seq ?_
  refine Cq.seq ?_
  refine Cq.region ?_
  refine Sq.assign .plain rfl rfl ?_
  refine Sq.nil ?_
  refine Eq.next ?_
  refine Cq.block ?_
  refine Cq.loop (fun nn w ls => ∃ (i : Int), ∃ (p1 : Int), ∃ (nxv : Value), ∃ (acv : Value), ∃ (xss : List (List Int)), ∃ (ys : List Bool), ls = [(0, Value.pointer (some ⟨rb, 0, none⟩)), (2, Value.int .i64 n), (6, Value.pointer (some ⟨b1, 0, none⟩)), (7, Value.pointer (some ⟨b9, 0, none⟩)), (8, Value.int .i64 ((List.length (letters al) : Int))), (9, Value.int .i64 i)] ∧ (0 ≤ i ∧ i ≤ n) ∧ (p ≤ p1 ∧ p1 ≤ p + 7 * i) ∧ Blk w rb 88 [bv, Value.int .i64 p1] ∧ Blk w b9 26 [Value.int .i64 al, nxv, acv] ∧ OwnRows w w0.heap.size w.heap.size 56 3 nxv xss ∧ Own w w0.heap.size 4 acv (ys.map Value.bool) ∧ ((xss.length : Int) = i ∧ (ys.length : Int) = i ∧ ∀ row ∈ xss, rowOk (letters al).length n row = true) ∧ World.grownBy w0 w (some rb) ∧ Blk w b1 26 [Value.int .i64 0, Value.slice none 0 0, Value.slice none 0 0] ∧ nn = (n - i).toNat) _ _ ⟨0, p, _, _, [], [], rfl, by omega, by omega, hR, hB12, OwnRows.nil _ _ _ _ _, Own.nil _ _ _, by simp, G, hB4, rfl⟩ (.cons rfl (.cons rfl (.cons rfl (.cons rfl (.cons rfl (.cons rfl (.nil))))))) ?_
  rintro nn wl1 ls ⟨i, p1, nxv, acv, xss, ys, rfl, hi, hp1, hR, hB7, hor, hoa, hxl, G, hB4, rfl⟩
  have hs31 := World.grownBy.size G
  have hl6 := letters_len6 al
  refine Cq.seq ?_
  refine Cq.seq ?_
  refine Cq.region ?_
  refine Sq.move .plain rfl rfl ?_
  refine Sq.move .plain rfl rfl ?_
  refine Sq.lss .plain rfl rfl rfl ?_
  refine Sq.part (fun c32 => ?_) (fun c32 => ?_)
  · refine Sq.nil ?_
    refine Eq.next ?_
    refine Cq.thn rfl ?_
    refine Cq.skip ?_
    refine Eq.next ?_
    refine Cq.seq ?_
    refine Cq.block ?_
    refine Cq.seq ?_
    refine Cq.region ?_
    refine Sq.lit sl56 rfl rfl .plain rfl rfl one_nil (fun b33 w34 e35 hlo36 ho37 _ => ?_)
    replace ho37 := ho37 wl1.heap.size (Nat.le_refl _)
    have hs39 := Below.size e35
    replace G := grown_trans G (Ext.to_grown e35 _)
    replace hB4 := hB4.ext e35
    replace hR := hR.ext e35
    replace hB7 := hB7.ext e35
    replace hor := hor.ext e35
    replace hoa := hoa.ext e35
    refine Sq.assign .plain rfl rfl ?_
    refine Sq.nil ?_
    refine Eq.next ?_
    refine Cq.seq ?_
    refine Cq.seq ?_
    refine Cq.region ?_
    refine Sq.assign .plain rfl rfl ?_
    refine Sq.nil ?_
    refine Eq.next ?_
    refine Cq.block ?_
    refine Cq.loop (fun nn w ls => ∃ (j : Int), ∃ (p2 : Int), ∃ (rv : Value), ∃ (row : List Int), ls = [(0, Value.pointer (some ⟨rb, 0, none⟩)), (2, Value.int .i64 n), (6, Value.pointer (some ⟨b1, 0, none⟩)), (7, Value.pointer (some ⟨b9, 0, none⟩)), (8, Value.int .i64 ((List.length (letters al) : Int))), (9, Value.int .i64 i), (10, rv), (11, Value.int .i64 j)] ∧ (0 ≤ j ∧ j ≤ (letters al).length) ∧ wl1.heap.size ≤ w.heap.size ∧ (p1 ≤ p2 ∧ p2 ≤ p1 + j) ∧ Blk w rb 88 [bv, Value.int .i64 p2] ∧ Own w wl1.heap.size 3 rv (row.map (Value.int .i64)) ∧ ((row.length : Int) = j ∧ ∀ q ∈ row, 0 ≤ q ∧ q < n) ∧ World.grownBy w0 w (some rb) ∧ Blk w b1 26 [Value.int .i64 0, Value.slice none 0 0, Value.slice none 0 0] ∧ Blk w b9 26 [Value.int .i64 al, nxv, acv] ∧ OwnRows w w0.heap.size wl1.heap.size 56 3 nxv xss ∧ Own w w0.heap.size 4 acv (ys.map Value.bool) ∧ nn = ((letters al).length - j).toNat) _ _ ⟨0, p1, _, [], rfl, by omega, by omega, by omega, hR, ho37, by simp, G, hB4, hB7, hor, hoa, rfl⟩ (.cons rfl (.cons rfl (.cons rfl (.cons rfl (.cons rfl (.cons rfl (.cons rfl (.cons rfl (.nil))))))))) ?_
    rintro nn wl2 ls ⟨j, p2, rv, row, rfl, hj, hsz, hp2, hR, hro, hrl, G, hB4, hB7, hor, hoa, rfl⟩
    have hs40 := World.grownBy.size G
    refine Cq.seq ?_
    refine Cq.seq ?_
    refine Cq.region ?_
    refine Sq.move .plain rfl rfl ?_
    refine Sq.move .plain rfl rfl ?_
    refine Sq.lss .plain rfl rfl rfl ?_
    refine Sq.part (fun c41 => ?_) (fun c41 => ?_)
    · refine Sq.nil ?_
      refine Eq.next ?_
      refine Cq.thn rfl ?_
      refine Cq.skip ?_
      refine Eq.next ?_
      refine Cq.seq ?_
      refine Cq.block ?_
      refine Cq.region ?_
      refine Sq.move .plain rfl rfl ?_
      refine Sq.move .plain rfl rfl ?_
      refine Sq.move .plain rfl rfl ?_
      refine Sq.call fn43 .plain rfl rfl (pick_c _ _ _ _ _ _ hR (hb.go G) hbl (by omega) n (by omega)) ?_
      rintro _ w43 ⟨⟨p44, hp47, hB46, g45⟩, ⟨k48, rfl, hk49⟩⟩
      have hs50 := World.grownBy.size g45
      have hs51 := World.grownBy.size G
      have hs52 := World.grownBy.size g45
      replace G := grown_trans G g45
      replace hB4 := hB4.grown g45 (by intro h; injection h with h; omega)
      replace hB7 := hB7.grown g45 (by intro h; injection h with h; omega)
      replace hor := hor.stored g45 hR (by decide) (by decide)
      replace hoa := hoa.stored g45 hR (by decide)
      replace hro := hro.stored g45 hR (by decide)
      replace hR := hB46
      refine Sq.app1 sl56 hro (by omega) (by first | omega | (simp; omega)) .plain rfl rfl rfl rfl rfl rfl rfl (fun v53 w54 ho56 g55 _ => ?_)
      have hs57 := g55.size
      replace G := grown_new G hro g55 (by omega)
      replace hB4 := hB4.owned hro g55 (by decide)
      replace hB7 := hB7.owned hro g55 (by decide)
      replace hor := hor.apart hro g55 (by omega) (by decide)
      replace hoa := hoa.owned hro g55 (by decide)
      replace hR := hR.owned hro g55 (by decide)
      refine Sq.assign .plain rfl rfl ?_
      refine Sq.nil ?_
      refine Eq.end ?_
      refine Eq.next ?_
      refine Cq.region ?_
      refine Sq.move .plain rfl rfl ?_
      refine Sq.add .plain rfl rfl rfl (by omega) ?_
      refine Sq.assign .plain rfl rfl ?_
      refine Sq.nil ?_
      refine Eq.round _ _ ⟨j + 1, _, _, _, rfl, by omega, by omega, by omega, hR, Own.snocI ho56, ⟨by simp; omega, all_app hrl.2 (by omega)⟩, G, hB4, hB7, hor, hoa, rfl⟩ (by omega) (.cons rfl (.cons rfl (.cons rfl (.cons rfl (.cons rfl (.cons rfl (.cons rfl (.cons rfl (.nil)))))))))
    refine Sq.nil ?_
    refine Eq.next ?_
    refine Cq.els rfl ?_
    refine Cq.exit ?_
    refine Eq.past ?_
    refine Eq.past ?_
    refine Eq.hit ?_
    refine Eq.next ?_
    refine Cq.seq ?_
    refine Cq.region ?_
    refine Sq.fieldAddr fld26_1 .plain rfl rfl ?_
    refine Sq.loadB one23 .plain rfl rfl hB7 rfl ?_
    refine Sq.move .plain rfl rfl ?_
    obtain ⟨rs62, q63, q64, q65⟩ := OwnRows.open hor (by decide)
    have q65x := Ext.refl wl2
    refine Sq.app1 sl23 q63 (by omega) (by rw [q64]; first | omega | (simp; omega)) .plain rfl rfl rfl rfl rfl rfl (Row.one (Own.row hro)) (fun v58 w59 ho61 g60 _ => ?_)
    have hs66 := g60.size
    have ho61r := q65 _ row _ _ _ (Ext.refl _) (Own.mono hro (by omega)) (by omega) ho61 g60
    replace G := grown_new G q63 g60 (by omega)
    replace hB4 := hB4.owned q63 g60 (by decide)
    replace hB7 := hB7.owned q63 g60 (by decide)
    replace hoa := hoa.owned q63 g60 (by decide)
    replace hR := hR.owned q63 g60 (by decide)
    refine Sq.fieldAddr fld26_1 .plain rfl rfl ?_
    refine Sq.store one23 .plain rfl rfl (Rows.one (OwnRows.rows ho61r)) hB7 (by simp) (fun w67 g68 hB69 => ?_)
    have hs70 := World.grownBy.size g68
    replace G := grown_far G g68 (fun k hk => by injection hk with hk; subst hk; omega)
    replace hB4 := hB4.grown g68 (by intro h; injection h with h; omega)
    replace hoa := hoa.stored g68 hB7 (by decide)
    replace hR := hR.grown g68 (by intro h; injection h with h; omega)
    replace ho61r := ho61r.stored g68 hB7 (by decide) (by decide)
    replace hB7 := hB69
    refine Sq.nil ?_
    refine Eq.next ?_
    refine Cq.drawS 7 (fun w' => Blk w' b9 26 [Value.int .i64 al, v58, acv]) mixed (hB7) (fun w71 e72 hS => ?_)
    clear hS
    have hs73 := Below.size e72
    replace G := grown_trans G (Ext.to_grown e72 _)
    replace hB4 := hB4.ext e72
    replace hB7 := hB7.ext e72
    replace hoa := hoa.ext e72
    replace hR := hR.ext e72
    replace ho61r := ho61r.ext e72
    refine Gq.st 0 rfl (by kernel_rfl) rfl .plain rfl (fun _ _ _ h => h) hB7 (fun w' x => Still.fieldAddr fld26_2 rfl) ?_
    refine Gq.st 1 rfl (by kernel_rfl) rfl .plain rfl (fun _ _ _ h => h) hB7 (fun w' x => Still.loadB one24 rfl x rfl) ?_
    refine Gq.st 2 rfl (by kernel_rfl) rfl .plain rfl (fun _ _ _ h => h) hB7 (fun w' x => Still.move rfl) ?_
    refine Gq.one 3 rfl (by kernel_rfl) ?_
    refine Sq.call fn43 .plain rfl rfl (pick_c _ _ _ _ _ _ hR (hb.go G) hbl (by omega) 3 (by omega)) ?_
    rintro _ w75 ⟨⟨p76, hp79, hB78, g77⟩, ⟨k80, rfl, hk81⟩⟩
    have hs82 := World.grownBy.size g77
    have hs83 := World.grownBy.size G
    have hs84 := World.grownBy.size g77
    replace G := grown_trans G g77
    replace hB4 := hB4.grown g77 (by intro h; injection h with h; omega)
    replace hB7 := hB7.grown g77 (by intro h; injection h with h; omega)
    replace hoa := hoa.stored g77 hR (by decide)
    replace ho61r := ho61r.stored g77 hR (by decide) (by decide)
    replace hR := hB78
    refine Sq.nil ?_
    refine Eq.goes (fun _ => hB7) ?_
    refine Gq.st 4 rfl (by kernel_rfl) rfl .plain rfl (fun _ _ _ h => h) hB7 (fun w' x => Still.gtr rfl rfl) ?_
    refine Gq.one 5 rfl (by kernel_rfl) ?_
    refine Sq.lit sl24 rfl rfl .plain rfl rfl (one_cons rfl one_nil) (fun b85 w86 e87 hlo88 ho89 _ => ?_)
    replace ho89 := ho89 w75.heap.size (Nat.le_refl _)
    have hs91 := Below.size e87
    replace G := grown_trans G (Ext.to_grown e87 _)
    replace hB4 := hB4.ext e87
    replace hB7 := hB7.ext e87
    replace hoa := hoa.ext e87
    replace hR := hR.ext e87
    replace ho61r := ho61r.ext e87
    refine Sq.nil ?_
    refine Eq.goes (fun _ => hB7) ?_
    refine Gq.one 6 rfl (by kernel_rfl) ?_
    refine Sq.app sl24 hoa (by omega) (Own.row ho89) (one_cons rfl one_nil) (by first | omega | (simp; omega)) .plain rfl rfl rfl rfl (fun v92 w93 ho95 g94 => ?_)
    have hs96 := g94.size
    replace G := grown_new G hoa g94 (by omega)
    replace hB4 := hB4.owned hoa g94 (by decide)
    replace hB7 := hB7.owned hoa g94 (by decide)
    replace hR := hR.owned hoa g94 (by decide)
    replace ho61r := ho61r.owned hoa g94 (by decide) (by decide)
    refine Sq.nil ?_
    refine Eq.goes (fun _ => hB7) ?_
    refine Gq.one 7 rfl (by kernel_rfl) ?_
    refine Sq.fieldAddr fld26_2 .plain rfl rfl ?_
    refine Sq.nil ?_
    refine Eq.goes (fun h => absurd h (by decide)) ?_
    refine Gq.one 8 rfl (by kernel_rfl) ?_
    refine Sq.store one24 .plain rfl rfl (Row.one (Own.row ho95)) hB7 (by simp) (fun w97 g98 hB99 => ?_)
    have hs100 := World.grownBy.size g98
    replace G := grown_far G g98 (fun k hk => by injection hk with hk; subst hk; omega)
    replace hB4 := hB4.grown g98 (by intro h; injection h with h; omega)
    replace hR := hR.grown g98 (by intro h; injection h with h; omega)
    replace ho61r := ho61r.stored g98 hB7 (by decide) (by decide)
    replace ho95 := ho95.stored g98 hB7 (by decide)
    replace hB7 := hB99
    refine Sq.nil ?_
    refine Eq.goes (fun h => absurd h (by decide)) ?_
    refine Gq.done (by kernel_rfl) ?_
    refine Eq.end ?_
    refine Eq.next ?_
    refine Cq.region ?_
    refine Sq.move .plain rfl rfl ?_
    refine Sq.add .plain rfl rfl rfl (by omega) ?_
    refine Sq.assign .plain rfl rfl ?_
    refine Sq.nil ?_
    refine Eq.round _ _ ⟨i + 1, _, _, _, _, _, rfl, by omega, by omega, hR, hB7, OwnRows.now ho61r, Own.snocB ho95, ⟨by simp; omega, by simp; omega, rows_snoc hxl.2.2 (rowOk_mk (by omega) hrl.2)⟩, G, hB4, rfl⟩ (by omega) (.cons rfl (.cons rfl (.cons rfl (.cons rfl (.cons rfl (.cons rfl (.nil)))))))
  refine Sq.nil ?_
  refine Eq.next ?_
  refine Cq.els rfl ?_
  refine Cq.exit ?_
  refine Eq.past ?_
  refine Eq.past ?_
  refine Eq.hit ?_
  refine Eq.next ?_
  refine Cq.seq ?_
  refine Cq.region ?_
  refine Sq.loadAgg agg26 .plain rfl rfl hB7 rfl ?_
  refine Sq.storeAgg agg26 .plain rfl rfl (one_cons rfl (one_cons (Rows.one (OwnRows.rows hor)) (one_cons (Row.one (Own.row hoa)) one_nil))) hB4 rfl rfl (fun w101 g102 hB103 => ?_)
  have hs104 := World.grownBy.size g102
  replace G := grown_far G g102 (fun k hk => by injection hk with hk; subst hk; omega)
  replace hR := hR.grown g102 (by intro h; injection h with h; omega)
  replace hor := hor.stored g102 hB4 (by decide) (by decide)
  replace hoa := hoa.stored g102 hB4 (by decide)
  replace hB4 := hB103
  refine Sq.nil ?_
  refine Eq.next ?_
  refine Cq.ret ?_
  refine Eq.retCell rfl rfl agg26 hB4 rfl ?_
  exact ⟨⟨_, by omega, hR, G⟩, ⟨al, xss, ys⟩, ⟨_, _, rfl, OwnRows.now hor, hoa⟩, validA_mk hal (by show 1 ≤ xss.length ∧ xss.length ≤ 12; omega) (by show ys.length = xss.length; omega) (by intro row hr; have e : ((⟨al, xss, ys⟩ : A).next.length : Int) = n := (by show (xss.length : Int) = n; omega); rw [e]; exact hxl.2.2 row hr), rfl, by show (xss.length : Int) = n; omega⟩
set_option maxRecDepth 100000 in
theorem l3Safe_c (w0 : World) (rb : Nat) (bv : Value) (p : Int) (bs : List UInt8) (e0 : TypeId) (hR : Blk w0 rb 88 [bv, .int .i64 p]) (hb : Src w0 e0 bv bs rb) (hbl : bs.length ≤ 2000) (hp : 0 ≤ p ∧ p ≤ 700000000) (al n : Int) (hal : 0 ≤ al ∧ al ≤ 63) (hn : 1 ≤ n ∧ n ≤ 12) : Ret Try.prog 114 #[Value.pointer (some ⟨rb, 0, none⟩), Value.int .i64 al, Value.int .i64 n] w0 (fun v w => (∃ p', (p ≤ p' ∧ p' ≤ p + 100) ∧ Blk w rb 88 [bv, .int .i64 p'] ∧ w0.grownBy w (some rb)) ∧ ∃ a, OwnA w w0.heap.size v a ∧ validA a = true ∧ a.al = al ∧ (a.next.length : Int) = n) := by
  have G := World.grownBy.refl w0 (some rb)
  have hlt := hR.lt
  refine Ret.of (args := [Value.pointer (some ⟨rb, 0, none⟩), Value.int .i64 al, Value.int .i64 n]) Try.func114 rfl rfl rfl ?_
  rintro _ rfl
  show Cq _ _ _ _ [(0, Value.pointer (some ⟨rb, 0, none⟩)), (1, Value.int .i64 al), (2, Value.int .i64 n)] _
  refine Cq.seq ?_
  refine Cq.region ?_
  refine Sq.alloc zero26 .plain rfl (fun b1 w2 e3 hB4 hlo5 => ?_)
  have hd6 := Nat.lt_of_lt_of_le hR.lt hlo5
  have hd7 := Nat.le_trans (World.grownBy.size G) hlo5
  have hs8 := Below.size e3
  replace hR := hR.ext e3
  replace G := grown_trans G (Ext.to_grown e3 _)
  refine Sq.nil ?_
  refine Eq.next ?_
  refine Cq.seq ?_
  refine Cq.region ?_
  refine Sq.move .plain rfl rfl ?_
  refine Sq.move .plain rfl rfl ?_
  refine Sq.move .plain rfl rfl ?_
  refine Sq.call fn115 .plain rfl rfl (l3Random_c _ _ _ _ _ _ hR (hb.go G) hbl (by omega) al n (by omega) (by omega)) ?_
  rintro _ w10 ⟨⟨p11, hp14, hB13, g12⟩, ⟨a15, ⟨nx16, ac17, rfl, hn18, ha19⟩, hv20, hal21, hlen22⟩⟩
  have hs23 := World.grownBy.size g12
  have hs24 := World.grownBy.size G
  have hs25 := World.grownBy.size g12
  replace G := grown_trans G g12
  replace hB4 := hB4.grown g12 (by intro h; injection h with h; omega)
  replace hR := hB13
  refine Sq.alloc zero26 .plain rfl (fun b26 w27 e28 hB29 hlo30 => ?_)
  have hd31 := Nat.lt_of_lt_of_le hR.lt hlo30
  have hd32 := Nat.le_trans (World.grownBy.size G) hlo30
  have hd33 := Nat.lt_of_lt_of_le hB4.lt hlo30
  have hs34 := Below.size e28
  replace hR := hR.ext e28
  replace G := grown_trans G (Ext.to_grown e28 _)
  replace hB4 := hB4.ext e28
  replace hn18 := hn18.ext e28
  replace ha19 := ha19.ext e28
  refine Sq.storeAgg agg26 .plain rfl rfl (one_cons rfl (one_cons (Rows.one (OwnRows.rows hn18)) (one_cons (Row.one (Own.row ha19)) one_nil))) hB29 rfl rfl (fun w35 g36 hB37 => ?_)
  have hs38 := World.grownBy.size g36
  replace hR := hR.grown g36 (by intro h; injection h with h; omega)
  replace G := grown_far G g36 (fun k hk => by injection hk with hk; subst hk; omega)
  replace hB4 := hB4.grown g36 (by intro h; injection h with h; omega)
  replace hn18 := hn18.stored g36 hB29 (by decide) (by decide)
  replace ha19 := ha19.stored g36 hB29 (by decide)
  replace hB29 := hB37
  refine Sq.nil ?_
  refine Eq.next ?_
  refine Cq.seq ?_
  refine Cq.seq ?_
  refine Cq.region ?_
  refine Sq.assign .plain rfl rfl ?_
  refine Sq.nil ?_
  refine Eq.next ?_
  refine Cq.block ?_
  have hvs := validA_spec.1 hv20
  refine Cq.loop (fun nn w ls => ∃ (i : Int), ∃ (ys : List Bool), ls = [(0, Value.pointer (some ⟨rb, 0, none⟩)), (2, Value.int .i64 n), (6, Value.pointer (some ⟨b1, 0, none⟩)), (7, Value.pointer (some ⟨b26, 0, none⟩)), (8, Value.int .i64 i)] ∧ (0 ≤ i ∧ i ≤ n) ∧ ((ys.length : Int) = n) ∧ Own w w0.heap.size 4 ac17 (ys.map Value.bool) ∧ World.grownBy w0 w (some rb) ∧ Blk w rb 88 [bv, Value.int .i64 p11] ∧ Blk w b1 26 [Value.int .i64 0, Value.slice none 0 0, Value.slice none 0 0] ∧ Blk w b26 26 [Value.int .i64 a15.al, nx16, ac17] ∧ OwnRows w w2.heap.size w10.heap.size 56 3 nx16 a15.next ∧ nn = (n - i).toNat) _ _ ⟨0, _, rfl, by omega, by have := hvs.2.2.1; omega, Own.mono ha19 (by omega), G, hR, hB4, hB29, hn18, rfl⟩ (.cons rfl (.cons rfl (.cons rfl (.cons rfl (.cons rfl (.nil)))))) ?_
  rintro nn wl1 ls ⟨i, ys, rfl, hi, hyl, ha19, G, hR, hB4, hB29, hn18, rfl⟩
  have hs39 := World.grownBy.size G
  refine Cq.seq ?_
  refine Cq.seq ?_
  refine Cq.region ?_
  refine Sq.move .plain rfl rfl ?_
  refine Sq.move .plain rfl rfl ?_
  refine Sq.lss .plain rfl rfl rfl ?_
  refine Sq.part (fun c40 => ?_) (fun c40 => ?_)
  · refine Sq.nil ?_
    refine Eq.next ?_
    refine Cq.thn rfl ?_
    refine Cq.skip ?_
    refine Eq.next ?_
    refine Cq.seq ?_
    refine Cq.block ?_
    refine Cq.region ?_
    refine Sq.fieldAddr fld26_2 .plain rfl rfl ?_
    refine Sq.loadB one24 .plain rfl rfl hB29 rfl ?_
    refine Sq.move .plain rfl rfl ?_
    refine Sq.move .plain rfl rfl ?_
    refine Sq.move .plain rfl rfl ?_
    refine Sq.sub .plain rfl rfl rfl (by omega) ?_
    refine Sq.lss .plain rfl rfl rfl ?_
    obtain ⟨p41, hp42o⟩ := Own.at ha19 (i := i) (by omega) (by first | (simp only [List.length_map]; omega) | (simp; omega))
    refine Sq.atO sl24 hp42o .plain rfl rfl rfl ?_
    refine Sq.storeO one4 ha19 hp42o .plain rfl rfl rfl (fun w43 g44 ho45 => ?_)
    have hs46 := World.grownBy.size g44
    replace G := grown_new G ha19 g44 (by omega)
    replace hR := hR.owned ha19 g44 (by decide)
    replace hB4 := hB4.owned ha19 g44 (by decide)
    replace hB29 := hB29.owned ha19 g44 (by decide)
    replace hn18 := hn18.owned ha19 g44 (by decide) (by decide)
    replace ha19 := ho45
    refine Sq.nil ?_
    refine Eq.end ?_
    refine Eq.next ?_
    refine Cq.region ?_
    refine Sq.move .plain rfl rfl ?_
    refine Sq.add .plain rfl rfl rfl (by omega) ?_
    refine Sq.assign .plain rfl rfl ?_
    refine Sq.nil ?_
    refine Eq.round _ _ ⟨i + 1, _, rfl, by omega, by rw [List.length_set]; omega, Own.setB ha19, G, hR, hB4, hB29, hn18, rfl⟩ (by omega) (.cons rfl (.cons rfl (.cons rfl (.cons rfl (.cons rfl (.nil))))))
  refine Sq.nil ?_
  refine Eq.next ?_
  refine Cq.els rfl ?_
  refine Cq.exit ?_
  refine Eq.past ?_
  refine Eq.past ?_
  refine Eq.hit ?_
  refine Eq.next ?_
  refine Cq.seq ?_
  refine Cq.seq ?_
  refine Cq.region ?_
  refine Sq.assign .plain rfl rfl ?_
  refine Sq.nil ?_
  refine Eq.next ?_
  refine Cq.block ?_
  have hrows := validA_rows hv20
  refine Cq.loop (fun nn w ls => ∃ (j : Int), ∃ (xss : List (List Int)), ls = [(0, Value.pointer (some ⟨rb, 0, none⟩)), (2, Value.int .i64 n), (6, Value.pointer (some ⟨b1, 0, none⟩)), (7, Value.pointer (some ⟨b26, 0, none⟩)), (9, Value.int .i64 j)] ∧ (0 ≤ j) ∧ ((xss.length : Int) = n ∧ ∀ row ∈ xss, rowOk (letters al).length n row = true) ∧ OwnRows w w0.heap.size w.heap.size 56 3 nx16 xss ∧ World.grownBy w0 w (some rb) ∧ Blk w rb 88 [bv, Value.int .i64 p11] ∧ Blk w b1 26 [Value.int .i64 0, Value.slice none 0 0, Value.slice none 0 0] ∧ Blk w b26 26 [Value.int .i64 a15.al, nx16, ac17] ∧ Own w w0.heap.size 4 ac17 (ys.map Value.bool) ∧ nn = (((xss.getD (n - 1).toNat []).length : Int) - j).toNat) _ _ ⟨0, _, rfl, by omega, ⟨by omega, by rw [← hal21, ← hlen22]; exact hrows⟩, OwnRows.mono (OwnRows.now hn18) (by omega), G, hR, hB4, hB29, ha19, rfl⟩ (.cons rfl (.cons rfl (.cons rfl (.cons rfl (.cons rfl (.nil)))))) ?_
  rintro nn wl2 ls ⟨j, xss, rfl, hj, hxl, hn18, G, hR, hB4, hB29, ha19, rfl⟩
  have hs47 := World.grownBy.size G
  have hrk := rowOk_at hxl.2 (k := (n - 1).toNat) (by omega)
  have hl6 := letters_len6 al
  refine Cq.seq ?_
  refine Cq.seq ?_
  refine Cq.region ?_
  refine Sq.move .plain rfl rfl ?_
  refine Sq.fieldAddr fld26_1 .plain rfl rfl ?_
  refine Sq.loadB one23 .plain rfl rfl hB29 rfl ?_
  refine Sq.move .plain rfl rfl ?_
  refine Sq.sub .plain rfl rfl rfl (by omega) ?_
  refine Sq.idxRows sl23 one56 (OwnRows.rows hn18) .plain rfl rfl rfl .plain rfl rfl (by omega) (by omega) (fun r48 hr49 => ?_)
  refine Sq.lenInts hr49 .plain rfl und56 rfl ?_
  refine Sq.lss .plain rfl rfl rfl ?_
  refine Sq.part (fun c50 => ?_) (fun c50 => ?_)
  · refine Sq.nil ?_
    refine Eq.next ?_
    refine Cq.thn rfl ?_
    refine Cq.skip ?_
    refine Eq.next ?_
    refine Cq.seq ?_
    refine Cq.block ?_
    refine Cq.region ?_
    refine Sq.fieldAddr fld26_1 .plain rfl rfl ?_
    refine Sq.loadB one23 .plain rfl rfl hB29 rfl ?_
    refine Sq.move .plain rfl rfl ?_
    refine Sq.sub .plain rfl rfl rfl (by omega) ?_
    obtain ⟨p51, r53, hp52, _⟩ := Rows.at (OwnRows.rows hn18) (i := n - 1) (by omega) (by omega)
    have hr54 := (OwnRows.rowAt hn18 hp52).1
    refine Sq.val .plain rfl rfl (Still.at' sl23 hp52 rfl rfl) ?_
    refine Sq.val .plain rfl rfl (Still.loadA one56 rfl hp52.1) ?_
    refine Sq.move .plain rfl rfl ?_
    refine Sq.move .plain rfl rfl ?_
    refine Sq.sub .plain rfl rfl rfl (by omega) ?_
    obtain ⟨p55, hp56o⟩ := Own.at hr54 (i := j) (by omega) (by first | (simp only [List.length_map]; omega) | (simp; omega))
    refine Sq.atO sl56 hp56o .plain rfl rfl rfl ?_
    refine Sq.storeO one3 hr54 hp56o .plain rfl rfl rfl (fun w57 g58 ho59 => ?_)
    have hs60 := World.grownBy.size g58
    rw [← List.map_set] at ho59
    replace hn18 := (OwnRows.set hn18 (by decide) hp52 ho59 g58).1
    replace G := grown_new G hr54 g58 (by omega)
    replace hR := hR.owned hr54 g58 (by decide)
    replace hB4 := hB4.owned hr54 g58 (by decide)
    replace hB29 := hB29.owned hr54 g58 (by decide)
    replace ha19 := ha19.owned hr54 g58 (by decide)
    refine Sq.nil ?_
    refine Eq.end ?_
    refine Eq.next ?_
    refine Cq.region ?_
    refine Sq.move .plain rfl rfl ?_
    refine Sq.add .plain rfl rfl rfl (by omega) ?_
    refine Sq.assign .plain rfl rfl ?_
    refine Sq.nil ?_
    refine Eq.round _ _ ⟨j + 1, _, rfl, by omega, ⟨by rw [List.length_set]; exact hxl.1, rows_set hxl.2 (rowOk_set hrk (by omega))⟩, OwnRows.now hn18, G, hR, hB4, hB29, ha19, rfl⟩ (by rw [getD_set_self (by omega), List.length_set]; omega) (.cons rfl (.cons rfl (.cons rfl (.cons rfl (.cons rfl (.nil))))))
  refine Sq.nil ?_
  refine Eq.next ?_
  refine Cq.els rfl ?_
  refine Cq.exit ?_
  refine Eq.past ?_
  refine Eq.past ?_
  refine Eq.hit ?_
  refine Eq.next ?_
  refine Cq.seq ?_
  refine Cq.region ?_
  refine Sq.loadAgg agg26 .plain rfl rfl hB29 rfl ?_
  refine Sq.storeAgg agg26 .plain rfl rfl (one_cons rfl (one_cons (Rows.one (OwnRows.rows hn18)) (one_cons (Row.one (Own.row ha19)) one_nil))) hB4 rfl rfl (fun w61 g62 hB63 => ?_)
  have hs64 := World.grownBy.size g62
  replace G := grown_far G g62 (fun k hk => by injection hk with hk; subst hk; omega)
  replace hR := hR.grown g62 (by intro h; injection h with h; omega)
  replace ha19 := ha19.stored g62 hB4 (by decide)
  replace hn18 := hn18.stored g62 hB4 (by decide) (by decide)
  replace hB4 := hB63
  refine Sq.nil ?_
  refine Eq.next ?_
  refine Cq.ret ?_
  refine Eq.retCell rfl rfl agg26 hB4 rfl ?_
  exact ⟨⟨_, by omega, hR, G⟩, ⟨al, xss, ys⟩, ⟨_, _, by first | rfl | (simp only [hal21]), OwnRows.now (OwnRows.mono hn18 (by omega)), Own.mono ha19 (by omega)⟩, validA_mk hal (by show 1 ≤ xss.length ∧ xss.length ≤ 12; omega) (by show ys.length = xss.length; omega) (by intro row hr; have e : ((⟨al, xss, ys⟩ : A).next.length : Int) = n := (by show (xss.length : Int) = n; omega); rw [e]; exact hxl.2 row hr), rfl, by show (xss.length : Int) = n; omega⟩
set_option maxRecDepth 100000 in
theorem l3Over_c (w0 : World) (rb : Nat) (bv : Value) (p : Int) (bs : List UInt8) (e0 : TypeId) (hR : Blk w0 rb 88 [bv, .int .i64 p]) (hb : Src w0 e0 bv bs rb) (hbl : bs.length ≤ 2000) (hp : 0 ≤ p ∧ p ≤ 600000000) (al : Int) (hal : 0 ≤ al ∧ al ≤ 63) : Ret Try.prog 87 #[Value.pointer (some ⟨rb, 0, none⟩), Value.int .i64 al] w0 (fun v w => (∃ p', (p ≤ p' ∧ p' ≤ p + 200) ∧ Blk w rb 88 [bv, .int .i64 p'] ∧ w0.grownBy w (some rb)) ∧ ∃ a, OwnA w w0.heap.size v a ∧ validA a = true ∧ a.al = al) := by
  have G := World.grownBy.refl w0 (some rb)
  have hlt := hR.lt
  refine Ret.of (args := [Value.pointer (some ⟨rb, 0, none⟩), Value.int .i64 al]) Try.func87 rfl rfl rfl ?_
  rintro _ rfl
  show Cq _ _ _ _ [(0, Value.pointer (some ⟨rb, 0, none⟩)), (1, Value.int .i64 al)] _
  refine Cq.seq ?_
  refine Cq.region ?_
  refine Sq.alloc zero26 .plain rfl (fun b1 w2 e3 hB4 hlo5 => ?_)
  have hd6 := Nat.lt_of_lt_of_le hR.lt hlo5
  have hd7 := Nat.le_trans (World.grownBy.size G) hlo5
  have hs8 := Below.size e3
  replace hR := hR.ext e3
  replace G := grown_trans G (Ext.to_grown e3 _)
  refine Sq.nil ?_
  refine Eq.next ?_
  refine Cq.seq ?_
  refine Cq.seq ?_
  refine Cq.region ?_
  refine Sq.move .plain rfl rfl ?_
  refine Sq.call fn43 .plain rfl rfl (pick_c _ _ _ _ _ _ hR (hb.go G) hbl (by omega) 2 (by omega)) ?_
  rintro _ w10 ⟨⟨p11, hp14, hB13, g12⟩, ⟨k15, rfl, hk16⟩⟩
  have hs17 := World.grownBy.size g12
  have hs18 := World.grownBy.size G
  have hs19 := World.grownBy.size g12
  replace G := grown_trans G g12
  replace hB4 := hB4.grown g12 (by intro h; injection h with h; omega)
  replace hR := hB13
  refine Sq.eql .plain rfl rfl rfl ?_
  refine Sq.part (fun c20 => ?_) (fun c20 => ?_)
  · refine Sq.nil ?_
    refine Eq.next ?_
    refine Cq.thn rfl ?_
    refine Cq.seq ?_
    refine Cq.region ?_
    refine Sq.move .plain rfl rfl ?_
    refine Sq.move .plain rfl rfl ?_
    refine Sq.move .plain rfl rfl ?_
    refine Sq.lit sl56 rfl rfl .plain rfl rfl (one_cons rfl (one_cons rfl (one_cons rfl (one_cons rfl one_nil)))) (fun b21 w22 e23 hlo24 ho25 _ => ?_)
    replace ho25 := ho25 w10.heap.size (Nat.le_refl _)
    have hs27 := Below.size e23
    replace hR := hR.ext e23
    replace G := grown_trans G (Ext.to_grown e23 _)
    replace hB4 := hB4.ext e23
    refine Sq.call fn47 .plain rfl rfl (num_c _ _ _ _ _ _ hR (hb.go G) hbl (by omega) _ [3, 2, 4, 1] (Own.row ho25) (by simp)) ?_
    rintro _ w29 ⟨⟨p30, hp33, hB32, g31⟩, ⟨k34, rfl, hm35⟩⟩
    have hs36 := World.grownBy.size g31
    have hs37 := World.grownBy.size G
    have hs38 := World.grownBy.size g31
    replace G := grown_trans G g31
    replace hB4 := hB4.grown g31 (by intro h; injection h with h; omega)
    replace hR := hB32
    simp only [List.mem_cons, List.not_mem_nil, or_false] at hm35
    refine Sq.call fn114 .plain rfl rfl (l3Safe_c _ _ _ _ _ _ hR (hb.go G) hbl (by omega) al k34 (by omega) (by omega)) ?_
    rintro _ w40 ⟨⟨p41, hp44, hB43, g42⟩, ⟨a45, ⟨nx46, ac47, rfl, hn48, ha49⟩, hv50, hal51, hlen52⟩⟩
    have hs53 := World.grownBy.size g42
    have hs54 := World.grownBy.size G
    have hs55 := World.grownBy.size g42
    replace G := grown_trans G g42
    replace hB4 := hB4.grown g42 (by intro h; injection h with h; omega)
    replace hR := hB43
    refine Sq.storeAgg agg26 .plain rfl rfl (one_cons rfl (one_cons (Rows.one (OwnRows.rows hn48)) (one_cons (Row.one (Own.row ha49)) one_nil))) hB4 rfl rfl (fun w56 g57 hB58 => ?_)
    have hs59 := World.grownBy.size g57
    replace hR := hR.grown g57 (by intro h; injection h with h; omega)
    replace G := grown_far G g57 (fun k hk => by injection hk with hk; subst hk; omega)
    replace hn48 := hn48.stored g57 hB4 (by decide) (by decide)
    replace ha49 := ha49.stored g57 hB4 (by decide)
    replace hB4 := hB58
    refine Sq.nil ?_
    refine Eq.next ?_
    refine Cq.ret ?_
    refine Eq.pastRet ?_
    refine Eq.retCell rfl rfl agg26 hB4 rfl ?_
    exact ⟨⟨_, by omega, hR, G⟩, _, ⟨_, _, rfl, OwnRows.now (OwnRows.mono hn48 (by omega)), Own.mono ha49 (by omega)⟩, hv50, hal51⟩
  refine Sq.nil ?_
  refine Eq.next ?_
  refine Cq.els rfl ?_
  refine Cq.skip ?_
  refine Eq.next ?_
  refine Cq.seq ?_
  refine Cq.region ?_
  refine Sq.move .plain rfl rfl ?_
  refine Sq.move .plain rfl rfl ?_
  refine Sq.move .plain rfl rfl ?_
  refine Sq.lit sl56 rfl rfl .plain rfl rfl (one_cons rfl (one_cons rfl (one_cons rfl (one_cons rfl (one_cons rfl one_nil))))) (fun b60 w61 e62 hlo63 ho64 _ => ?_)
  replace ho64 := ho64 w10.heap.size (Nat.le_refl _)
  have hs66 := Below.size e62
  replace hR := hR.ext e62
  replace G := grown_trans G (Ext.to_grown e62 _)
  replace hB4 := hB4.ext e62
  refine Sq.call fn47 .plain rfl rfl (num_c _ _ _ _ _ _ hR (hb.go G) hbl (by omega) _ [2, 3, 1, 4, 5] (Own.row ho64) (by simp)) ?_
  rintro _ w68 ⟨⟨p69, hp72, hB71, g70⟩, ⟨k73, rfl, hm74⟩⟩
  have hs75 := World.grownBy.size g70
  have hs76 := World.grownBy.size G
  have hs77 := World.grownBy.size g70
  replace G := grown_trans G g70
  replace hB4 := hB4.grown g70 (by intro h; injection h with h; omega)
  replace hR := hB71
  simp only [List.mem_cons, List.not_mem_nil, or_false] at hm74
  refine Sq.call fn115 .plain rfl rfl (l3Random_c _ _ _ _ _ _ hR (hb.go G) hbl (by omega) al k73 (by omega) (by omega)) ?_
  rintro _ w79 ⟨⟨p80, hp83, hB82, g81⟩, ⟨a84, ⟨nx85, ac86, rfl, hn87, ha88⟩, hv89, hal90, hlen91⟩⟩
  have hs92 := World.grownBy.size g81
  have hs93 := World.grownBy.size G
  have hs94 := World.grownBy.size g81
  replace G := grown_trans G g81
  replace hB4 := hB4.grown g81 (by intro h; injection h with h; omega)
  replace hR := hB82
  refine Sq.storeAgg agg26 .plain rfl rfl (one_cons rfl (one_cons (Rows.one (OwnRows.rows hn87)) (one_cons (Row.one (Own.row ha88)) one_nil))) hB4 rfl rfl (fun w95 g96 hB97 => ?_)
  have hs98 := World.grownBy.size g96
  replace hR := hR.grown g96 (by intro h; injection h with h; omega)
  replace G := grown_far G g96 (fun k hk => by injection hk with hk; subst hk; omega)
  replace hn87 := hn87.stored g96 hB4 (by decide) (by decide)
  replace ha88 := ha88.stored g96 hB4 (by decide)
  replace hB4 := hB97
  refine Sq.nil ?_
  refine Eq.next ?_
  refine Cq.ret ?_
  refine Eq.retCell rfl rfl agg26 hB4 rfl ?_
  exact ⟨⟨_, by omega, hR, G⟩, _, ⟨_, _, rfl, OwnRows.now (OwnRows.mono hn87 (by omega)), Own.mono ha88 (by omega)⟩, hv89, hal90⟩
set_option maxRecDepth 100000 in
theorem l3Big_c (w0 : World) (rb : Nat) (bv : Value) (p : Int) (bs : List UInt8) (e0 : TypeId) (hR : Blk w0 rb 88 [bv, .int .i64 p]) (hb : Src w0 e0 bv bs rb) (hbl : bs.length ≤ 2000) (hp : 0 ≤ p ∧ p ≤ 800000000) : Ret Try.prog 45 #[Value.pointer (some ⟨rb, 0, none⟩)] w0 (fun v w => (∃ p', (p ≤ p' ∧ p' ≤ p + 100) ∧ Blk w rb 88 [bv, .int .i64 p'] ∧ w0.grownBy w (some rb)) ∧ ∃ a, OwnA w w0.heap.size v a ∧ validA a = true) := by
  have G := World.grownBy.refl w0 (some rb)
  have hlt := hR.lt
  refine Ret.of (args := [Value.pointer (some ⟨rb, 0, none⟩)]) Try.func45 rfl rfl rfl ?_
  rintro _ rfl
  show Cq _ _ _ _ [(0, Value.pointer (some ⟨rb, 0, none⟩))] _
  refine Cq.seq ?_
  refine Cq.region ?_
  refine Sq.alloc zero26 .plain rfl (fun b1 w2 e3 hB4 hlo5 => ?_)
  have hd6 := Nat.lt_of_lt_of_le hR.lt hlo5
  have hd7 := Nat.le_trans (World.grownBy.size G) hlo5
  have hs8 := Below.size e3
  replace hR := hR.ext e3
  replace G := grown_trans G (Ext.to_grown e3 _)
  refine Sq.nil ?_
  refine Eq.next ?_
  refine Cq.seq ?_
  refine Cq.region ?_
  refine Sq.build st26 rfl rfl .plain rfl rfl (one_cons rfl one_nil) rfl ?_
  refine Sq.alloc zero26 .plain rfl (fun b9 w10 e11 hB12 hlo13 => ?_)
  have hd14 := Nat.lt_of_lt_of_le hR.lt hlo13
  have hd15 := Nat.le_trans (World.grownBy.size G) hlo13
  have hd16 := Nat.lt_of_lt_of_le hB4.lt hlo13
  have hs17 := Below.size e11
  replace hR := hR.ext e11
  replace G := grown_trans G (Ext.to_grown e11 _)
  replace hB4 := hB4.ext e11
  refine Sq.storeAgg agg26 .plain rfl rfl (one_cons rfl (one_cons rfl (one_cons rfl one_nil))) hB12 rfl rfl (fun w18 g19 hB20 => ?_)
  have hs21 := World.grownBy.size g19
  replace hR := hR.grown g19 (by intro h; injection h with h; omega)
  replace G := grown_far G g19 (fun k hk => by injection hk with hk; subst hk; omega)
  replace hB4 := hB4.grown g19 (by intro h; injection h with h; omega)
  replace hB12 := hB20
  refine Sq.nil ?_
  refine Eq.next ?_
  refine Cq.seq ?_
  refine Cq.seq ?_
  refine Cq.region ?_
  refine Sq.assign .plain rfl rfl ?_
  refine Sq.nil ?_
  refine Eq.next ?_
  refine Cq.block ?_
  refine Cq.loop (fun nn w ls => ∃ (i : Int), ∃ (p1 : Int), ∃ (nxv : Value), ∃ (acv : Value), ∃ (xss : List (List Int)), ∃ (ys : List Bool), ls = [(0, Value.pointer (some ⟨rb, 0, none⟩)), (2, Value.pointer (some ⟨b1, 0, none⟩)), (3, Value.pointer (some ⟨b9, 0, none⟩)), (4, Value.int .i64 i)] ∧ (0 ≤ i ∧ i ≤ 12) ∧ (p ≤ p1 ∧ p1 ≤ p + 3 * i) ∧ Blk w rb 88 [bv, Value.int .i64 p1] ∧ Blk w b9 26 [Value.int .i64 3, nxv, acv] ∧ OwnRows w w0.heap.size w.heap.size 56 3 nxv xss ∧ Own w w0.heap.size 4 acv (ys.map Value.bool) ∧ ((xss.length : Int) = i ∧ (ys.length : Int) = i ∧ ∀ row ∈ xss, rowOk 2 12 row = true) ∧ World.grownBy w0 w (some rb) ∧ Blk w b1 26 [Value.int .i64 0, Value.slice none 0 0, Value.slice none 0 0] ∧ nn = (12 - i).toNat) _ _ ⟨0, p, _, _, [], [], rfl, by omega, by omega, hR, hB12, OwnRows.nil _ _ _ _ _, Own.nil _ _ _, by simp, G, hB4, rfl⟩ (.cons rfl (.cons rfl (.cons rfl (.cons rfl (.nil))))) ?_
  rintro nn wl1 ls ⟨i, p1, nxv, acv, xss, ys, rfl, hi, hp1, hR, hB7, hor, hoa, hxl, G, hB4, rfl⟩
  have hs22 := World.grownBy.size G
  refine Cq.seq ?_
  refine Cq.seq ?_
  refine Cq.region ?_
  refine Sq.move .plain rfl rfl ?_
  refine Sq.lss .plain rfl rfl rfl ?_
  refine Sq.part (fun c23 => ?_) (fun c23 => ?_)
  · refine Sq.nil ?_
    refine Eq.next ?_
    refine Cq.thn rfl ?_
    refine Cq.skip ?_
    refine Eq.next ?_
    refine Cq.seq ?_
    refine Cq.block ?_
    refine Cq.seq ?_
    refine Cq.drawS 12 (fun w' => Blk w' b9 26 [Value.int .i64 3, nxv, acv]) mixed (hB7) (fun w24 e25 hS => ?_)
    clear hS
    have hs26 := Below.size e25
    replace G := grown_trans G (Ext.to_grown e25 _)
    replace hB4 := hB4.ext e25
    replace hR := hR.ext e25
    replace hB7 := hB7.ext e25
    replace hor := hor.ext e25
    replace hoa := hoa.ext e25
    refine Gq.st 0 rfl (by kernel_rfl) rfl .plain rfl (fun _ _ _ h => h) hB7 (fun w' x => Still.fieldAddr fld26_1 rfl) ?_
    refine Gq.st 1 rfl (by kernel_rfl) rfl .plain rfl (fun _ _ _ h => h) hB7 (fun w' x => Still.loadB one23 rfl x rfl) ?_
    refine Gq.st 2 rfl (by kernel_rfl) rfl .plain rfl (fun _ _ _ h => h) hB7 (fun w' x => Still.move rfl) ?_
    refine Gq.st 3 rfl (by kernel_rfl) rfl .plain rfl (fun _ _ _ h => h) hB7 (fun w' x => Still.add rfl rfl (by omega)) ?_
    refine Gq.st 4 rfl (by kernel_rfl) rfl .plain rfl (fun _ _ _ h => h) hB7 (fun w' x => Still.rem rfl rfl (by omega)) ?_
    refine Gq.st 5 rfl (by kernel_rfl) rfl .plain rfl (fun _ _ _ h => h) hB7 (fun w' x => Still.move rfl) ?_
    refine Gq.st 6 rfl (by kernel_rfl) rfl .plain rfl (fun _ _ _ h => h) hB7 (fun w' x => Still.move rfl) ?_
    refine Gq.one 7 rfl (by kernel_rfl) ?_
    refine Sq.lit sl56 rfl rfl .plain rfl rfl (one_cons rfl (one_cons rfl (one_cons rfl one_nil))) (fun b27 w28 e29 hlo30 ho31 _ => ?_)
    replace ho31 := ho31 w24.heap.size (Nat.le_refl _)
    have hs33 := Below.size e29
    replace G := grown_trans G (Ext.to_grown e29 _)
    replace hB4 := hB4.ext e29
    replace hR := hR.ext e29
    replace hB7 := hB7.ext e29
    replace hor := hor.ext e29
    replace hoa := hoa.ext e29
    refine Sq.nil ?_
    refine Eq.goes (fun _ => hB7) ?_
    refine Gq.one 8 rfl (by kernel_rfl) ?_
    refine Sq.call fn47 .plain rfl rfl (num_c _ _ _ _ _ _ hR (hb.go G) hbl (by omega) _ [i, 0, 11] (Own.row ho31) (by simp)) ?_
    rintro _ w35 ⟨⟨p36, hp39, hB38, g37⟩, ⟨k40, rfl, hm41⟩⟩
    have hs42 := World.grownBy.size g37
    have hs43 := World.grownBy.size G
    have hs44 := World.grownBy.size g37
    replace G := grown_trans G g37
    replace hB4 := hB4.grown g37 (by intro h; injection h with h; omega)
    replace hB7 := hB7.grown g37 (by intro h; injection h with h; omega)
    replace hor := hor.stored g37 hR (by decide) (by decide)
    replace hoa := hoa.stored g37 hR (by decide)
    replace hR := hB38
    simp only [List.mem_cons, List.not_mem_nil, or_false] at hm41
    refine Sq.nil ?_
    refine Eq.goes (fun _ => hB7) ?_
    refine Gq.one 9 rfl (by kernel_rfl) ?_
    refine Sq.lit sl56 rfl rfl .plain rfl rfl (one_cons rfl (one_cons rfl one_nil)) (fun b45 w46 e47 hlo48 ho49 _ => ?_)
    replace ho49 := ho49 w35.heap.size (Nat.le_refl _)
    have hs51 := Below.size e47
    replace G := grown_trans G (Ext.to_grown e47 _)
    replace hB4 := hB4.ext e47
    replace hR := hR.ext e47
    replace hB7 := hB7.ext e47
    replace hor := hor.ext e47
    replace hoa := hoa.ext e47
    refine Sq.nil ?_
    refine Eq.goes (fun _ => hB7) ?_
    refine Gq.one 10 rfl (by kernel_rfl) ?_
    refine Sq.lit sl23 rfl rfl .plain rfl rfl (one_cons (Row.one (Own.row ho49)) one_nil) (fun b52 w53 e54 hlo55 ho56 _ => ?_)
    replace ho56 := ho56 w46.heap.size (Nat.le_refl _)
    have hs58 := Below.size e54
    replace G := grown_trans G (Ext.to_grown e54 _)
    replace hB4 := hB4.ext e54
    replace hR := hR.ext e54
    replace hB7 := hB7.ext e54
    replace hor := hor.ext e54
    replace hoa := hoa.ext e54
    replace ho49 := ho49.ext e54
    refine Sq.nil ?_
    refine Eq.goes (fun _ => hB7) ?_
    refine Gq.one 11 rfl (by kernel_rfl) ?_
    obtain ⟨rs63, q64, q65, q66⟩ := OwnRows.open hor (by decide)
    have q66x := Ext.refl w53
    refine Sq.app sl23 q64 (by omega) (Own.row ho56) (one_cons (Row.one (Own.row ho49)) one_nil) (by rw [q65]; first | omega | (simp; omega)) .plain rfl rfl rfl rfl (fun v59 w60 ho62 g61 => ?_)
    have hs67 := g61.size
    have ho62r := q66 _ (([(i + 1) % 12, k40] : List Int)) _ _ _ (Ext.refl _) (Own.mono ho49 (by omega)) (by omega) ho62 g61
    replace G := grown_new G q64 g61 (by omega)
    replace hB4 := hB4.owned q64 g61 (by decide)
    replace hR := hR.owned q64 g61 (by decide)
    replace hB7 := hB7.owned q64 g61 (by decide)
    replace hoa := hoa.owned q64 g61 (by decide)
    refine Sq.nil ?_
    refine Eq.goes (fun _ => hB7) ?_
    refine Gq.one 12 rfl (by kernel_rfl) ?_
    refine Sq.fieldAddr fld26_1 .plain rfl rfl ?_
    refine Sq.nil ?_
    refine Eq.goes (fun h => absurd h (by decide)) ?_
    refine Gq.one 13 rfl (by kernel_rfl) ?_
    refine Sq.store one23 .plain rfl rfl (Rows.one (OwnRows.rows ho62r)) hB7 (by simp) (fun w68 g69 hB70 => ?_)
    have hs71 := World.grownBy.size g69
    replace G := grown_far G g69 (fun k hk => by injection hk with hk; subst hk; omega)
    replace hB4 := hB4.grown g69 (by intro h; injection h with h; omega)
    replace hR := hR.grown g69 (by intro h; injection h with h; omega)
    replace hoa := hoa.stored g69 hB7 (by decide)
    replace ho62r := ho62r.stored g69 hB7 (by decide) (by decide)
    replace hB7 := hB70
    refine Sq.nil ?_
    refine Eq.goes (fun h => absurd h (by decide)) ?_
    refine Gq.done (by kernel_rfl) ?_
    refine Eq.next ?_
    refine Cq.drawS 11 (fun w' => Blk w' b9 26 [Value.int .i64 3, v59, acv]) mixed (hB7) (fun w72 e73 hS => ?_)
    clear hS
    have hs74 := Below.size e73
    replace G := grown_trans G (Ext.to_grown e73 _)
    replace hB4 := hB4.ext e73
    replace hR := hR.ext e73
    replace hB7 := hB7.ext e73
    replace hoa := hoa.ext e73
    replace ho62r := ho62r.ext e73
    refine Gq.st 0 rfl (by kernel_rfl) rfl .plain rfl (fun _ _ _ h => h) hB7 (fun w' x => Still.fieldAddr fld26_2 rfl) ?_
    refine Gq.st 1 rfl (by kernel_rfl) rfl .plain rfl (fun _ _ _ h => h) hB7 (fun w' x => Still.loadB one24 rfl x rfl) ?_
    refine Gq.st 2 rfl (by kernel_rfl) rfl .plain rfl (fun _ _ _ h => h) hB7 (fun w' x => Still.move rfl) ?_
    refine Gq.st 3 rfl (by kernel_rfl) rfl .plain rfl (fun _ _ _ h => h) hB7 (fun w' x => Still.eql rfl rfl) ?_
    refine Gq.part (fun c75 => ?_) (fun c75 => ?_)
    · refine Gq.st 4 rfl (by kernel_rfl) rfl .plain rfl (fun _ _ _ h => h) hB7 (fun w' x => Still.move rfl) ?_
      refine Gq.off 5 rfl (by kernel_rfl) rfl rfl rfl rfl rfl rfl (fun _ _ _ h => h) hB7 ?_
      refine Gq.off 6 rfl (by kernel_rfl) rfl rfl rfl rfl rfl rfl (fun _ _ _ h => h) hB7 ?_
      refine Gq.off 7 rfl (by kernel_rfl) rfl rfl rfl rfl rfl rfl (fun _ _ _ h => h) hB7 ?_
      refine Gq.st 8 rfl (by kernel_rfl) rfl .plain rfl (fun _ _ _ h => h) hB7 (fun w' x => Still.pickT rfl rfl) ?_
      refine Gq.one 9 rfl (by kernel_rfl) ?_
      refine Sq.lit sl24 rfl rfl .plain rfl rfl (one_cons rfl one_nil) (fun b76 w77 e78 hlo79 ho80 _ => ?_)
      replace ho80 := ho80 w72.heap.size (Nat.le_refl _)
      have hs82 := Below.size e78
      replace G := grown_trans G (Ext.to_grown e78 _)
      replace hB4 := hB4.ext e78
      replace hR := hR.ext e78
      replace hB7 := hB7.ext e78
      replace hoa := hoa.ext e78
      replace ho62r := ho62r.ext e78
      refine Sq.nil ?_
      refine Eq.goes (fun _ => hB7) ?_
      refine Gq.one 10 rfl (by kernel_rfl) ?_
      refine Sq.app sl24 hoa (by omega) (Own.row ho80) (one_cons rfl one_nil) (by first | omega | (simp; omega)) .plain rfl rfl rfl rfl (fun v83 w84 ho86 g85 => ?_)
      have hs87 := g85.size
      replace G := grown_new G hoa g85 (by omega)
      replace hB4 := hB4.owned hoa g85 (by decide)
      replace hR := hR.owned hoa g85 (by decide)
      replace hB7 := hB7.owned hoa g85 (by decide)
      replace ho62r := ho62r.owned hoa g85 (by decide) (by decide)
      refine Sq.nil ?_
      refine Eq.goes (fun _ => hB7) ?_
      refine Gq.one 11 rfl (by kernel_rfl) ?_
      refine Sq.fieldAddr fld26_2 .plain rfl rfl ?_
      refine Sq.nil ?_
      refine Eq.goes (fun h => absurd h (by decide)) ?_
      refine Gq.one 12 rfl (by kernel_rfl) ?_
      refine Sq.store one24 .plain rfl rfl (Row.one (Own.row ho86)) hB7 (by simp) (fun w88 g89 hB90 => ?_)
      have hs91 := World.grownBy.size g89
      replace G := grown_far G g89 (fun k hk => by injection hk with hk; subst hk; omega)
      replace hB4 := hB4.grown g89 (by intro h; injection h with h; omega)
      replace hR := hR.grown g89 (by intro h; injection h with h; omega)
      replace ho62r := ho62r.stored g89 hB7 (by decide) (by decide)
      replace ho86 := ho86.stored g89 hB7 (by decide)
      replace hB7 := hB90
      refine Sq.nil ?_
      refine Eq.goes (fun h => absurd h (by decide)) ?_
      refine Gq.done (by kernel_rfl) ?_
      refine Eq.end ?_
      refine Eq.next ?_
      refine Cq.region ?_
      refine Sq.move .plain rfl rfl ?_
      refine Sq.add .plain rfl rfl rfl (by omega) ?_
      refine Sq.assign .plain rfl rfl ?_
      refine Sq.nil ?_
      refine Eq.round _ _ ⟨i + 1, _, _, _, _, _, rfl, by omega, by omega, hR, hB7, OwnRows.now ho62r, Own.snocB ho86, ⟨by simp; omega, by simp; omega, rows_snoc hxl.2.2 (rowOk_mk rfl (by simp; omega))⟩, G, hB4, rfl⟩ (by omega) (.cons rfl (.cons rfl (.cons rfl (.cons rfl (.nil)))))
    refine Gq.st 4 rfl (by kernel_rfl) rfl .plain rfl (fun _ _ _ h => h) hB7 (fun w' x => Still.move rfl) ?_
    refine Gq.st 5 rfl (by kernel_rfl) rfl (.met rfl rfl rfl) rfl (fun _ _ _ h => h) hB7 (fun w' x => Still.move rfl) ?_
    refine Gq.one 6 rfl (by kernel_rfl) ?_
    refine Sq.call fn43 (.met rfl rfl rfl) rfl rfl (pick_c _ _ _ _ _ _ hR (hb.go G) hbl (by omega) 5 (by omega)) ?_
    rintro _ w93 ⟨⟨p94, hp97, hB96, g95⟩, ⟨k98, rfl, hk99⟩⟩
    have hs100 := World.grownBy.size g95
    have hs101 := World.grownBy.size G
    have hs102 := World.grownBy.size g95
    replace G := grown_trans G g95
    replace hB4 := hB4.grown g95 (by intro h; injection h with h; omega)
    replace hB7 := hB7.grown g95 (by intro h; injection h with h; omega)
    replace hoa := hoa.stored g95 hR (by decide)
    replace ho62r := ho62r.stored g95 hR (by decide) (by decide)
    replace hR := hB96
    refine Sq.nil ?_
    refine Eq.goes (fun _ => hB7) ?_
    refine Gq.st 7 rfl (by kernel_rfl) rfl (.met rfl rfl rfl) rfl (fun _ _ _ h => h) hB7 (fun w' x => Still.eql rfl rfl) ?_
    refine Gq.st 8 rfl (by kernel_rfl) rfl .plain rfl (fun _ _ _ h => h) hB7 (fun w' x => Still.pickF rfl rfl) ?_
    refine Gq.one 9 rfl (by kernel_rfl) ?_
    refine Sq.lit sl24 rfl rfl .plain rfl rfl (one_cons rfl one_nil) (fun b103 w104 e105 hlo106 ho107 _ => ?_)
    replace ho107 := ho107 w93.heap.size (Nat.le_refl _)
    have hs109 := Below.size e105
    replace G := grown_trans G (Ext.to_grown e105 _)
    replace hB4 := hB4.ext e105
    replace hR := hR.ext e105
    replace hB7 := hB7.ext e105
    replace hoa := hoa.ext e105
    replace ho62r := ho62r.ext e105
    refine Sq.nil ?_
    refine Eq.goes (fun _ => hB7) ?_
    refine Gq.one 10 rfl (by kernel_rfl) ?_
    refine Sq.app sl24 hoa (by omega) (Own.row ho107) (one_cons rfl one_nil) (by first | omega | (simp; omega)) .plain rfl rfl rfl rfl (fun v110 w111 ho113 g112 => ?_)
    have hs114 := g112.size
    replace G := grown_new G hoa g112 (by omega)
    replace hB4 := hB4.owned hoa g112 (by decide)
    replace hR := hR.owned hoa g112 (by decide)
    replace hB7 := hB7.owned hoa g112 (by decide)
    replace ho62r := ho62r.owned hoa g112 (by decide) (by decide)
    refine Sq.nil ?_
    refine Eq.goes (fun _ => hB7) ?_
    refine Gq.one 11 rfl (by kernel_rfl) ?_
    refine Sq.fieldAddr fld26_2 .plain rfl rfl ?_
    refine Sq.nil ?_
    refine Eq.goes (fun h => absurd h (by decide)) ?_
    refine Gq.one 12 rfl (by kernel_rfl) ?_
    refine Sq.store one24 .plain rfl rfl (Row.one (Own.row ho113)) hB7 (by simp) (fun w115 g116 hB117 => ?_)
    have hs118 := World.grownBy.size g116
    replace G := grown_far G g116 (fun k hk => by injection hk with hk; subst hk; omega)
    replace hB4 := hB4.grown g116 (by intro h; injection h with h; omega)
    replace hR := hR.grown g116 (by intro h; injection h with h; omega)
    replace ho62r := ho62r.stored g116 hB7 (by decide) (by decide)
    replace ho113 := ho113.stored g116 hB7 (by decide)
    replace hB7 := hB117
    refine Sq.nil ?_
    refine Eq.goes (fun h => absurd h (by decide)) ?_
    refine Gq.done (by kernel_rfl) ?_
    refine Eq.end ?_
    refine Eq.next ?_
    refine Cq.region ?_
    refine Sq.move .plain rfl rfl ?_
    refine Sq.add .plain rfl rfl rfl (by omega) ?_
    refine Sq.assign .plain rfl rfl ?_
    refine Sq.nil ?_
    refine Eq.round _ _ ⟨i + 1, _, _, _, _, _, rfl, by omega, by omega, hR, hB7, OwnRows.now ho62r, Own.snocB ho113, ⟨by simp; omega, by simp; omega, rows_snoc hxl.2.2 (rowOk_mk rfl (by simp; omega))⟩, G, hB4, rfl⟩ (by omega) (.cons rfl (.cons rfl (.cons rfl (.cons rfl (.nil)))))
  refine Sq.nil ?_
  refine Eq.next ?_
  refine Cq.els rfl ?_
  refine Cq.exit ?_
  refine Eq.past ?_
  refine Eq.past ?_
  refine Eq.hit ?_
  refine Eq.next ?_
  refine Cq.seq ?_
  refine Cq.region ?_
  refine Sq.loadAgg agg26 .plain rfl rfl hB7 rfl ?_
  refine Sq.storeAgg agg26 .plain rfl rfl (one_cons rfl (one_cons (Rows.one (OwnRows.rows hor)) (one_cons (Row.one (Own.row hoa)) one_nil))) hB4 rfl rfl (fun w119 g120 hB121 => ?_)
  have hs122 := World.grownBy.size g120
  replace G := grown_far G g120 (fun k hk => by injection hk with hk; subst hk; omega)
  replace hR := hR.grown g120 (by intro h; injection h with h; omega)
  replace hor := hor.stored g120 hB4 (by decide) (by decide)
  replace hoa := hoa.stored g120 hB4 (by decide)
  replace hB4 := hB121
  refine Sq.nil ?_
  refine Eq.next ?_
  refine Cq.ret ?_
  refine Eq.retCell rfl rfl agg26 hB4 rfl ?_
  exact ⟨⟨_, by omega, hR, G⟩, ⟨3, xss, ys⟩, ⟨_, _, rfl, OwnRows.now hor, hoa⟩, validA_mk (by show (0 : Int) ≤ 3 ∧ (3 : Int) ≤ 63; decide) (by show 1 ≤ xss.length ∧ xss.length ≤ 12; omega) (by show ys.length = xss.length; omega) (by intro row hr; have e : ((⟨3, xss, ys⟩ : A).next.length : Int) = 12 := (by show (xss.length : Int) = 12; omega); rw [e]; show rowOk ((letters 3).length : Int) 12 row = true; rw [show ((letters 3).length : Int) = 2 from by decide]; exact hxl.2.2 row hr)⟩
end Go.Proofs.Ytdejmfkpohgamaa
set_option linter.unusedSimpArgs false
set_option linter.unusedVariables false
namespace Go.Proofs.Ytdejmfkpohgamaa
open Go.RowKit
set_option maxRecDepth 100000 in
theorem l3Wrong_c (w0 : World) (rb : Nat) (bv : Value) (p : Int) (bs : List UInt8) (e0 : TypeId) (hR : Blk w0 rb 88 [bv, .int .i64 p]) (hb : Src w0 e0 bv bs rb) (hbl : bs.length ≤ 2000) (hp : 0 ≤ p ∧ p ≤ 700000000) (a : A) (nx ac : Value) (hnx : Rows w0 56 3 nx a.next) (hac : Bools w0 4 ac a.acc) (N : Nat) (hN : N ≤ 1000) (hsm : Small N a) : Ret Try.prog 46 #[Value.pointer (some ⟨rb, 0, none⟩), Value.agg #[Value.int .i64 a.al, nx, ac]] w0 (fun v w => (∃ p', (p ≤ p' ∧ p' ≤ p + 10) ∧ Blk w rb 88 [bv, .int .i64 p'] ∧ w0.grownBy w (some rb)) ∧ ∃ a', RowsA w v a' ∧ Small (N + 20) a') := by
  have G := World.grownBy.refl w0 (some rb)
  have hlt := hR.lt
  have hsm1 := hsm.2.1
  have hsm2 := hsm.2.2.1
  refine Ret.of (args := [Value.pointer (some ⟨rb, 0, none⟩), Value.agg #[Value.int .i64 a.al, nx, ac]]) Try.func46 rfl rfl rfl ?_
  rintro _ rfl
  show Cq _ _ _ _ [(0, Value.pointer (some ⟨rb, 0, none⟩)), (1, Value.agg #[Value.int .i64 a.al, nx, ac])] _
  refine Cq.seq ?_
  refine Cq.region ?_
  refine Sq.box .plain rfl rfl (fun b1 w2 e3 hB4 hlo5 => ?_)
  have hd6 := Nat.lt_of_lt_of_le hR.lt hlo5
  have hd7 := Nat.le_trans (World.grownBy.size G) hlo5
  have hs8 := Below.size e3
  replace hR := hR.ext e3
  replace G := grown_trans G (Ext.to_grown e3 _)
  replace hnx := hnx.ext e3
  replace hac := hac.ext e3
  refine Sq.alloc zero26 .plain rfl (fun b9 w10 e11 hB12 hlo13 => ?_)
  have hd14 := Nat.lt_of_lt_of_le hR.lt hlo13
  have hd15 := Nat.le_trans (World.grownBy.size G) hlo13
  have hd16 := Nat.lt_of_lt_of_le hB4.lt hlo13
  have hs17 := Below.size e11
  replace hR := hR.ext e11
  replace G := grown_trans G (Ext.to_grown e11 _)
  replace hnx := hnx.ext e11
  replace hac := hac.ext e11
  replace hB4 := hB4.ext e11
  refine Sq.nil ?_
  refine Eq.next ?_
  refine Cq.seq ?_
  refine Cq.region ?_
  refine Sq.loadAgg agg26 .plain rfl rfl hB4 rfl ?_
  have hd25 := hR.lt
  have hd26 := hB4.lt
  have hd27 := hB12.lt
  refine Sq.call fn88 .plain rfl rfl (l3Copy_c _ a _ _ hnx hac (hsm.fit (by omega))) ?_
  rintro _ w19 ⟨⟨nx21, ac22, rfl, hn23, ha24⟩, e20⟩
  have hs28 := World.grownBy.size G
  have hs29 := Below.size e20
  replace hR := hR.ext e20
  replace G := grown_trans G (Ext.to_grown e20 _)
  replace hB4 := hB4.ext e20
  replace hB12 := hB12.ext e20
  refine Sq.alloc zero26 .plain rfl (fun b30 w31 e32 hB33 hlo34 => ?_)
  have hd35 := Nat.lt_of_lt_of_le hR.lt hlo34
  have hd36 := Nat.le_trans (World.grownBy.size G) hlo34
  have hd37 := Nat.lt_of_lt_of_le hB4.lt hlo34
  have hd38 := Nat.lt_of_lt_of_le hB12.lt hlo34
  have hs39 := Below.size e32
  replace hR := hR.ext e32
  replace G := grown_trans G (Ext.to_grown e32 _)
  replace hB12 := hB12.ext e32
  replace hn23 := hn23.ext e32
  replace ha24 := ha24.ext e32
  refine Sq.storeAgg agg26 .plain rfl rfl (one_cons rfl (one_cons (Rows.one (OwnRows.rows hn23)) (one_cons (Row.one (Own.row ha24)) one_nil))) hB33 rfl rfl (fun w40 g41 hB42 => ?_)
  have hs43 := World.grownBy.size g41
  replace hR := hR.grown g41 (by intro h; injection h with h; omega)
  replace G := grown_far G g41 (fun k hk => by injection hk with hk; subst hk; omega)
  replace hB12 := hB12.grown g41 (by intro h; injection h with h; omega)
  replace hn23 := hn23.stored g41 hB33 (by decide) (by decide)
  replace ha24 := ha24.stored g41 hB33 (by decide)
  replace hB33 := hB42
  refine Sq.nil ?_
  refine Eq.next ?_
  refine Cq.seq ?_
  refine Cq.region ?_
  refine Sq.fieldAddr fld26_1 .plain rfl rfl ?_
  refine Sq.loadB one23 .plain rfl rfl hB33 rfl ?_
  refine Sq.lenRows (OwnRows.rows hn23) .plain rfl und23 rfl ?_
  refine Sq.assign .plain rfl rfl ?_
  refine Sq.nil ?_
  refine Eq.next ?_
  refine Cq.seq ?_
  refine Cq.region ?_
  refine Sq.move .plain rfl rfl ?_
  refine Sq.move .plain rfl rfl ?_
  refine Sq.call fn43 .plain rfl rfl (pick_c _ _ _ _ _ _ hR (hb.go G) hbl (by omega) (List.length a.next : Int) (by omega)) ?_
  rintro _ w45 ⟨⟨p46, hp49, hB48, g47⟩, ⟨k50, rfl, hk51⟩⟩
  have hs52 := World.grownBy.size g47
  have hs53 := World.grownBy.size G
  have hs54 := World.grownBy.size g47
  replace G := grown_trans G g47
  replace hB12 := hB12.grown g47 (by intro h; injection h with h; omega)
  replace hn23 := hn23.stored g47 hR (by decide) (by decide)
  replace ha24 := ha24.stored g47 hR (by decide)
  replace hB33 := hB33.grown g47 (by intro h; injection h with h; omega)
  replace hR := hB48
  have hrowk := hsm.rowAt (k := k50.toNat)
  refine Sq.assign .plain rfl rfl ?_
  refine Sq.nil ?_
  refine Eq.next ?_
  refine Cq.seq ?_
  refine Cq.seq ?_
  refine Cq.region ?_
  refine Sq.move .plain rfl rfl ?_
  refine Sq.call fn43 .plain rfl rfl (pick_c _ _ _ _ _ _ hR (hb.go G) hbl (by omega) 30 (by omega)) ?_
  rintro _ w56 ⟨⟨p57, hp60, hB59, g58⟩, ⟨k61, rfl, hk62⟩⟩
  have hs63 := World.grownBy.size g58
  have hs64 := World.grownBy.size G
  have hs65 := World.grownBy.size g58
  replace G := grown_trans G g58
  replace hB12 := hB12.grown g58 (by intro h; injection h with h; omega)
  replace hn23 := hn23.stored g58 hR (by decide) (by decide)
  replace ha24 := ha24.stored g58 hR (by decide)
  replace hB33 := hB33.grown g58 (by intro h; injection h with h; omega)
  replace hR := hB59
  refine Sq.nil ?_
  refine Eq.next ?_
  refine Cq.block ?_
  refine Cq.seq ?_
  refine Cq.region ?_
  refine Sq.eql .plain rfl rfl rfl ?_
  refine Sq.part (fun c66 => ?_) (fun c66 => ?_)
  · refine Sq.assign .plain rfl rfl ?_
    refine Sq.nil ?_
    refine Eq.next ?_
    refine Cq.thn rfl ?_
    refine Cq.region ?_
    refine Sq.move .plain rfl rfl ?_
    refine Sq.lit sl56 rfl rfl .plain rfl rfl (one_cons rfl (one_cons rfl (one_cons rfl (one_cons rfl (one_cons rfl one_nil))))) (fun b67 w68 e69 hlo70 ho71 _ => ?_)
    replace ho71 := ho71 w56.heap.size (Nat.le_refl _)
    have hs73 := Below.size e69
    replace hR := hR.ext e69
    replace G := grown_trans G (Ext.to_grown e69 _)
    replace hB12 := hB12.ext e69
    replace hn23 := hn23.ext e69
    replace ha24 := ha24.ext e69
    replace hB33 := hB33.ext e69
    refine Sq.call fn47 .plain rfl rfl (num_c _ _ _ _ _ _ hR (hb.go G) hbl (by omega) _ [64, -1, 1, 63, 0] (Own.row ho71) (by simp)) ?_
    rintro _ w75 ⟨⟨p76, hp79, hB78, g77⟩, ⟨k80, rfl, hm81⟩⟩
    have hs82 := World.grownBy.size g77
    have hs83 := World.grownBy.size G
    have hs84 := World.grownBy.size g77
    replace G := grown_trans G g77
    replace hB12 := hB12.grown g77 (by intro h; injection h with h; omega)
    replace hn23 := hn23.stored g77 hR (by decide) (by decide)
    replace ha24 := ha24.stored g77 hR (by decide)
    replace hB33 := hB33.grown g77 (by intro h; injection h with h; omega)
    replace hR := hB78
    simp only [List.mem_cons, List.not_mem_nil, or_false] at hm81
    refine Sq.fieldAddr fld26_0 .plain rfl rfl ?_
    refine Sq.store one3 .plain rfl rfl rfl hB33 (by simp) (fun w85 g86 hB87 => ?_)
    have hs88 := World.grownBy.size g86
    replace hR := hR.grown g86 (by intro h; injection h with h; omega)
    replace G := grown_far G g86 (fun k hk => by injection hk with hk; subst hk; omega)
    replace hB12 := hB12.grown g86 (by intro h; injection h with h; omega)
    replace hn23 := hn23.stored g86 hB33 (by decide) (by decide)
    replace ha24 := ha24.stored g86 hB33 (by decide)
    replace hB33 := hB87
    refine Sq.nil ?_
    refine Eq.end ?_
    refine Eq.next ?_
    refine Cq.seq ?_
    refine Cq.region ?_
    refine Sq.loadAgg agg26 .plain rfl rfl hB33 rfl ?_
    refine Sq.storeAgg agg26 .plain rfl rfl (one_cons rfl (one_cons (Rows.one (OwnRows.rows hn23)) (one_cons (Row.one (Own.row ha24)) one_nil))) hB12 rfl rfl (fun w89 g90 hB91 => ?_)
    have hs92 := World.grownBy.size g90
    replace hR := hR.grown g90 (by intro h; injection h with h; omega)
    replace G := grown_far G g90 (fun k hk => by injection hk with hk; subst hk; omega)
    replace hn23 := hn23.stored g90 hB12 (by decide) (by decide)
    replace ha24 := ha24.stored g90 hB12 (by decide)
    replace hB12 := hB91
    refine Sq.nil ?_
    refine Eq.next ?_
    refine Cq.ret ?_
    refine Eq.retCell rfl rfl agg26 hB12 rfl ?_
    exact ⟨⟨_, by omega, hR, G⟩, ⟨k80, a.next, a.acc⟩, ⟨_, _, rfl, (OwnRows.rows hn23), (Own.row ha24)⟩, hsm.same (by omega) (by omega)⟩
  refine Sq.assign .plain rfl rfl ?_
  refine Sq.nil ?_
  refine Eq.next ?_
  refine Cq.els rfl ?_
  refine Cq.seq ?_
  refine Cq.region ?_
  refine Sq.eql .plain rfl rfl rfl ?_
  refine Sq.part (fun c93 => ?_) (fun c93 => ?_)
  · refine Sq.assign .plain rfl rfl ?_
    refine Sq.nil ?_
    refine Eq.next ?_
    refine Cq.thn rfl ?_
    refine Cq.region ?_
    refine Sq.fieldAddr fld26_2 .plain rfl rfl ?_
    refine Sq.loadB one24 .plain rfl rfl hB33 rfl ?_
    refine Sq.app1 sl24 ha24 (by omega) (by first | omega | (simp; omega)) .plain rfl rfl rfl rfl rfl rfl rfl (fun v94 w95 ho97 g96 _ => ?_)
    have hs98 := g96.size
    replace hR := hR.owned ha24 g96 (by decide)
    replace G := grown_new G ha24 g96 (by omega)
    replace hB12 := hB12.owned ha24 g96 (by decide)
    replace hn23 := hn23.owned ha24 g96 (by decide) (by decide)
    replace hB33 := hB33.owned ha24 g96 (by decide)
    refine Sq.fieldAddr fld26_2 .plain rfl rfl ?_
    refine Sq.store one24 .plain rfl rfl (Row.one (Own.row ho97)) hB33 (by simp) (fun w99 g100 hB101 => ?_)
    have hs102 := World.grownBy.size g100
    replace hR := hR.grown g100 (by intro h; injection h with h; omega)
    replace G := grown_far G g100 (fun k hk => by injection hk with hk; subst hk; omega)
    replace hB12 := hB12.grown g100 (by intro h; injection h with h; omega)
    replace hn23 := hn23.stored g100 hB33 (by decide) (by decide)
    replace ho97 := ho97.stored g100 hB33 (by decide)
    replace hB33 := hB101
    refine Sq.nil ?_
    refine Eq.end ?_
    refine Eq.next ?_
    refine Cq.seq ?_
    refine Cq.region ?_
    refine Sq.loadAgg agg26 .plain rfl rfl hB33 rfl ?_
    refine Sq.storeAgg agg26 .plain rfl rfl (one_cons rfl (one_cons (Rows.one (OwnRows.rows hn23)) (one_cons (Row.one (Own.row ho97)) one_nil))) hB12 rfl rfl (fun w103 g104 hB105 => ?_)
    have hs106 := World.grownBy.size g104
    replace hR := hR.grown g104 (by intro h; injection h with h; omega)
    replace G := grown_far G g104 (fun k hk => by injection hk with hk; subst hk; omega)
    replace hn23 := hn23.stored g104 hB12 (by decide) (by decide)
    replace ho97 := ho97.stored g104 hB12 (by decide)
    replace hB12 := hB105
    refine Sq.nil ?_
    refine Eq.next ?_
    refine Cq.ret ?_
    refine Eq.retCell rfl rfl agg26 hB12 rfl ?_
    exact ⟨⟨_, by omega, hR, G⟩, ⟨a.al, a.next, a.acc ++ [true]⟩, ⟨_, _, rfl, (OwnRows.rows hn23), (Own.row (Own.snocB ho97))⟩, hsm.push (by omega)⟩
  refine Sq.assign .plain rfl rfl ?_
  refine Sq.nil ?_
  refine Eq.next ?_
  refine Cq.els rfl ?_
  refine Cq.seq ?_
  refine Cq.region ?_
  refine Sq.eql .plain rfl rfl rfl ?_
  refine Sq.part (fun c107 => ?_) (fun c107 => ?_)
  · refine Sq.assign .plain rfl rfl ?_
    refine Sq.nil ?_
    refine Eq.next ?_
    refine Cq.thn rfl ?_
    refine Cq.seq ?_
    refine Cq.region ?_
    refine Sq.move .plain rfl rfl ?_
    refine Sq.gtr .plain rfl rfl rfl ?_
    refine Sq.part (fun c108 => ?_) (fun c108 => ?_)
    · refine Sq.nil ?_
      refine Eq.next ?_
      refine Cq.thn rfl ?_
      obtain ⟨pA, rA, hpA, _⟩ := Rows.at (OwnRows.rows hn23) (i := k50) (by omega) (by omega)
      have hrA := (OwnRows.rowAt hn23 hpA).1
      obtain ⟨_, hoA, _, _⟩ := OwnRows.open hn23 (by decide)
      have hpAo := AtO.of hoA hpA
      refine Cq.drawS 10 (fun w' => Blk w' b30 26 [Value.int .i64 a.al, nx21, ac22] ∧ At w' 56 nx21 k50 pA rA) mixed (⟨hB33, hpA⟩) (fun w109 e110 hS => ?_)
      clear hS
      have hs111 := Below.size e110
      replace hR := hR.ext e110
      replace G := grown_trans G (Ext.to_grown e110 _)
      replace hB12 := hB12.ext e110
      replace hn23 := hn23.ext e110
      replace ha24 := ha24.ext e110
      replace hB33 := hB33.ext e110
      replace hpA := hpA.ext e110
      replace hrA := hrA.ext e110
      refine Gq.st 0 rfl (by kernel_rfl) rfl .plain rfl (fun _ _ _ h => h) ⟨hB33, hpA⟩ (fun w' x => Still.fieldAddr fld26_1 rfl) ?_
      refine Gq.st 1 rfl (by kernel_rfl) rfl .plain rfl (fun _ _ _ h => h) ⟨hB33, hpA⟩ (fun w' x => Still.loadB one23 rfl x.1 rfl) ?_
      refine Gq.st 2 rfl (by kernel_rfl) rfl .plain rfl (fun _ _ _ h => h) ⟨hB33, hpA⟩ (fun w' x => Still.move rfl) ?_
      refine Gq.st 3 rfl (by kernel_rfl) rfl .plain rfl (fun _ _ _ h => h) ⟨hB33, hpA⟩ (fun w' x => Still.fieldAddr fld26_1 rfl) ?_
      refine Gq.st 4 rfl (by kernel_rfl) rfl .plain rfl (fun _ _ _ h => h) ⟨hB33, hpA⟩ (fun w' x => Still.loadB one23 rfl x.1 rfl) ?_
      refine Gq.st 5 rfl (by kernel_rfl) rfl .plain rfl (fun _ _ _ h => h) ⟨hB33, hpA⟩ (fun w' x => Still.move rfl) ?_
      refine Gq.st 6 rfl (by kernel_rfl) rfl .plain rfl (fun _ _ _ h => h) ⟨hB33, hpA⟩ (fun w' x => Still.at' sl23 hpA rfl rfl) ?_
      refine Gq.st 7 rfl (by kernel_rfl) rfl .plain rfl (fun _ _ _ h => h) ⟨hB33, hpA⟩ (fun w' x => Still.loadA one56 rfl (x.2).1) ?_
      refine Gq.one 8 rfl (by kernel_rfl) ?_
      refine Sq.lit sl56 rfl rfl .plain rfl rfl (one_cons rfl one_nil) (fun b112 w113 e114 hlo115 ho116 _ => ?_)
      replace ho116 := ho116 w109.heap.size (Nat.le_refl _)
      have hs118 := Below.size e114
      replace hR := hR.ext e114
      replace G := grown_trans G (Ext.to_grown e114 _)
      replace hB12 := hB12.ext e114
      replace hn23 := hn23.ext e114
      replace ha24 := ha24.ext e114
      replace hB33 := hB33.ext e114
      replace hpA := hpA.ext e114
      replace hrA := hrA.ext e114
      refine Sq.nil ?_
      refine Eq.goes (fun _ => ⟨hB33, hpA⟩) ?_
      refine Gq.one 9 rfl (by kernel_rfl) ?_
      refine Sq.app sl56 hrA (by omega) (Own.row ho116) (one_cons rfl one_nil) (by simp only [List.length_map, List.length_cons, List.length_nil]; omega) .plain rfl rfl rfl rfl (fun v119 w120 ho121 g122 => ?_)
      obtain ⟨rsA, hoB, hswap⟩ := OwnRows.swap hn23 (by decide) hpA (Own.snocI ho121) g122
      replace hR := hR.owned hrA g122 (by decide)
      replace G := grown_new G hrA g122 (by omega)
      replace hB12 := hB12.owned hrA g122 (by decide)
      replace ha24 := ha24.owned hrA g122 (by decide)
      replace hB33 := hB33.owned hrA g122 (by decide)
      replace hpA := hpA.owned hrA g122 (by decide)
      refine Sq.nil ?_
      refine Eq.goes (fun _ => ⟨hB33, hpA⟩) ?_
      refine Gq.one 10 rfl (by kernel_rfl) ?_
      refine Sq.val .plain rfl rfl (Still.at' sl23 hpA rfl rfl) ?_
      refine Sq.nil ?_
      refine Eq.goes (fun h => absurd h (by decide)) ?_
      refine Gq.one 11 rfl (by kernel_rfl) ?_
      refine Sq.storeO one56 hoB hpAo .plain rfl rfl (Row.one (Own.row ho121)) (fun w123 g124 ho125 => ?_)
      have hnA := hswap _ g124 ho125
      replace hR := hR.owned hoB g124 (by decide)
      replace G := grown_new G hoB g124 (by omega)
      replace hB12 := hB12.owned hoB g124 (by decide)
      replace ha24 := ha24.owned hoB g124 (by decide)
      replace hB33 := hB33.owned hoB g124 (by decide)
      refine Sq.nil ?_
      refine Eq.goes (fun h => absurd h (by decide)) ?_
      refine Gq.done (by kernel_rfl) ?_
      refine Eq.end ?_
      refine Eq.next ?_
      refine Cq.seq ?_
      refine Cq.region ?_
      refine Sq.loadAgg agg26 .plain rfl rfl hB33 rfl ?_
      refine Sq.storeAgg agg26 .plain rfl rfl (one_cons rfl (one_cons (Rows.one hnA) (one_cons (Row.one (Own.row ha24)) one_nil))) hB12 rfl rfl (fun w126 g127 hB128 => ?_)
      have hs129 := World.grownBy.size g127
      replace hR := hR.grown g127 (by intro h; injection h with h; omega)
      replace G := grown_far G g127 (fun k hk => by injection hk with hk; subst hk; omega)
      replace ha24 := ha24.stored g127 hB12 (by decide)
      replace hnA := hnA.stored g127 hB12 (by decide) (by decide)
      replace hB12 := hB128
      refine Sq.nil ?_
      refine Eq.next ?_
      refine Cq.ret ?_
      refine Eq.retCell rfl rfl agg26 hB12 rfl ?_
      exact ⟨⟨_, by omega, hR, G⟩, ⟨a.al, (a.next.set k50.toNat (a.next.getD k50.toNat [] ++ [0])), a.acc⟩, ⟨_, _, rfl, hnA, (Own.row ha24)⟩, hsm.row (by omega) (by have := hsm.rowAt (k := k50.toNat); simp only [List.length_append, List.length_cons, List.length_nil]; omega)⟩
    refine Sq.nil ?_
    refine Eq.next ?_
    refine Cq.els rfl ?_
    refine Cq.skip ?_
    refine Eq.end ?_
    refine Eq.next ?_
    refine Cq.seq ?_
    refine Cq.region ?_
    refine Sq.loadAgg agg26 .plain rfl rfl hB33 rfl ?_
    refine Sq.storeAgg agg26 .plain rfl rfl (one_cons rfl (one_cons (Rows.one (OwnRows.rows hn23)) (one_cons (Row.one (Own.row ha24)) one_nil))) hB12 rfl rfl (fun w130 g131 hB132 => ?_)
    have hs133 := World.grownBy.size g131
    replace hR := hR.grown g131 (by intro h; injection h with h; omega)
    replace G := grown_far G g131 (fun k hk => by injection hk with hk; subst hk; omega)
    replace hn23 := hn23.stored g131 hB12 (by decide) (by decide)
    replace ha24 := ha24.stored g131 hB12 (by decide)
    replace hB12 := hB132
    refine Sq.nil ?_
    refine Eq.next ?_
    refine Cq.ret ?_
    refine Eq.retCell rfl rfl agg26 hB12 rfl ?_
    exact ⟨⟨_, by omega, hR, G⟩, a, ⟨_, _, rfl, (OwnRows.rows hn23), (Own.row ha24)⟩, hsm.mono (by omega)⟩
  refine Sq.assign .plain rfl rfl ?_
  refine Sq.nil ?_
  refine Eq.next ?_
  refine Cq.els rfl ?_
  refine Cq.seq ?_
  refine Cq.region ?_
  refine Sq.eql .plain rfl rfl rfl ?_
  refine Sq.part (fun c134 => ?_) (fun c134 => ?_)
  · refine Sq.assign .plain rfl rfl ?_
    refine Sq.nil ?_
    refine Eq.next ?_
    refine Cq.thn rfl ?_
    refine Cq.seq ?_
    refine Cq.region ?_
    refine Sq.move .plain rfl rfl ?_
    refine Sq.gtr .plain rfl rfl rfl ?_
    refine Sq.part (fun c135 => ?_) (fun c135 => ?_)
    · refine Sq.move .plain rfl rfl ?_
      refine Sq.fieldAddr fld26_1 (.met rfl rfl rfl) rfl rfl ?_
      refine Sq.loadB one23 (.met rfl rfl rfl) rfl rfl hB33 rfl ?_
      refine Sq.move (.met rfl rfl rfl) rfl rfl ?_
      refine Sq.idxRows sl23 one56 (OwnRows.rows hn23) (.met rfl rfl rfl) rfl rfl rfl (.met rfl rfl rfl) rfl rfl (by omega) (by omega) (fun r136 hr137 => ?_)
      refine Sq.lenInts hr137 (.met rfl rfl rfl) rfl und56 rfl ?_
      refine Sq.gtr (.met rfl rfl rfl) rfl rfl rfl ?_
      refine Sq.part (fun c138 => ?_) (fun c138 => ?_)
      · refine Sq.pickT .plain rfl rfl rfl ?_
        refine Sq.nil ?_
        refine Eq.next ?_
        refine Cq.thn rfl ?_
        refine Cq.seq ?_
        refine Cq.region ?_
        refine Sq.move .plain rfl rfl ?_
        refine Sq.fieldAddr fld26_1 .plain rfl rfl ?_
        refine Sq.loadB one23 .plain rfl rfl hB33 rfl ?_
        refine Sq.move .plain rfl rfl ?_
        refine Sq.idxRows sl23 one56 (OwnRows.rows hn23) .plain rfl rfl rfl .plain rfl rfl (by omega) (by omega) (fun r139 hr140 => ?_)
        refine Sq.lenInts hr140 .plain rfl und56 rfl ?_
        refine Sq.call fn43 .plain rfl rfl (pick_c _ _ _ _ _ _ hR (hb.go G) hbl (by omega) ((List.length (a.next.getD k50.toNat []) : Int)) (by omega)) ?_
        rintro _ w142 ⟨⟨p143, hp146, hB145, g144⟩, ⟨k147, rfl, hk148⟩⟩
        have hs149 := World.grownBy.size g144
        have hs150 := World.grownBy.size G
        have hs151 := World.grownBy.size g144
        replace G := grown_trans G g144
        replace hB12 := hB12.grown g144 (by intro h; injection h with h; omega)
        replace hn23 := hn23.stored g144 hR (by decide) (by decide)
        replace ha24 := ha24.stored g144 hR (by decide)
        replace hB33 := hB33.grown g144 (by intro h; injection h with h; omega)
        replace hR := hB145
        refine Sq.assign .plain rfl rfl ?_
        refine Sq.nil ?_
        refine Eq.next ?_
        obtain ⟨pA, rA, hpA, _⟩ := Rows.at (OwnRows.rows hn23) (i := k50) (by omega) (by omega)
        have hrA := (OwnRows.rowAt hn23 hpA).1
        obtain ⟨_, hoA, _, _⟩ := OwnRows.open hn23 (by decide)
        have hpAo := AtO.of hoA hpA
        obtain ⟨pJ, hpJo⟩ := Own.at hrA (i := k147) (by omega) (by rw [List.length_map]; omega)
        refine Cq.drawS 12 (fun w' => Blk w' b30 26 [Value.int .i64 a.al, nx21, ac22] ∧ At w' 56 nx21 k50 pA rA) mixed (⟨hB33, hpA⟩) (fun w152 e153 hS => ?_)
        clear hS
        have hs154 := Below.size e153
        replace hR := hR.ext e153
        replace G := grown_trans G (Ext.to_grown e153 _)
        replace hB12 := hB12.ext e153
        replace hn23 := hn23.ext e153
        replace ha24 := ha24.ext e153
        replace hB33 := hB33.ext e153
        replace hpA := hpA.ext e153
        replace hrA := hrA.ext e153
        refine Gq.st 0 rfl (by kernel_rfl) rfl .plain rfl (fun _ _ _ h => h) ⟨hB33, hpA⟩ (fun w' x => Still.fieldAddr fld26_1 rfl) ?_
        refine Gq.st 1 rfl (by kernel_rfl) rfl .plain rfl (fun _ _ _ h => h) ⟨hB33, hpA⟩ (fun w' x => Still.loadB one23 rfl x.1 rfl) ?_
        refine Gq.st 2 rfl (by kernel_rfl) rfl .plain rfl (fun _ _ _ h => h) ⟨hB33, hpA⟩ (fun w' x => Still.move rfl) ?_
        refine Gq.st 3 rfl (by kernel_rfl) rfl .plain rfl (fun _ _ _ h => h) ⟨hB33, hpA⟩ (fun w' x => Still.at' sl23 hpA rfl rfl) ?_
        refine Gq.st 4 rfl (by kernel_rfl) rfl .plain rfl (fun _ _ _ h => h) ⟨hB33, hpA⟩ (fun w' x => Still.loadA one56 rfl (x.2).1) ?_
        refine Gq.st 5 rfl (by kernel_rfl) rfl .plain rfl (fun _ _ _ h => h) ⟨hB33, hpA⟩ (fun w' x => Still.move rfl) ?_
        refine Gq.st 6 rfl (by kernel_rfl) rfl .plain rfl (fun _ _ _ h => h) ⟨hB33, hpA⟩ (fun w' x => Still.move rfl) ?_
        refine Gq.st 7 rfl (by kernel_rfl) rfl .plain rfl (fun _ _ _ h => h) ⟨hB33, hpA⟩ (fun w' x => Still.move rfl) ?_
        refine Gq.st 8 rfl (by kernel_rfl) rfl .plain rfl (fun _ _ _ h => h) ⟨hB33, hpA⟩ (fun w' x => Still.move rfl) ?_
        refine Gq.st 9 rfl (by kernel_rfl) rfl .plain rfl (fun _ _ _ h => h) ⟨hB33, hpA⟩ (fun w' x => Still.sub rfl rfl (by omega)) ?_
        refine Gq.one 10 rfl (by kernel_rfl) ?_
        refine Sq.lit sl56 rfl rfl .plain rfl rfl (one_cons rfl (one_cons rfl (one_cons rfl (one_cons rfl one_nil)))) (fun b155 w156 e157 hlo158 ho159 _ => ?_)
        replace ho159 := ho159 w152.heap.size (Nat.le_refl _)
        have hs161 := Below.size e157
        replace hR := hR.ext e157
        replace G := grown_trans G (Ext.to_grown e157 _)
        replace hB12 := hB12.ext e157
        replace hn23 := hn23.ext e157
        replace ha24 := ha24.ext e157
        replace hB33 := hB33.ext e157
        replace hpA := hpA.ext e157
        replace hrA := hrA.ext e157
        refine Sq.nil ?_
        refine Eq.goes (fun _ => ⟨hB33, hpA⟩) ?_
        refine Gq.one 11 rfl (by kernel_rfl) ?_
        refine Sq.call fn47 .plain rfl rfl (num_c _ _ _ _ _ _ hR (hb.go G) hbl (by omega) _ [-1, (List.length a.next : Int), (List.length a.next : Int) - 1, 0] (Own.row ho159) (by simp)) ?_
        rintro _ w163 ⟨⟨p164, hp167, hB166, g165⟩, ⟨k168, rfl, hm169⟩⟩
        have hs170 := World.grownBy.size g165
        have hs171 := World.grownBy.size G
        have hs172 := World.grownBy.size g165
        replace G := grown_trans G g165
        replace hB12 := hB12.grown g165 (by intro h; injection h with h; omega)
        replace hn23 := hn23.stored g165 hR (by decide) (by decide)
        replace ha24 := ha24.stored g165 hR (by decide)
        replace hB33 := hB33.grown g165 (by intro h; injection h with h; omega)
        replace hpA := hpA.stored g165 hR (by decide)
        replace hrA := hrA.stored g165 hR (by decide)
        replace hR := hB166
        simp only [List.mem_cons, List.not_mem_nil, or_false] at hm169
        refine Sq.nil ?_
        refine Eq.goes (fun _ => ⟨hB33, hpA⟩) ?_
        refine Gq.one 12 rfl (by kernel_rfl) ?_
        refine Sq.atO sl56 hpJo .plain rfl rfl rfl ?_
        refine Sq.nil ?_
        refine Eq.goes (fun h => absurd h (by decide)) ?_
        refine Gq.one 13 rfl (by kernel_rfl) ?_
        refine Sq.storeO one3 hrA hpJo .plain rfl rfl rfl (fun w173 g174 ho175 => ?_)
        have hs176 := World.grownBy.size g174
        rw [← List.map_set] at ho175
        replace hn23 := (OwnRows.set hn23 (by decide) hpA ho175 g174).1
        replace hR := hR.owned hrA g174 (by decide)
        replace G := grown_new G hrA g174 (by omega)
        replace hB12 := hB12.owned hrA g174 (by decide)
        replace ha24 := ha24.owned hrA g174 (by decide)
        replace hB33 := hB33.owned hrA g174 (by decide)
        refine Sq.nil ?_
        refine Eq.goes (fun h => absurd h (by decide)) ?_
        refine Gq.done (by kernel_rfl) ?_
        refine Eq.end ?_
        refine Eq.next ?_
        refine Cq.seq ?_
        refine Cq.region ?_
        refine Sq.loadAgg agg26 .plain rfl rfl hB33 rfl ?_
        refine Sq.storeAgg agg26 .plain rfl rfl (one_cons rfl (one_cons (Rows.one (OwnRows.rows hn23)) (one_cons (Row.one (Own.row ha24)) one_nil))) hB12 rfl rfl (fun w177 g178 hB179 => ?_)
        have hs180 := World.grownBy.size g178
        replace hR := hR.grown g178 (by intro h; injection h with h; omega)
        replace G := grown_far G g178 (fun k hk => by injection hk with hk; subst hk; omega)
        replace hn23 := hn23.stored g178 hB12 (by decide) (by decide)
        replace ha24 := ha24.stored g178 hB12 (by decide)
        replace hB12 := hB179
        refine Sq.nil ?_
        refine Eq.next ?_
        refine Cq.ret ?_
        refine Eq.retCell rfl rfl agg26 hB12 rfl ?_
        exact ⟨⟨_, by omega, hR, G⟩, ⟨a.al, a.next.set k50.toNat ((a.next.getD k50.toNat []).set k147.toNat k168), a.acc⟩, ⟨_, _, rfl, (OwnRows.rows hn23), (Own.row ha24)⟩, hsm.row (by omega) (by have := hsm.rowAt (k := k50.toNat); rw [List.length_set]; omega)⟩
      refine Sq.pickT .plain rfl rfl rfl ?_
      refine Sq.nil ?_
      refine Eq.next ?_
      refine Cq.els rfl ?_
      refine Cq.skip ?_
      refine Eq.end ?_
      refine Eq.next ?_
      refine Cq.seq ?_
      refine Cq.region ?_
      refine Sq.loadAgg agg26 .plain rfl rfl hB33 rfl ?_
      refine Sq.storeAgg agg26 .plain rfl rfl (one_cons rfl (one_cons (Rows.one (OwnRows.rows hn23)) (one_cons (Row.one (Own.row ha24)) one_nil))) hB12 rfl rfl (fun w181 g182 hB183 => ?_)
      have hs184 := World.grownBy.size g182
      replace hR := hR.grown g182 (by intro h; injection h with h; omega)
      replace G := grown_far G g182 (fun k hk => by injection hk with hk; subst hk; omega)
      replace hn23 := hn23.stored g182 hB12 (by decide) (by decide)
      replace ha24 := ha24.stored g182 hB12 (by decide)
      replace hB12 := hB183
      refine Sq.nil ?_
      refine Eq.next ?_
      refine Cq.ret ?_
      refine Eq.retCell rfl rfl agg26 hB12 rfl ?_
      exact ⟨⟨_, by omega, hR, G⟩, a, ⟨_, _, rfl, (OwnRows.rows hn23), (Own.row ha24)⟩, hsm.mono (by omega)⟩
    refine Sq.move .plain rfl rfl ?_
    refine Sq.off rfl rfl rfl rfl rfl rfl ?_
    refine Sq.off rfl rfl rfl rfl rfl rfl ?_
    refine Sq.off rfl rfl rfl rfl rfl rfl ?_
    refine Sq.off rfl rfl rfl rfl rfl rfl ?_
    refine Sq.off rfl rfl rfl rfl rfl rfl ?_
    refine Sq.off rfl rfl rfl rfl rfl rfl ?_
    refine Sq.off rfl rfl rfl rfl rfl rfl ?_
    refine Sq.pickF .plain rfl rfl rfl ?_
    refine Sq.nil ?_
    refine Eq.next ?_
    refine Cq.els rfl ?_
    refine Cq.skip ?_
    refine Eq.end ?_
    refine Eq.next ?_
    refine Cq.seq ?_
    refine Cq.region ?_
    refine Sq.loadAgg agg26 .plain rfl rfl hB33 rfl ?_
    refine Sq.storeAgg agg26 .plain rfl rfl (one_cons rfl (one_cons (Rows.one (OwnRows.rows hn23)) (one_cons (Row.one (Own.row ha24)) one_nil))) hB12 rfl rfl (fun w185 g186 hB187 => ?_)
    have hs188 := World.grownBy.size g186
    replace hR := hR.grown g186 (by intro h; injection h with h; omega)
    replace G := grown_far G g186 (fun k hk => by injection hk with hk; subst hk; omega)
    replace hn23 := hn23.stored g186 hB12 (by decide) (by decide)
    replace ha24 := ha24.stored g186 hB12 (by decide)
    replace hB12 := hB187
    refine Sq.nil ?_
    refine Eq.next ?_
    refine Cq.ret ?_
    refine Eq.retCell rfl rfl agg26 hB12 rfl ?_
    exact ⟨⟨_, by omega, hR, G⟩, a, ⟨_, _, rfl, (OwnRows.rows hn23), (Own.row ha24)⟩, hsm.mono (by omega)⟩
  refine Sq.assign .plain rfl rfl ?_
  refine Sq.nil ?_
  refine Eq.next ?_
  refine Cq.els rfl ?_
  refine Cq.seq ?_
  refine Cq.region ?_
  refine Sq.eql .plain rfl rfl rfl ?_
  refine Sq.part (fun c189 => ?_) (fun c189 => ?_)
  · refine Sq.assign .plain rfl rfl ?_
    refine Sq.nil ?_
    refine Eq.next ?_
    refine Cq.thn rfl ?_
    refine Cq.seq ?_
    refine Cq.region ?_
    refine Sq.lit sl23 rfl rfl .plain rfl rfl one_nil (fun b190 w191 e192 hlo193 ho194 _ => ?_)
    replace ho194 := ho194 w56.heap.size (Nat.le_refl _)
    have hs196 := Below.size e192
    replace hR := hR.ext e192
    replace G := grown_trans G (Ext.to_grown e192 _)
    replace hB12 := hB12.ext e192
    replace hB33 := hB33.ext e192
    replace ho194 : OwnRows _ _ 0 56 3 _ [] := OwnRows.none ho194
    refine Sq.fieldAddr fld26_1 .plain rfl rfl ?_
    refine Sq.store one23 .plain rfl rfl (Rows.one (OwnRows.rows ho194)) hB33 (by simp) (fun w197 g198 hB199 => ?_)
    have hs200 := World.grownBy.size g198
    replace hR := hR.grown g198 (by intro h; injection h with h; omega)
    replace G := grown_far G g198 (fun k hk => by injection hk with hk; subst hk; omega)
    replace hB12 := hB12.grown g198 (by intro h; injection h with h; omega)
    replace ho194 := ho194.stored g198 hB33 (by decide) (by decide)
    replace hB33 := hB199
    refine Sq.nil ?_
    refine Eq.next ?_
    refine Cq.region ?_
    refine Sq.lit sl24 rfl rfl .plain rfl rfl one_nil (fun b201 w202 e203 hlo204 ho205 _ => ?_)
    replace ho205 := ho205 w197.heap.size (Nat.le_refl _)
    have hs207 := Below.size e203
    replace hR := hR.ext e203
    replace G := grown_trans G (Ext.to_grown e203 _)
    replace hB12 := hB12.ext e203
    replace hB33 := hB33.ext e203
    replace ho194 := ho194.ext e203
    refine Sq.fieldAddr fld26_2 .plain rfl rfl ?_
    refine Sq.store one24 .plain rfl rfl (Row.one (Own.row ho205)) hB33 (by simp) (fun w208 g209 hB210 => ?_)
    have hs211 := World.grownBy.size g209
    replace hR := hR.grown g209 (by intro h; injection h with h; omega)
    replace G := grown_far G g209 (fun k hk => by injection hk with hk; subst hk; omega)
    replace hB12 := hB12.grown g209 (by intro h; injection h with h; omega)
    replace ho194 := ho194.stored g209 hB33 (by decide) (by decide)
    replace ho205 := ho205.stored g209 hB33 (by decide)
    replace hB33 := hB210
    refine Sq.nil ?_
    refine Eq.end ?_
    refine Eq.next ?_
    refine Cq.seq ?_
    refine Cq.region ?_
    refine Sq.loadAgg agg26 .plain rfl rfl hB33 rfl ?_
    refine Sq.storeAgg agg26 .plain rfl rfl (one_cons rfl (one_cons (Rows.one (OwnRows.rows ho194)) (one_cons (Row.one (Own.row ho205)) one_nil))) hB12 rfl rfl (fun w212 g213 hB214 => ?_)
    have hs215 := World.grownBy.size g213
    replace hR := hR.grown g213 (by intro h; injection h with h; omega)
    replace G := grown_far G g213 (fun k hk => by injection hk with hk; subst hk; omega)
    replace ho194 := ho194.stored g213 hB12 (by decide) (by decide)
    replace ho205 := ho205.stored g213 hB12 (by decide)
    replace hB12 := hB214
    refine Sq.nil ?_
    refine Eq.next ?_
    refine Cq.ret ?_
    refine Eq.retCell rfl rfl agg26 hB12 rfl ?_
    exact ⟨⟨_, by omega, hR, G⟩, ⟨a.al, [], []⟩, ⟨_, _, rfl, (OwnRows.rows ho194), (Own.row ho205)⟩, ⟨hsm.1, by simp, by simp, by simp⟩⟩
  refine Sq.assign .plain rfl rfl ?_
  refine Sq.nil ?_
  refine Eq.next ?_
  refine Cq.els rfl ?_
  refine Cq.seq ?_
  refine Cq.region ?_
  refine Sq.eql .plain rfl rfl rfl ?_
  refine Sq.part (fun c216 => ?_) (fun c216 => ?_)
  · refine Sq.assign .plain rfl rfl ?_
    refine Sq.nil ?_
    refine Eq.next ?_
    refine Cq.thn rfl ?_
    refine Cq.block ?_
    refine Cq.loop (fun nn w ls => ∃ (nxv : Value), ∃ (acv : Value), ∃ (xss : List (List Int)), ∃ (ys : List Bool), ls = [(0, Value.pointer (some ⟨rb, 0, none⟩)), (4, Value.pointer (some ⟨b9, 0, none⟩)), (5, Value.pointer (some ⟨b30, 0, none⟩)), (6, Value.int .i64 (List.length a.next : Int)), (7, Value.int .i64 k50), (18, Value.int .i64 k61), (19, Value.bool false), (25, Value.bool false), (32, Value.bool false), (47, Value.bool false), (81, Value.bool false), (87, Value.bool true)] ∧ Blk w b30 26 [Value.int .i64 a.al, nxv, acv] ∧ OwnRows w w0.heap.size w.heap.size 56 3 nxv xss ∧ Own w w0.heap.size 4 acv (ys.map Value.bool) ∧ (a.next.length ≤ xss.length ∧ xss.length ≤ a.next.length + 13 ∧ ys.length + a.next.length = a.acc.length + xss.length) ∧ (∀ row ∈ xss, row.length ≤ N) ∧ World.grownBy w0 w (some rb) ∧ Blk w rb 88 [bv, Value.int .i64 p57] ∧ Blk w b9 26 [Value.int .i64 0, Value.slice none 0 0, Value.slice none 0 0] ∧ nn = (13 - xss.length)) _ _ ⟨_, _, _, _, rfl, hB33, OwnRows.mono (OwnRows.now hn23) (by omega), Own.mono ha24 (by omega), by have := hsm.2; omega, hsm.2.2.2, G, hR, hB12, rfl⟩ (.cons rfl (.cons rfl (.cons rfl (.cons rfl (.cons rfl (.cons rfl (.cons rfl (.cons rfl (.cons rfl (.cons rfl (.cons rfl (.cons rfl (.nil))))))))))))) ?_
    rintro nn wl1 ls ⟨nxv, acv, xss, ys, rfl, hB7, hor, hoa, hll, hall, G, hR, hB12, rfl⟩
    have hs217 := World.grownBy.size G
    have hx0 := all_row hall (k := (0 : Int).toNat)
    refine Cq.seq ?_
    refine Cq.seq ?_
    refine Cq.region ?_
    refine Sq.move .plain rfl rfl ?_
    refine Sq.gtr .plain rfl rfl rfl ?_
    refine Sq.part (fun c218 => ?_) (fun c218 => ?_)
    · refine Sq.move .plain rfl rfl ?_
      refine Sq.fieldAddr fld26_1 (.met rfl rfl rfl) rfl rfl ?_
      refine Sq.loadB one23 (.met rfl rfl rfl) rfl rfl hB7 rfl ?_
      refine Sq.lenRows (OwnRows.rows hor) (.met rfl rfl rfl) rfl und23 rfl ?_
      refine Sq.leq (.met rfl rfl rfl) rfl rfl rfl ?_
      refine Sq.part (fun c219 => ?_) (fun c219 => ?_)
      · refine Sq.pickT .plain rfl rfl rfl ?_
        refine Sq.nil ?_
        refine Eq.next ?_
        refine Cq.thn rfl ?_
        refine Cq.skip ?_
        refine Eq.next ?_
        refine Cq.block ?_
        refine Cq.seq ?_
        obtain ⟨pA, rA, hpA, _⟩ := Rows.at (OwnRows.rows hor) (i := 0) (by omega) (by simp; omega)
        have hrA := (OwnRows.rowAt hor hpA).1
        refine Cq.drawS 10 (fun w' => Blk w' b30 26 [Value.int .i64 a.al, nxv, acv]) mixed (hB7) (fun w220 e221 hS => ?_)
        clear hS
        have hs222 := Below.size e221
        replace G := grown_trans G (Ext.to_grown e221 _)
        replace hR := hR.ext e221
        replace hB12 := hB12.ext e221
        replace hB7 := hB7.ext e221
        replace hor := hor.ext e221
        replace hoa := hoa.ext e221
        replace hpA := hpA.ext e221
        replace hrA := hrA.ext e221
        refine Gq.st 0 rfl (by kernel_rfl) rfl .plain rfl (fun _ _ _ h => h) hB7 (fun w' x => Still.fieldAddr fld26_1 rfl) ?_
        refine Gq.st 1 rfl (by kernel_rfl) rfl .plain rfl (fun _ _ _ h => h) hB7 (fun w' x => Still.loadB one23 rfl x rfl) ?_
        refine Gq.st 3 rfl (by kernel_rfl) rfl .plain rfl (fun _ _ _ h => h) hB7 (fun w' x => Still.fieldAddr fld26_1 rfl) ?_
        refine Gq.st 4 rfl (by kernel_rfl) rfl .plain rfl (fun _ _ _ h => h) hB7 (fun w' x => Still.loadB one23 rfl x rfl) ?_
        refine Gq.st 5 rfl (by kernel_rfl) rfl .plain rfl (fun _ _ _ h => h) hB7 (fun w' x => Still.at' sl23 hpA rfl rfl) ?_
        refine Gq.two 2 6 rfl rfl (by kernel_rfl) ?_ ?_
        · refine Sq.lit sl56 rfl rfl .plain rfl rfl one_nil (fun b223 w224 e225 hlo226 ho227 _ => ?_)
          replace ho227 := ho227 w220.heap.size (Nat.le_refl _)
          have hs229 := Below.size e225
          replace G := grown_trans G (Ext.to_grown e225 _)
          replace hR := hR.ext e225
          replace hB12 := hB12.ext e225
          replace hB7 := hB7.ext e225
          replace hor := hor.ext e225
          replace hoa := hoa.ext e225
          replace hpA := hpA.ext e225
          replace hrA := hrA.ext e225
          refine Sq.nil ?_
          refine Eq.goes (fun _ => hB7) ?_
          refine Gq.one 6 rfl (by kernel_rfl) ?_
          refine Sq.val .plain rfl rfl (Still.loadA one56 rfl hpA.1) ?_
          refine Sq.nil ?_
          refine Eq.goes (fun _ => hB7) ?_
          refine Gq.one 7 rfl (by kernel_rfl) ?_
          refine Sq.app sl56 ho227 (by omega) (Own.row hrA) (one_ints _) (by rw [List.length_map]; simp only [List.length_nil, Nat.zero_add]; omega) .plain rfl rfl rfl rfl (fun v230 w231 ho233 g232 => ?_)
          have hs234 := g232.size
          replace G := grown_new G ho227 g232 (by omega)
          replace hR := hR.owned ho227 g232 (by decide)
          replace hB12 := hB12.owned ho227 g232 (by decide)
          replace hB7 := hB7.owned ho227 g232 (by decide)
          replace hor := hor.apart ho227 g232 (by omega) (by decide)
          replace hoa := hoa.owned ho227 g232 (by decide)
          simp only [List.nil_append] at ho233
          refine Sq.nil ?_
          refine Eq.goes (fun _ => hB7) ?_
          refine Gq.one 8 rfl (by kernel_rfl) ?_
          refine Sq.lit sl23 rfl rfl .plain rfl rfl (one_cons (Row.one (Own.row ho233)) one_nil) (fun b235 w236 e237 hlo238 ho239 _ => ?_)
          replace ho239 := ho239 w231.heap.size (Nat.le_refl _)
          have hs241 := Below.size e237
          replace G := grown_trans G (Ext.to_grown e237 _)
          replace hR := hR.ext e237
          replace hB12 := hB12.ext e237
          replace hB7 := hB7.ext e237
          replace hor := hor.ext e237
          replace hoa := hoa.ext e237
          replace ho233 := ho233.ext e237
          refine Sq.nil ?_
          refine Eq.goes (fun _ => hB7) ?_
          refine Gq.one 9 rfl (by kernel_rfl) ?_
          obtain ⟨rs246, q247, q248, q249⟩ := OwnRows.open hor (by decide)
          have q249x := Ext.refl w236
          refine Sq.app sl23 q247 (by omega) (Own.row ho239) (one_cons (Row.one (Own.row ho233)) one_nil) (by rw [q248]; first | omega | (simp; omega)) .plain rfl rfl rfl rfl (fun v242 w243 ho245 g244 => ?_)
          have hs250 := g244.size
          have ho245r := q249 _ ((xss.getD (0 : Int).toNat [])) _ _ _ (Ext.refl _) (Own.mono ho233 (by omega)) (by omega) ho245 g244
          replace G := grown_new G q247 g244 (by omega)
          replace hR := hR.owned q247 g244 (by decide)
          replace hB12 := hB12.owned q247 g244 (by decide)
          replace hB7 := hB7.owned q247 g244 (by decide)
          replace hoa := hoa.owned q247 g244 (by decide)
          refine Sq.nil ?_
          refine Eq.goes (fun _ => hB7) ?_
          refine Gq.one 10 rfl (by kernel_rfl) ?_
          refine Sq.fieldAddr fld26_1 .plain rfl rfl ?_
          refine Sq.nil ?_
          refine Eq.goes (fun h => absurd h (by decide)) ?_
          refine Gq.one 11 rfl (by kernel_rfl) ?_
          refine Sq.store one23 .plain rfl rfl (Rows.one (OwnRows.rows ho245r)) hB7 (by simp) (fun w251 g252 hB253 => ?_)
          have hs254 := World.grownBy.size g252
          replace G := grown_far G g252 (fun k hk => by injection hk with hk; subst hk; omega)
          replace hR := hR.grown g252 (by intro h; injection h with h; omega)
          replace hB12 := hB12.grown g252 (by intro h; injection h with h; omega)
          replace hoa := hoa.stored g252 hB7 (by decide)
          replace ho245r := ho245r.stored g252 hB7 (by decide) (by decide)
          replace hB7 := hB253
          refine Sq.nil ?_
          refine Eq.goes (fun h => absurd h (by decide)) ?_
          refine Gq.done (by kernel_rfl) ?_
          refine Eq.next ?_
          refine Cq.region ?_
          refine Sq.fieldAddr fld26_2 .plain rfl rfl ?_
          refine Sq.loadB one24 .plain rfl rfl hB7 rfl ?_
          refine Sq.app1 sl24 hoa (by omega) (by first | omega | (simp; omega)) .plain rfl rfl rfl rfl rfl rfl rfl (fun v255 w256 ho258 g257 _ => ?_)
          have hs259 := g257.size
          replace G := grown_new G hoa g257 (by omega)
          replace hR := hR.owned hoa g257 (by decide)
          replace hB12 := hB12.owned hoa g257 (by decide)
          replace hB7 := hB7.owned hoa g257 (by decide)
          replace ho245r := ho245r.owned hoa g257 (by decide) (by decide)
          refine Sq.fieldAddr fld26_2 .plain rfl rfl ?_
          refine Sq.store one24 .plain rfl rfl (Row.one (Own.row ho258)) hB7 (by simp) (fun w260 g261 hB262 => ?_)
          have hs263 := World.grownBy.size g261
          replace G := grown_far G g261 (fun k hk => by injection hk with hk; subst hk; omega)
          replace hR := hR.grown g261 (by intro h; injection h with h; omega)
          replace hB12 := hB12.grown g261 (by intro h; injection h with h; omega)
          replace ho245r := ho245r.stored g261 hB7 (by decide) (by decide)
          replace ho258 := ho258.stored g261 hB7 (by decide)
          replace hB7 := hB262
          refine Sq.nil ?_
          refine Eq.end ?_
          refine Eq.round _ _ ⟨_, _, _, _, rfl, hB7, OwnRows.now ho245r, Own.snocB ho258, by simp; omega, all_app hall (by omega), G, hR, hB12, rfl⟩ (by simp; omega) (.cons rfl (.cons rfl (.cons rfl (.cons rfl (.cons rfl (.cons rfl (.cons rfl (.cons rfl (.cons rfl (.cons rfl (.cons rfl (.cons rfl (.nil)))))))))))))
        refine Sq.val .plain rfl rfl (Still.loadA one56 rfl hpA.1) ?_
        refine Sq.nil ?_
        refine Eq.goes (fun _ => hB7) ?_
        refine Gq.one 2 rfl (by kernel_rfl) ?_
        refine Sq.lit sl56 rfl rfl .plain rfl rfl one_nil (fun b264 w265 e266 hlo267 ho268 _ => ?_)
        replace ho268 := ho268 w220.heap.size (Nat.le_refl _)
        have hs270 := Below.size e266
        replace G := grown_trans G (Ext.to_grown e266 _)
        replace hR := hR.ext e266
        replace hB12 := hB12.ext e266
        replace hB7 := hB7.ext e266
        replace hor := hor.ext e266
        replace hoa := hoa.ext e266
        replace hrA := hrA.ext e266
        refine Sq.nil ?_
        refine Eq.goes (fun _ => hB7) ?_
        refine Gq.one 7 rfl (by kernel_rfl) ?_
        refine Sq.app sl56 ho268 (by omega) (Own.row hrA) (one_ints _) (by rw [List.length_map]; simp only [List.length_nil, Nat.zero_add]; omega) .plain rfl rfl rfl rfl (fun v271 w272 ho274 g273 => ?_)
        have hs275 := g273.size
        replace G := grown_new G ho268 g273 (by omega)
        replace hR := hR.owned ho268 g273 (by decide)
        replace hB12 := hB12.owned ho268 g273 (by decide)
        replace hB7 := hB7.owned ho268 g273 (by decide)
        replace hor := hor.apart ho268 g273 (by omega) (by decide)
        replace hoa := hoa.owned ho268 g273 (by decide)
        simp only [List.nil_append] at ho274
        refine Sq.nil ?_
        refine Eq.goes (fun _ => hB7) ?_
        refine Gq.one 8 rfl (by kernel_rfl) ?_
        refine Sq.lit sl23 rfl rfl .plain rfl rfl (one_cons (Row.one (Own.row ho274)) one_nil) (fun b276 w277 e278 hlo279 ho280 _ => ?_)
        replace ho280 := ho280 w272.heap.size (Nat.le_refl _)
        have hs282 := Below.size e278
        replace G := grown_trans G (Ext.to_grown e278 _)
        replace hR := hR.ext e278
        replace hB12 := hB12.ext e278
        replace hB7 := hB7.ext e278
        replace hor := hor.ext e278
        replace hoa := hoa.ext e278
        replace ho274 := ho274.ext e278
        refine Sq.nil ?_
        refine Eq.goes (fun _ => hB7) ?_
        refine Gq.one 9 rfl (by kernel_rfl) ?_
        obtain ⟨rs287, q288, q289, q290⟩ := OwnRows.open hor (by decide)
        have q290x := Ext.refl w277
        refine Sq.app sl23 q288 (by omega) (Own.row ho280) (one_cons (Row.one (Own.row ho274)) one_nil) (by rw [q289]; first | omega | (simp; omega)) .plain rfl rfl rfl rfl (fun v283 w284 ho286 g285 => ?_)
        have hs291 := g285.size
        have ho286r := q290 _ ((xss.getD (0 : Int).toNat [])) _ _ _ (Ext.refl _) (Own.mono ho274 (by omega)) (by omega) ho286 g285
        replace G := grown_new G q288 g285 (by omega)
        replace hR := hR.owned q288 g285 (by decide)
        replace hB12 := hB12.owned q288 g285 (by decide)
        replace hB7 := hB7.owned q288 g285 (by decide)
        replace hoa := hoa.owned q288 g285 (by decide)
        refine Sq.nil ?_
        refine Eq.goes (fun _ => hB7) ?_
        refine Gq.one 10 rfl (by kernel_rfl) ?_
        refine Sq.fieldAddr fld26_1 .plain rfl rfl ?_
        refine Sq.nil ?_
        refine Eq.goes (fun h => absurd h (by decide)) ?_
        refine Gq.one 11 rfl (by kernel_rfl) ?_
        refine Sq.store one23 .plain rfl rfl (Rows.one (OwnRows.rows ho286r)) hB7 (by simp) (fun w292 g293 hB294 => ?_)
        have hs295 := World.grownBy.size g293
        replace G := grown_far G g293 (fun k hk => by injection hk with hk; subst hk; omega)
        replace hR := hR.grown g293 (by intro h; injection h with h; omega)
        replace hB12 := hB12.grown g293 (by intro h; injection h with h; omega)
        replace hoa := hoa.stored g293 hB7 (by decide)
        replace ho286r := ho286r.stored g293 hB7 (by decide) (by decide)
        replace hB7 := hB294
        refine Sq.nil ?_
        refine Eq.goes (fun h => absurd h (by decide)) ?_
        refine Gq.done (by kernel_rfl) ?_
        refine Eq.next ?_
        refine Cq.region ?_
        refine Sq.fieldAddr fld26_2 .plain rfl rfl ?_
        refine Sq.loadB one24 .plain rfl rfl hB7 rfl ?_
        refine Sq.app1 sl24 hoa (by omega) (by first | omega | (simp; omega)) .plain rfl rfl rfl rfl rfl rfl rfl (fun v296 w297 ho299 g298 _ => ?_)
        have hs300 := g298.size
        replace G := grown_new G hoa g298 (by omega)
        replace hR := hR.owned hoa g298 (by decide)
        replace hB12 := hB12.owned hoa g298 (by decide)
        replace hB7 := hB7.owned hoa g298 (by decide)
        replace ho286r := ho286r.owned hoa g298 (by decide) (by decide)
        refine Sq.fieldAddr fld26_2 .plain rfl rfl ?_
        refine Sq.store one24 .plain rfl rfl (Row.one (Own.row ho299)) hB7 (by simp) (fun w301 g302 hB303 => ?_)
        have hs304 := World.grownBy.size g302
        replace G := grown_far G g302 (fun k hk => by injection hk with hk; subst hk; omega)
        replace hR := hR.grown g302 (by intro h; injection h with h; omega)
        replace hB12 := hB12.grown g302 (by intro h; injection h with h; omega)
        replace ho286r := ho286r.stored g302 hB7 (by decide) (by decide)
        replace ho299 := ho299.stored g302 hB7 (by decide)
        replace hB7 := hB303
        refine Sq.nil ?_
        refine Eq.end ?_
        refine Eq.round _ _ ⟨_, _, _, _, rfl, hB7, OwnRows.now ho286r, Own.snocB ho299, by simp; omega, all_app hall (by omega), G, hR, hB12, rfl⟩ (by simp; omega) (.cons rfl (.cons rfl (.cons rfl (.cons rfl (.cons rfl (.cons rfl (.cons rfl (.cons rfl (.cons rfl (.cons rfl (.cons rfl (.cons rfl (.nil)))))))))))))
      refine Sq.pickT .plain rfl rfl rfl ?_
      refine Sq.nil ?_
      refine Eq.next ?_
      refine Cq.els rfl ?_
      refine Cq.exit ?_
      refine Eq.past ?_
      refine Eq.past ?_
      refine Eq.hit ?_
      refine Eq.end ?_
      refine Eq.next ?_
      refine Cq.seq ?_
      refine Cq.region ?_
      refine Sq.loadAgg agg26 .plain rfl rfl hB7 rfl ?_
      refine Sq.storeAgg agg26 .plain rfl rfl (one_cons rfl (one_cons (Rows.one (OwnRows.rows hor)) (one_cons (Row.one (Own.row hoa)) one_nil))) hB12 rfl rfl (fun w305 g306 hB307 => ?_)
      have hs308 := World.grownBy.size g306
      replace G := grown_far G g306 (fun k hk => by injection hk with hk; subst hk; omega)
      replace hR := hR.grown g306 (by intro h; injection h with h; omega)
      replace hor := hor.stored g306 hB12 (by decide) (by decide)
      replace hoa := hoa.stored g306 hB12 (by decide)
      replace hB12 := hB307
      refine Sq.nil ?_
      refine Eq.next ?_
      refine Cq.ret ?_
      refine Eq.retCell rfl rfl agg26 hB12 rfl ?_
      exact ⟨⟨_, by omega, hR, G⟩, ⟨a.al, xss, ys⟩, ⟨_, _, rfl, (OwnRows.rows hor), (Own.row hoa)⟩, ⟨hsm.1, by show xss.length ≤ _; omega, by show ys.length ≤ _; omega, fun row hr => by have := hall row hr; omega⟩⟩
    refine Sq.move .plain rfl rfl ?_
    refine Sq.off rfl rfl rfl rfl rfl rfl ?_
    refine Sq.off rfl rfl rfl rfl rfl rfl ?_
    refine Sq.off rfl rfl rfl rfl rfl rfl ?_
    refine Sq.off rfl rfl rfl rfl rfl rfl ?_
    refine Sq.pickF .plain rfl rfl rfl ?_
    refine Sq.nil ?_
    refine Eq.next ?_
    refine Cq.els rfl ?_
    refine Cq.exit ?_
    refine Eq.past ?_
    refine Eq.past ?_
    refine Eq.hit ?_
    refine Eq.end ?_
    refine Eq.next ?_
    refine Cq.seq ?_
    refine Cq.region ?_
    refine Sq.loadAgg agg26 .plain rfl rfl hB7 rfl ?_
    refine Sq.storeAgg agg26 .plain rfl rfl (one_cons rfl (one_cons (Rows.one (OwnRows.rows hor)) (one_cons (Row.one (Own.row hoa)) one_nil))) hB12 rfl rfl (fun w309 g310 hB311 => ?_)
    have hs312 := World.grownBy.size g310
    replace G := grown_far G g310 (fun k hk => by injection hk with hk; subst hk; omega)
    replace hR := hR.grown g310 (by intro h; injection h with h; omega)
    replace hor := hor.stored g310 hB12 (by decide) (by decide)
    replace hoa := hoa.stored g310 hB12 (by decide)
    replace hB12 := hB311
    refine Sq.nil ?_
    refine Eq.next ?_
    refine Cq.ret ?_
    refine Eq.retCell rfl rfl agg26 hB12 rfl ?_
    exact ⟨⟨_, by omega, hR, G⟩, ⟨a.al, xss, ys⟩, ⟨_, _, rfl, (OwnRows.rows hor), (Own.row hoa)⟩, ⟨hsm.1, by show xss.length ≤ _; omega, by show ys.length ≤ _; omega, fun row hr => by have := hall row hr; omega⟩⟩
  refine Sq.assign .plain rfl rfl ?_
  refine Sq.nil ?_
  refine Eq.next ?_
  refine Cq.els rfl ?_
  refine Cq.skip ?_
  refine Eq.end ?_
  refine Eq.next ?_
  refine Cq.seq ?_
  refine Cq.region ?_
  refine Sq.loadAgg agg26 .plain rfl rfl hB33 rfl ?_
  refine Sq.storeAgg agg26 .plain rfl rfl (one_cons rfl (one_cons (Rows.one (OwnRows.rows hn23)) (one_cons (Row.one (Own.row ha24)) one_nil))) hB12 rfl rfl (fun w313 g314 hB315 => ?_)
  have hs316 := World.grownBy.size g314
  replace hR := hR.grown g314 (by intro h; injection h with h; omega)
  replace G := grown_far G g314 (fun k hk => by injection hk with hk; subst hk; omega)
  replace hn23 := hn23.stored g314 hB12 (by decide) (by decide)
  replace ha24 := ha24.stored g314 hB12 (by decide)
  replace hB12 := hB315
  refine Sq.nil ?_
  refine Eq.next ?_
  refine Cq.ret ?_
  refine Eq.retCell rfl rfl agg26 hB12 rfl ?_
  exact ⟨⟨_, by omega, hR, G⟩, a, ⟨_, _, rfl, (OwnRows.rows hn23), (Own.row ha24)⟩, hsm.mono (by omega)⟩
end Go.Proofs.Ytdejmfkpohgamaa
set_option linter.unusedSimpArgs false
set_option linter.unusedVariables false
namespace Go.Proofs.Ytdejmfkpohgamaa
open Go.RowKit
set_option maxRecDepth 100000 in
theorem l1Text_c (x : Int) (hx : 0 ≤ x ∧ x ≤ 100) (w0 : World) : Ret Try.prog 98 #[Value.int .i64 x] w0 (fun v w => v = .string (chr x) ∧ Ext w0 w) := by
  have E := Ext.refl w0
  refine Ret.of (args := [Value.int .i64 x]) Try.func98 rfl rfl rfl ?_
  rintro _ rfl
  show Cq _ _ _ _ [(0, Value.int .i64 x)] _
  refine Cq.seq ?_
  refine Cq.region ?_
  refine Sq.assign .plain rfl rfl ?_
  refine Sq.nil ?_
  refine Eq.next ?_
  refine Cq.seq ?_
  refine Cq.region ?_
  refine Sq.move .plain rfl rfl ?_
  refine Sq.add .plain rfl rfl rfl (by omega) ?_
  refine Sq.conv8 conv3_5 .plain rfl rfl (by omega) ?_
  refine Sq.lit sl22 rfl rfl .plain rfl rfl (one_cons rfl one_nil) (fun b1 w2 e3 hlo4 ho5 _ => ?_)
  replace ho5 := ho5 w0.heap.size (Nat.le_refl _)
  have hs7 := Below.size e3
  replace E := E.trans e3
  refine Sq.val .plain rfl rfl (Still.text1 und22 und8_22 und9 ho5 (by omega) rfl) ?_
  refine Sq.assign .plain rfl rfl ?_
  refine Sq.nil ?_
  refine Eq.next ?_
  refine Cq.ret ?_
  refine Eq.ret1 rfl rfl ?_
  exact ⟨rfl, E⟩
set_option maxRecDepth 100000 in
theorem fmtAl_c (al : Int) (w0 : World) : Ret Try.prog 128 #[Value.int .i64 al] w0 (fun v w => v = .string (fmtAl al) ∧ Ext w0 w) := by
  have E := Ext.refl w0
  refine Ret.of (args := [Value.int .i64 al]) Try.func128 rfl rfl rfl ?_
  rintro _ rfl
  show Cq _ _ _ _ [(0, Value.int .i64 al)] _
  refine Cq.seq ?_
  refine Cq.region ?_
  refine Sq.assign .plain rfl rfl ?_
  refine Sq.nil ?_
  refine Eq.next ?_
  refine Cq.seq ?_
  refine Cq.seq ?_
  refine Cq.region ?_
  refine Sq.move .plain rfl rfl ?_
  refine Sq.call fn89 .plain rfl rfl (l1Alphabet_c _ _) ?_
  rintro _ _ ⟨rfl, rfl⟩
  refine Sq.part (fun c1 => ?_) (fun c1 => ?_)
  · refine Sq.notT .plain rfl rfl ?_
    refine Sq.nil ?_
    refine Eq.next ?_
    refine Cq.els rfl ?_
    refine Cq.skip ?_
    refine Eq.next ?_
    refine Cq.seq ?_
    refine Cq.seq ?_
    refine Cq.region ?_
    refine Sq.move .plain rfl rfl ?_
    refine Sq.eql .plain rfl rfl rfl ?_
    refine Sq.part (fun c2 => ?_) (fun c2 => ?_)
    · refine Sq.nil ?_
      refine Eq.next ?_
      refine Cq.thn rfl ?_
      refine Cq.seq ?_
      refine Cq.region ?_
      refine Sq.assign .plain rfl rfl ?_
      refine Sq.nil ?_
      refine Eq.next ?_
      refine Cq.ret ?_
      refine Eq.pastRet ?_
      refine Eq.ret1 rfl rfl ?_
      exact ⟨by first | rw [fmtAl_bad (by omega)] | rw [fmtAl_zero (by omega)] | rw [fmtAl_good (by omega) (by omega) (k := k.toNat) (by omega)], E⟩
    refine Sq.nil ?_
    refine Eq.next ?_
    refine Cq.els rfl ?_
    refine Cq.skip ?_
    refine Eq.next ?_
    refine Cq.seq ?_
    refine Cq.region ?_
    refine Sq.assign .plain rfl rfl ?_
    refine Sq.nil ?_
    refine Eq.next ?_
    refine Cq.seq ?_
    refine Cq.region ?_
    refine Sq.move .plain rfl rfl ?_
    refine Sq.call fn53 .plain rfl rfl (l1Letters_c al (by omega) _) ?_
    rintro v3 w4 ⟨hl6, e5⟩
    have hs7 := Below.size E
    have hs8 := Below.size e5
    replace E := E.trans e5
    refine Sq.assign .plain rfl rfl ?_
    refine Sq.nil ?_
    refine Eq.next ?_
    refine Cq.seq ?_
    refine Cq.seq ?_
    refine Cq.region ?_
    refine Sq.assign .plain rfl rfl ?_
    refine Sq.nil ?_
    refine Eq.next ?_
    refine Cq.block ?_
    refine Cq.loop (fun nn w ls => ∃ (k : Int), ls = [(0, Value.int .i64 al), (3, Value.string (fmtTo al k.toNat)), (4, v3), (5, Value.int .i64 k)] ∧ (0 ≤ k ∧ k ≤ (letters al).length) ∧ Ext w0 w ∧ Own w w0.heap.size 3 v3 ((letters al).map (Value.int .i64)) ∧ nn = ((letters al).length - k).toNat) _ _ ⟨0, rfl, by omega, E, hl6, rfl⟩ (.cons rfl (.cons rfl (.cons rfl (.cons rfl (.nil))))) ?_
    rintro nn wl1 ls ⟨k, rfl, hk, E, hl6, rfl⟩
    have hs9 := Below.size E
    have hlet := letters_len6 al
    have hsz := fmtTo_size al k.toNat
    have hlt := letters_at al (k := k.toNat)
    refine Cq.seq ?_
    refine Cq.seq ?_
    refine Cq.region ?_
    refine Sq.move .plain rfl rfl ?_
    refine Sq.move .plain rfl rfl ?_
    refine Sq.lenInts (Own.row hl6) .plain rfl und56 rfl ?_
    refine Sq.lss .plain rfl rfl rfl ?_
    refine Sq.part (fun c10 => ?_) (fun c10 => ?_)
    · refine Sq.nil ?_
      refine Eq.next ?_
      refine Cq.thn rfl ?_
      refine Cq.skip ?_
      refine Eq.next ?_
      refine Cq.seq ?_
      refine Cq.block ?_
      refine Cq.region ?_
      refine Sq.move .plain rfl rfl ?_
      refine Sq.move .plain rfl rfl ?_
      refine Sq.move .plain rfl rfl ?_
      refine Sq.idxInts sl56 one3 (Own.row hl6) .plain rfl rfl rfl .plain rfl rfl (by omega) (by omega) ?_
      refine Sq.call fn98 .plain rfl rfl (l1Text_c ((letters al).getD k.toNat 0) (by (have := hlt (by omega); omega)) _) ?_
      rintro _ w12 ⟨rfl, e13⟩
      have hs14 := Below.size E
      have hs15 := Below.size e13
      replace E := E.trans e13
      replace hl6 := hl6.ext e13
      refine Sq.cat .plain rfl rfl rfl (by rw [chr_size]; omega) ?_
      refine Sq.assign .plain rfl rfl ?_
      refine Sq.nil ?_
      refine Eq.end ?_
      refine Eq.next ?_
      refine Cq.region ?_
      refine Sq.move .plain rfl rfl ?_
      refine Sq.add .plain rfl rfl rfl (by omega) ?_
      refine Sq.assign .plain rfl rfl ?_
      refine Sq.nil ?_
      have e1 := toNat_succ hk.1
      rw [← fmtTo_succ (by omega), ← e1]
      refine Eq.round _ _ ⟨k + 1, rfl, by omega, E, hl6, rfl⟩ (by omega) (.cons rfl (.cons rfl (.cons rfl (.cons rfl (.nil)))))
    refine Sq.nil ?_
    refine Eq.next ?_
    refine Cq.els rfl ?_
    refine Cq.exit ?_
    refine Eq.past ?_
    refine Eq.past ?_
    refine Eq.hit ?_
    refine Eq.next ?_
    refine Cq.seq ?_
    refine Cq.region ?_
    refine Sq.move .plain rfl rfl ?_
    refine Sq.assign .plain rfl rfl ?_
    refine Sq.nil ?_
    refine Eq.next ?_
    refine Cq.ret ?_
    refine Eq.ret1 rfl rfl ?_
    exact ⟨by first | rw [fmtAl_bad (by omega)] | rw [fmtAl_zero (by omega)] | rw [fmtAl_good (by omega) (by omega) (k := k.toNat) (by omega)], E⟩
  refine Sq.notF .plain rfl rfl ?_
  refine Sq.nil ?_
  refine Eq.next ?_
  refine Cq.thn rfl ?_
  refine Cq.seq ?_
  refine Cq.region ?_
  refine Sq.assign .plain rfl rfl ?_
  refine Sq.nil ?_
  refine Eq.next ?_
  refine Cq.ret ?_
  refine Eq.pastRet ?_
  refine Eq.ret1 rfl rfl ?_
  exact ⟨by first | rw [fmtAl_bad (by omega)] | rw [fmtAl_zero (by omega)] | rw [fmtAl_good (by omega) (by omega) (k := k.toNat) (by omega)], E⟩
set_option maxRecDepth 100000 in
theorem parseAl_c (s : ByteArray) (w0 : World) : Ret Try.prog 111 #[Value.string s] w0 (fun v w => (∃ n ok, v = .tuple #[.int .i64 n, .bool ok] ∧ 0 ≤ n ∧ n ≤ 63) ∧ Ext w0 w) := by
  have E := Ext.refl w0
  refine Ret.of (args := [Value.string s]) Try.func111 rfl rfl rfl ?_
  rintro _ rfl
  show Cq _ _ _ _ [(0, Value.string s)] _
  refine Cq.seq ?_
  refine Cq.region ?_
  refine Sq.assign .plain rfl rfl ?_
  refine Sq.assign .plain rfl rfl ?_
  refine Sq.nil ?_
  refine Eq.next ?_
  refine Cq.seq ?_
  refine Cq.seq ?_
  refine Cq.region ?_
  refine Sq.assign .plain rfl rfl ?_
  refine Sq.nil ?_
  refine Eq.next ?_
  refine Cq.block ?_
  refine Cq.loop (fun nn w ls => ∃ (k : Int), ls = [(0, Value.string s), (4, Value.int .i64 k)] ∧ (0 ≤ k ∧ k ≤ 64) ∧ Ext w0 w ∧ nn = (64 - k).toNat) _ _ ⟨0, rfl, by omega, E, rfl⟩ (.cons rfl (.cons rfl (.nil))) ?_
  rintro nn wl1 ls ⟨k, rfl, hk, E, rfl⟩
  have hs1 := Below.size E
  refine Cq.seq ?_
  refine Cq.seq ?_
  refine Cq.region ?_
  refine Sq.move .plain rfl rfl ?_
  refine Sq.leq .plain rfl rfl rfl ?_
  refine Sq.part (fun c2 => ?_) (fun c2 => ?_)
  · refine Sq.nil ?_
    refine Eq.next ?_
    refine Cq.thn rfl ?_
    refine Cq.skip ?_
    refine Eq.next ?_
    refine Cq.seq ?_
    refine Cq.block ?_
    refine Cq.seq ?_
    refine Cq.region ?_
    refine Sq.move .plain rfl rfl ?_
    refine Sq.call fn128 .plain rfl rfl (fmtAl_c k _) ?_
    rintro _ w4 ⟨rfl, e5⟩
    have hs6 := Below.size E
    have hs7 := Below.size e5
    replace E := E.trans e5
    refine Sq.move .plain rfl rfl ?_
    refine Sq.eqlS .plain rfl rfl rfl ?_
    refine Sq.part (fun c8 => ?_) (fun c8 => ?_)
    · refine Sq.nil ?_
      refine Eq.next ?_
      refine Cq.thn rfl ?_
      refine Cq.seq ?_
      refine Cq.region ?_
      refine Sq.move .plain rfl rfl ?_
      refine Sq.assign .plain rfl rfl ?_
      refine Sq.assign .plain rfl rfl ?_
      refine Sq.nil ?_
      refine Eq.next ?_
      refine Cq.ret ?_
      refine Eq.outRet ?_
      refine Eq.pastRet ?_
      refine Eq.pastRet ?_
      refine Eq.outRet ?_
      refine Eq.pastRet ?_
      refine Eq.ret2 rfl rfl rfl ?_
      exact ⟨⟨_, _, rfl, by omega⟩, E⟩
    refine Sq.nil ?_
    refine Eq.next ?_
    refine Cq.els rfl ?_
    refine Cq.skip ?_
    refine Eq.end ?_
    refine Eq.next ?_
    refine Cq.region ?_
    refine Sq.move .plain rfl rfl ?_
    refine Sq.add .plain rfl rfl rfl (by omega) ?_
    refine Sq.assign .plain rfl rfl ?_
    refine Sq.nil ?_
    refine Eq.round _ _ ⟨k + 1, rfl, by omega, E, rfl⟩ (by omega) (.cons rfl (.cons rfl (.nil)))
  refine Sq.nil ?_
  refine Eq.next ?_
  refine Cq.els rfl ?_
  refine Cq.exit ?_
  refine Eq.past ?_
  refine Eq.past ?_
  refine Eq.hit ?_
  refine Eq.next ?_
  refine Cq.seq ?_
  refine Cq.region ?_
  refine Sq.assign .plain rfl rfl ?_
  refine Sq.assign .plain rfl rfl ?_
  refine Sq.nil ?_
  refine Eq.next ?_
  refine Cq.ret ?_
  refine Eq.ret2 rfl rfl rfl ?_
  exact ⟨⟨_, _, rfl, by omega⟩, E⟩
set_option maxRecDepth 100000 in
theorem dec_c (n : Int) (hn : 0 ≤ n ∧ n ≤ 1000000) (w0 : World) : Ret Try.prog 130 #[Value.int .i64 n] w0 (fun v w => (∃ s, v = .string s ∧ (s.size : Int) ≤ n + 1) ∧ Ext w0 w) := by
  have E := Ext.refl w0
  refine Ret.of (args := [Value.int .i64 n]) Try.func130 rfl rfl rfl ?_
  rintro _ rfl
  show Cq _ _ _ _ [(0, Value.int .i64 n)] _
  refine Cq.seq ?_
  refine Cq.region ?_
  refine Sq.assign .plain rfl rfl ?_
  refine Sq.nil ?_
  refine Eq.next ?_
  refine Cq.seq ?_
  refine Cq.seq ?_
  refine Cq.region ?_
  refine Sq.move .plain rfl rfl ?_
  refine Sq.lss .plain rfl rfl rfl ?_
  refine Sq.isF (by omega) ?_
  refine Sq.nil ?_
  refine Eq.next ?_
  refine Cq.els rfl ?_
  refine Cq.skip ?_
  refine Eq.next ?_
  refine Cq.seq ?_
  refine Cq.seq ?_
  refine Cq.region ?_
  refine Sq.move .plain rfl rfl ?_
  refine Sq.lss .plain rfl rfl rfl ?_
  refine Sq.isF (by omega) ?_
  refine Sq.nil ?_
  refine Eq.next ?_
  refine Cq.els rfl ?_
  refine Cq.skip ?_
  refine Eq.next ?_
  refine Cq.seq ?_
  refine Cq.region ?_
  refine Sq.assign .plain rfl rfl ?_
  refine Sq.nil ?_
  refine Eq.next ?_
  refine Cq.seq ?_
  refine Cq.block ?_
  refine Cq.loop (fun nn w ls => ∃ (m : Int), ∃ (t : ByteArray), ls = [(0, Value.int .i64 m), (3, Value.string t)] ∧ (0 ≤ m ∧ m ≤ n ∧ (t.size : Int) + m ≤ n) ∧ Ext w0 w ∧ nn = m.toNat) _ _ ⟨_, _, rfl, ⟨by omega, by omega, by show ((0 : Nat) : Int) + n ≤ n; omega⟩, E, rfl⟩ (.cons rfl (.cons rfl (.nil))) ?_
  rintro nn wl1 ls ⟨m, t, rfl, hm, E, rfl⟩
  have hs1 := Below.size E
  refine Cq.seq ?_
  refine Cq.seq ?_
  refine Cq.region ?_
  refine Sq.move .plain rfl rfl ?_
  refine Sq.gtr .plain rfl rfl rfl ?_
  refine Sq.part (fun c2 => ?_) (fun c2 => ?_)
  · refine Sq.nil ?_
    refine Eq.next ?_
    refine Cq.thn rfl ?_
    refine Cq.skip ?_
    refine Eq.next ?_
    refine Cq.block ?_
    refine Cq.seq ?_
    refine Cq.region ?_
    refine Sq.move .plain rfl rfl ?_
    refine Sq.rem .plain rfl rfl rfl (by omega) ?_
    refine Sq.add .plain rfl rfl rfl (by omega) ?_
    refine Sq.conv8 conv3_5 .plain rfl rfl (by omega) ?_
    refine Sq.lit sl22 rfl rfl .plain rfl rfl (one_cons rfl one_nil) (fun b3 w4 e5 hlo6 ho7 _ => ?_)
    replace ho7 := ho7 wl1.heap.size (Nat.le_refl _)
    have hs9 := Below.size e5
    replace E := E.trans e5
    refine Sq.val .plain rfl rfl (Still.text1 und22 und8_22 und9 ho7 (by omega) rfl) ?_
    refine Sq.move .plain rfl rfl ?_
    refine Sq.cat .plain rfl rfl rfl (by show (1 + t.size : Nat) ≤ _; omega) ?_
    refine Sq.assign .plain rfl rfl ?_
    refine Sq.nil ?_
    refine Eq.next ?_
    refine Cq.region ?_
    refine Sq.move .plain rfl rfl ?_
    refine Sq.quo .plain rfl rfl rfl (by omega) ?_
    refine Sq.assign .plain rfl rfl ?_
    refine Sq.nil ?_
    refine Eq.end ?_
    refine Eq.round _ _ ⟨_, _, rfl, by rw [size_cat]; refine ⟨by omega, by omega, ?_⟩; show ((1 + t.size : Nat) : Int) + _ ≤ _; omega, E, rfl⟩ (by omega) (.cons rfl (.cons rfl (.nil)))
  refine Sq.nil ?_
  refine Eq.next ?_
  refine Cq.els rfl ?_
  refine Cq.exit ?_
  refine Eq.past ?_
  refine Eq.past ?_
  refine Eq.hit ?_
  refine Eq.next ?_
  refine Cq.seq ?_
  refine Cq.region ?_
  refine Sq.move .plain rfl rfl ?_
  refine Sq.add .plain rfl rfl rfl (by omega) ?_
  refine Sq.conv8 conv3_5 .plain rfl rfl (by omega) ?_
  refine Sq.lit sl22 rfl rfl .plain rfl rfl (one_cons rfl one_nil) (fun b10 w11 e12 hlo13 ho14 _ => ?_)
  replace ho14 := ho14 wl1.heap.size (Nat.le_refl _)
  have hs16 := Below.size e12
  replace E := E.trans e12
  refine Sq.val .plain rfl rfl (Still.text1 und22 und8_22 und9 ho14 (by omega) rfl) ?_
  refine Sq.move .plain rfl rfl ?_
  refine Sq.cat .plain rfl rfl rfl (by show (1 + t.size : Nat) ≤ _; omega) ?_
  refine Sq.assign .plain rfl rfl ?_
  refine Sq.nil ?_
  refine Eq.next ?_
  refine Cq.ret ?_
  refine Eq.ret1 rfl rfl ?_
  exact ⟨⟨_, rfl, by rw [size_cat]; show ((1 + t.size : Nat) : Int) ≤ _; omega⟩, E⟩
set_option maxRecDepth 100000 in
theorem cut_c (s : ByteArray) (c : Int) (hs : s.size ≤ 1000000) (w0 : World) : Ret Try.prog 110 #[Value.string s, Value.int .u8 c] w0 (fun v w => (∃ xs : List ByteArray, Own w w0.heap.size 9 v (xs.map Value.string) ∧ (1 ≤ xs.length ∧ xs.length ≤ s.size + 1) ∧ ∀ x ∈ xs, x.size ≤ s.size) ∧ Ext w0 w) := by
  have E := Ext.refl w0
  refine Ret.of (args := [Value.string s, Value.int .u8 c]) Try.func110 rfl rfl rfl ?_
  rintro _ rfl
  show Cq _ _ _ _ [(0, Value.string s), (1, Value.int .u8 c)] _
  refine Cq.seq ?_
  refine Cq.region ?_
  refine Sq.assign .plain rfl rfl ?_
  refine Sq.nil ?_
  refine Eq.next ?_
  refine Cq.seq ?_
  refine Cq.region ?_
  refine Sq.lit sl91 rfl rfl .plain rfl rfl one_nil (fun b1 w2 e3 hlo4 ho5 _ => ?_)
  replace ho5 := ho5 w0.heap.size (Nat.le_refl _)
  have hs7 := Below.size e3
  replace E := E.trans e3
  refine Sq.assign .plain rfl rfl ?_
  refine Sq.nil ?_
  refine Eq.next ?_
  refine Cq.seq ?_
  refine Cq.region ?_
  refine Sq.assign .plain rfl rfl ?_
  refine Sq.nil ?_
  refine Eq.next ?_
  refine Cq.seq ?_
  refine Cq.seq ?_
  refine Cq.region ?_
  refine Sq.assign .plain rfl rfl ?_
  refine Sq.nil ?_
  refine Eq.next ?_
  refine Cq.block ?_
  refine Cq.loop (fun nn w ls => ∃ (i : Int), ∃ (q : Int), ∃ (v : Value), ∃ (xs : List ByteArray), ls = [(0, Value.string s), (1, Value.int .u8 c), (5, v), (6, Value.int .i64 q), (7, Value.int .i64 i)] ∧ (0 ≤ q ∧ q ≤ i ∧ i ≤ s.size + 1) ∧ Own w w0.heap.size 9 v (xs.map Value.string) ∧ ((xs.length : Int) ≤ i ∧ (i = s.size + 1 → 1 ≤ xs.length) ∧ ∀ x ∈ xs, x.size ≤ s.size) ∧ Ext w0 w ∧ nn = ((s.size : Int) + 1 - i).toNat) _ _ ⟨0, 0, _, [], rfl, by omega, Own.mono ho5 (by omega), ⟨by simp, by intro h; omega, by simp⟩, E, rfl⟩ (.cons rfl (.cons rfl (.cons rfl (.cons rfl (.cons rfl (.nil)))))) ?_
  rintro nn wl1 ls ⟨i, q, v, xs, rfl, hi, ho, hl, E, rfl⟩
  have hs8 := Below.size E
  refine Cq.seq ?_
  refine Cq.seq ?_
  refine Cq.region ?_
  refine Sq.move .plain rfl rfl ?_
  refine Sq.move .plain rfl rfl ?_
  refine Sq.lenStr .plain rfl und9 rfl ?_
  refine Sq.leq .plain rfl rfl rfl ?_
  refine Sq.part (fun c9 => ?_) (fun c9 => ?_)
  · refine Sq.nil ?_
    refine Eq.next ?_
    refine Cq.thn rfl ?_
    refine Cq.skip ?_
    refine Eq.next ?_
    refine Cq.seq ?_
    refine Cq.block ?_
    refine Cq.seq ?_
    refine Cq.region ?_
    refine Sq.move .plain rfl rfl ?_
    refine Sq.move .plain rfl rfl ?_
    refine Sq.lenStr .plain rfl und9 rfl ?_
    refine Sq.eql .plain rfl rfl rfl ?_
    refine Sq.part (fun c10 => ?_) (fun c10 => ?_)
    · refine Sq.move .plain rfl rfl ?_
      refine Sq.off rfl rfl rfl rfl rfl rfl ?_
      refine Sq.off rfl rfl rfl rfl rfl rfl ?_
      refine Sq.off rfl rfl rfl rfl rfl rfl ?_
      refine Sq.off rfl rfl rfl rfl rfl rfl ?_
      refine Sq.off rfl rfl rfl rfl rfl rfl ?_
      refine Sq.pickT .plain rfl rfl rfl ?_
      refine Sq.nil ?_
      refine Eq.next ?_
      refine Cq.thn rfl ?_
      refine Cq.seq ?_
      refine Cq.region ?_
      refine Sq.move .plain rfl rfl ?_
      refine Sq.move .plain rfl rfl ?_
      refine Sq.move .plain rfl rfl ?_
      refine Sq.move .plain rfl rfl ?_
      refine Sq.val .plain rfl rfl (Still.cutLH und9 rfl rfl rfl (by omega)) ?_
      refine Sq.app1 sl91 ho (by omega) (by simp; omega) .plain rfl rfl rfl rfl rfl rfl rfl (fun v11 w12 ho14 g13 _ => ?_)
      have hs15 := g13.size
      replace E := E.owned ho g13 (by omega)
      refine Sq.assign .plain rfl rfl ?_
      refine Sq.nil ?_
      refine Eq.next ?_
      refine Cq.region ?_
      refine Sq.move .plain rfl rfl ?_
      refine Sq.add .plain rfl rfl rfl (by omega) ?_
      refine Sq.assign .plain rfl rfl ?_
      refine Sq.nil ?_
      refine Eq.end ?_
      refine Eq.next ?_
      refine Cq.region ?_
      refine Sq.move .plain rfl rfl ?_
      refine Sq.add .plain rfl rfl rfl (by omega) ?_
      refine Sq.assign .plain rfl rfl ?_
      refine Sq.nil ?_
      refine Eq.round _ _ ⟨i + 1, _, _, _, rfl, by omega, Own.snocS ho14, ⟨by simp; omega, by intro h; simp, all_app hl.2.2 (size_cut s)⟩, E, rfl⟩ (by omega) (.cons rfl (.cons rfl (.cons rfl (.cons rfl (.cons rfl (.nil))))))
    refine Sq.move .plain rfl rfl ?_
    refine Sq.move (.met rfl rfl rfl) rfl rfl ?_
    refine Sq.move (.met rfl rfl rfl) rfl rfl ?_
    refine Sq.idxStr (.met rfl rfl rfl) rfl und9 rfl rfl (by omega) (str_at (by omega)) ?_
    refine Sq.move (.met rfl rfl rfl) rfl rfl ?_
    refine Sq.eql (.met rfl rfl rfl) rfl rfl rfl ?_
    refine Sq.part (fun c17 => ?_) (fun c17 => ?_)
    · refine Sq.pickF .plain rfl rfl rfl ?_
      refine Sq.nil ?_
      refine Eq.next ?_
      refine Cq.thn rfl ?_
      refine Cq.seq ?_
      refine Cq.region ?_
      refine Sq.move .plain rfl rfl ?_
      refine Sq.move .plain rfl rfl ?_
      refine Sq.move .plain rfl rfl ?_
      refine Sq.move .plain rfl rfl ?_
      refine Sq.val .plain rfl rfl (Still.cutLH und9 rfl rfl rfl (by omega)) ?_
      refine Sq.app1 sl91 ho (by omega) (by simp; omega) .plain rfl rfl rfl rfl rfl rfl rfl (fun v18 w19 ho21 g20 _ => ?_)
      have hs22 := g20.size
      replace E := E.owned ho g20 (by omega)
      refine Sq.assign .plain rfl rfl ?_
      refine Sq.nil ?_
      refine Eq.next ?_
      refine Cq.region ?_
      refine Sq.move .plain rfl rfl ?_
      refine Sq.add .plain rfl rfl rfl (by omega) ?_
      refine Sq.assign .plain rfl rfl ?_
      refine Sq.nil ?_
      refine Eq.end ?_
      refine Eq.next ?_
      refine Cq.region ?_
      refine Sq.move .plain rfl rfl ?_
      refine Sq.add .plain rfl rfl rfl (by omega) ?_
      refine Sq.assign .plain rfl rfl ?_
      refine Sq.nil ?_
      refine Eq.round _ _ ⟨i + 1, _, _, _, rfl, by omega, Own.snocS ho21, ⟨by simp; omega, by intro h; simp, all_app hl.2.2 (size_cut s)⟩, E, rfl⟩ (by omega) (.cons rfl (.cons rfl (.cons rfl (.cons rfl (.cons rfl (.nil))))))
    refine Sq.pickF .plain rfl rfl rfl ?_
    refine Sq.nil ?_
    refine Eq.next ?_
    refine Cq.els rfl ?_
    refine Cq.skip ?_
    refine Eq.end ?_
    refine Eq.next ?_
    refine Cq.region ?_
    refine Sq.move .plain rfl rfl ?_
    refine Sq.add .plain rfl rfl rfl (by omega) ?_
    refine Sq.assign .plain rfl rfl ?_
    refine Sq.nil ?_
    refine Eq.round _ _ ⟨i + 1, _, _, _, rfl, by omega, ho, ⟨by omega, by intro h; omega, hl.2.2⟩, E, rfl⟩ (by omega) (.cons rfl (.cons rfl (.cons rfl (.cons rfl (.cons rfl (.nil))))))
  refine Sq.nil ?_
  refine Eq.next ?_
  refine Cq.els rfl ?_
  refine Cq.exit ?_
  refine Eq.past ?_
  refine Eq.past ?_
  refine Eq.hit ?_
  refine Eq.next ?_
  refine Cq.seq ?_
  refine Cq.region ?_
  refine Sq.move .plain rfl rfl ?_
  refine Sq.assign .plain rfl rfl ?_
  refine Sq.nil ?_
  refine Eq.next ?_
  refine Cq.ret ?_
  refine Eq.ret1 rfl rfl ?_
  exact ⟨⟨xs, ho, by omega, hl.2.2⟩, E⟩
set_option maxRecDepth 100000 in
theorem num10_c (s : ByteArray) (hs : s.size ≤ 1000000) (w0 : World) : Ret Try.prog 129 #[Value.string s] w0 (fun v w => (∃ n ok, v = .tuple #[.int .i64 n, .bool ok] ∧ -1000000000000000000 ≤ n ∧ n ≤ 1000000000000000000) ∧ w0 = w) := by
  refine Ret.of (args := [Value.string s]) Try.func129 rfl rfl rfl ?_
  rintro _ rfl
  show Cq _ _ _ _ [(0, Value.string s)] _
  refine Cq.seq ?_
  refine Cq.region ?_
  refine Sq.assign .plain rfl rfl ?_
  refine Sq.assign .plain rfl rfl ?_
  refine Sq.nil ?_
  refine Eq.next ?_
  refine Cq.seq ?_
  refine Cq.region ?_
  refine Sq.move .plain rfl rfl ?_
  refine Sq.lenStr .plain rfl und9 rfl ?_
  refine Sq.gtr .plain rfl rfl rfl ?_
  refine Sq.part (fun c1 => ?_) (fun c1 => ?_)
  · refine Sq.move .plain rfl rfl ?_
    refine Sq.move (.met rfl rfl rfl) rfl rfl ?_
    refine Sq.idxStr (.met rfl rfl rfl) rfl und9 rfl rfl (by omega) (str_at (by omega)) ?_
    refine Sq.eql (.met rfl rfl rfl) rfl rfl rfl ?_
    refine Sq.part (fun c3 => ?_) (fun c3 => ?_)
    · refine Sq.pickT .plain rfl rfl rfl ?_
      refine Sq.assign .plain rfl rfl ?_
      refine Sq.nil ?_
      refine Eq.next ?_
      refine Cq.seq ?_
      refine Cq.seq ?_
      refine Cq.region ?_
      refine Sq.move .plain rfl rfl ?_
      refine Sq.nil ?_
      refine Eq.next ?_
      refine Cq.thn rfl ?_
      refine Cq.region ?_
      refine Sq.move .plain rfl rfl ?_
      refine Sq.val .plain rfl rfl (Still.cutL und9 rfl rfl (by omega)) ?_
      refine Sq.assign .plain rfl rfl ?_
      refine Sq.nil ?_
      refine Eq.next ?_
      refine Cq.seq ?_
      refine Cq.seq ?_
      refine Cq.region ?_
      have hcut : (((s.extract (1 : Int).toNat s.size)).size : Int) = s.size - 1 := by rw [ByteArray.size_extract]; omega
      refine Sq.move .plain rfl rfl ?_
      refine Sq.lenStr .plain rfl und9 rfl ?_
      refine Sq.eql .plain rfl rfl rfl ?_
      refine Sq.part (fun c4 => ?_) (fun c4 => ?_)
      · refine Sq.move .plain rfl rfl ?_
        refine Sq.off rfl rfl rfl rfl rfl rfl ?_
        refine Sq.off rfl rfl rfl rfl rfl rfl ?_
        refine Sq.off rfl rfl rfl rfl rfl rfl ?_
        refine Sq.pickT .plain rfl rfl rfl ?_
        refine Sq.move .plain rfl rfl ?_
        refine Sq.off rfl rfl rfl rfl rfl rfl ?_
        refine Sq.off rfl rfl rfl rfl rfl rfl ?_
        refine Sq.off rfl rfl rfl rfl rfl rfl ?_
        refine Sq.off rfl rfl rfl rfl rfl rfl ?_
        refine Sq.offU rfl rfl rfl rfl rfl rfl ?_
        refine Sq.offU rfl rfl rfl rfl rfl rfl ?_
        refine Sq.offU rfl rfl rfl rfl rfl rfl ?_
        refine Sq.offU rfl rfl rfl rfl rfl rfl ?_
        refine Sq.offU rfl rfl rfl rfl rfl rfl ?_
        refine Sq.offU rfl rfl rfl rfl rfl rfl ?_
        refine Sq.off rfl rfl rfl rfl rfl rfl ?_
        refine Sq.pickT .plain rfl rfl rfl ?_
        refine Sq.nil ?_
        refine Eq.next ?_
        refine Cq.thn rfl ?_
        refine Cq.seq ?_
        refine Cq.region ?_
        refine Sq.assign .plain rfl rfl ?_
        refine Sq.assign .plain rfl rfl ?_
        refine Sq.nil ?_
        refine Eq.next ?_
        refine Cq.ret ?_
        refine Eq.pastRet ?_
        refine Eq.ret2 rfl rfl rfl ?_
        exact ⟨⟨_, _, rfl, by omega⟩, rfl⟩
      refine Sq.move .plain rfl rfl ?_
      refine Sq.move (.met rfl rfl rfl) rfl rfl ?_
      refine Sq.lenStr (.met rfl rfl rfl) rfl und9 rfl ?_
      refine Sq.gtr (.met rfl rfl rfl) rfl rfl rfl ?_
      refine Sq.part (fun c5 => ?_) (fun c5 => ?_)
      · refine Sq.pickF .plain rfl rfl rfl ?_
        refine Sq.move .plain rfl rfl ?_
        refine Sq.off rfl rfl rfl rfl rfl rfl ?_
        refine Sq.off rfl rfl rfl rfl rfl rfl ?_
        refine Sq.off rfl rfl rfl rfl rfl rfl ?_
        refine Sq.off rfl rfl rfl rfl rfl rfl ?_
        refine Sq.offU rfl rfl rfl rfl rfl rfl ?_
        refine Sq.offU rfl rfl rfl rfl rfl rfl ?_
        refine Sq.offU rfl rfl rfl rfl rfl rfl ?_
        refine Sq.offU rfl rfl rfl rfl rfl rfl ?_
        refine Sq.offU rfl rfl rfl rfl rfl rfl ?_
        refine Sq.offU rfl rfl rfl rfl rfl rfl ?_
        refine Sq.off rfl rfl rfl rfl rfl rfl ?_
        refine Sq.pickT .plain rfl rfl rfl ?_
        refine Sq.nil ?_
        refine Eq.next ?_
        refine Cq.thn rfl ?_
        refine Cq.seq ?_
        refine Cq.region ?_
        refine Sq.assign .plain rfl rfl ?_
        refine Sq.assign .plain rfl rfl ?_
        refine Sq.nil ?_
        refine Eq.next ?_
        refine Cq.ret ?_
        refine Eq.pastRet ?_
        refine Eq.ret2 rfl rfl rfl ?_
        exact ⟨⟨_, _, rfl, by omega⟩, rfl⟩
      refine Sq.pickF .plain rfl rfl rfl ?_
      refine Sq.move .plain rfl rfl ?_
      refine Sq.move (.met rfl rfl rfl) rfl rfl ?_
      refine Sq.idxStr (.met rfl rfl rfl) rfl und9 rfl rfl (by omega) (str_at (by omega)) ?_
      refine Sq.eql (.met rfl rfl rfl) rfl rfl rfl ?_
      refine Sq.part (fun c7 => ?_) (fun c7 => ?_)
      · refine Sq.move (.met rfl rfl rfl) rfl rfl ?_
        refine Sq.move (.met rfl rfl rfl) rfl rfl ?_
        refine Sq.lenStr (.met rfl rfl rfl) rfl und9 rfl ?_
        refine Sq.gtr (.met rfl rfl rfl) rfl rfl rfl ?_
        refine Sq.part (fun c8 => ?_) (fun c8 => ?_)
        · refine Sq.move (.met rfl rfl rfl) rfl rfl ?_
          refine Sq.off rfl rfl rfl rfl rfl rfl ?_
          refine Sq.pickT (.met rfl rfl rfl) rfl rfl rfl ?_
          refine Sq.pickT (.met rfl rfl rfl) rfl rfl rfl ?_
          refine Sq.pickF .plain rfl rfl rfl ?_
          refine Sq.nil ?_
          refine Eq.next ?_
          refine Cq.thn rfl ?_
          refine Cq.seq ?_
          refine Cq.region ?_
          refine Sq.assign .plain rfl rfl ?_
          refine Sq.assign .plain rfl rfl ?_
          refine Sq.nil ?_
          refine Eq.next ?_
          refine Cq.ret ?_
          refine Eq.pastRet ?_
          refine Eq.ret2 rfl rfl rfl ?_
          exact ⟨⟨_, _, rfl, by omega⟩, rfl⟩
        refine Sq.move (.met rfl rfl rfl) rfl rfl ?_
        refine Sq.move (.met rfl rfl rfl) rfl rfl ?_
        refine Sq.pickF (.met rfl rfl rfl) rfl rfl rfl ?_
        refine Sq.pickT (.met rfl rfl rfl) rfl rfl rfl ?_
        refine Sq.pickF .plain rfl rfl rfl ?_
        refine Sq.nil ?_
        refine Eq.next ?_
        refine Cq.thn rfl ?_
        refine Cq.seq ?_
        refine Cq.region ?_
        refine Sq.assign .plain rfl rfl ?_
        refine Sq.assign .plain rfl rfl ?_
        refine Sq.nil ?_
        refine Eq.next ?_
        refine Cq.ret ?_
        refine Eq.pastRet ?_
        refine Eq.ret2 rfl rfl rfl ?_
        exact ⟨⟨_, _, rfl, by omega⟩, rfl⟩
      refine Sq.move (.met rfl rfl rfl) rfl rfl ?_
      refine Sq.off rfl rfl rfl rfl rfl rfl ?_
      refine Sq.off rfl rfl rfl rfl rfl rfl ?_
      refine Sq.off rfl rfl rfl rfl rfl rfl ?_
      refine Sq.off rfl rfl rfl rfl rfl rfl ?_
      refine Sq.offU rfl rfl rfl rfl rfl rfl ?_
      refine Sq.off rfl rfl rfl rfl rfl rfl ?_
      refine Sq.pickF (.met rfl rfl rfl) rfl rfl rfl ?_
      refine Sq.pickF .plain rfl rfl rfl ?_
      refine Sq.nil ?_
      refine Eq.next ?_
      refine Cq.els rfl ?_
      refine Cq.skip ?_
      refine Eq.next ?_
      refine Cq.seq ?_
      refine Cq.region ?_
      refine Sq.assign .plain rfl rfl ?_
      refine Sq.nil ?_
      refine Eq.next ?_
      refine Cq.seq ?_
      refine Cq.seq ?_
      refine Cq.region ?_
      refine Sq.assign .plain rfl rfl ?_
      refine Sq.nil ?_
      refine Eq.next ?_
      refine Cq.block ?_
      refine Cq.loop (fun nn w ls => ∃ (k : Int), ∃ (n : Int), ls = [(0, Value.string ((s.extract (1 : Int).toNat s.size))), (4, Value.bool true), (5, Value.int .i64 n), (6, Value.int .i64 k)] ∧ w0 = w ∧ (0 ≤ k ∧ k ≤ ((s.extract (1 : Int).toNat s.size)).size) ∧ (((s.extract (1 : Int).toNat s.size)).size ≤ 17) ∧ (0 ≤ n ∧ n < 10 ^ k.toNat) ∧ nn = ((((s.extract (1 : Int).toNat s.size)).size : Int) - k).toNat) _ _ ⟨0, 0, rfl, rfl, by omega, by omega, by decide, rfl⟩ (.cons rfl (.cons rfl (.cons rfl (.cons rfl (.nil))))) ?_
      rintro n1 w ls ⟨k, n, rfl, rfl, hk, hz, hn, rfl⟩
      have hp := pow_small (k := k.toNat) (by omega)
      refine Cq.seq ?_
      refine Cq.seq ?_
      refine Cq.region ?_
      refine Sq.move .plain rfl rfl ?_
      refine Sq.move .plain rfl rfl ?_
      refine Sq.lenStr .plain rfl und9 rfl ?_
      refine Sq.lss .plain rfl rfl rfl ?_
      refine Sq.part (fun c9 => ?_) (fun c9 => ?_)
      · refine Sq.nil ?_
        refine Eq.next ?_
        refine Cq.thn rfl ?_
        refine Cq.skip ?_
        refine Eq.next ?_
        refine Cq.seq ?_
        refine Cq.block ?_
        refine Cq.seq ?_
        refine Cq.seq ?_
        refine Cq.region ?_
        refine Sq.move .plain rfl rfl ?_
        refine Sq.move .plain rfl rfl ?_
        refine Sq.idxStr .plain rfl und9 rfl rfl (by omega) (str_at (by omega)) ?_
        refine Sq.lss .plain rfl rfl rfl ?_
        refine Sq.part (fun c11 => ?_) (fun c11 => ?_)
        · refine Sq.move .plain rfl rfl ?_
          refine Sq.off rfl rfl rfl rfl rfl rfl ?_
          refine Sq.off rfl rfl rfl rfl rfl rfl ?_
          refine Sq.off rfl rfl rfl rfl rfl rfl ?_
          refine Sq.off rfl rfl rfl rfl rfl rfl ?_
          refine Sq.pickT .plain rfl rfl rfl ?_
          refine Sq.nil ?_
          refine Eq.next ?_
          refine Cq.thn rfl ?_
          refine Cq.seq ?_
          refine Cq.region ?_
          refine Sq.assign .plain rfl rfl ?_
          refine Sq.assign .plain rfl rfl ?_
          refine Sq.nil ?_
          refine Eq.next ?_
          refine Cq.ret ?_
          refine Eq.pastRet ?_
          refine Eq.outRet ?_
          refine Eq.pastRet ?_
          refine Eq.pastRet ?_
          refine Eq.outRet ?_
          refine Eq.pastRet ?_
          refine Eq.ret2 rfl rfl rfl ?_
          exact ⟨⟨_, _, rfl, by omega⟩, rfl⟩
        refine Sq.move .plain rfl rfl ?_
        refine Sq.move (.met rfl rfl rfl) rfl rfl ?_
        refine Sq.move (.met rfl rfl rfl) rfl rfl ?_
        refine Sq.idxStr (.met rfl rfl rfl) rfl und9 rfl rfl (by omega) (str_at (by omega)) ?_
        refine Sq.gtr (.met rfl rfl rfl) rfl rfl rfl ?_
        refine Sq.part (fun c13 => ?_) (fun c13 => ?_)
        · refine Sq.pickF .plain rfl rfl rfl ?_
          refine Sq.nil ?_
          refine Eq.next ?_
          refine Cq.thn rfl ?_
          refine Cq.seq ?_
          refine Cq.region ?_
          refine Sq.assign .plain rfl rfl ?_
          refine Sq.assign .plain rfl rfl ?_
          refine Sq.nil ?_
          refine Eq.next ?_
          refine Cq.ret ?_
          refine Eq.pastRet ?_
          refine Eq.outRet ?_
          refine Eq.pastRet ?_
          refine Eq.pastRet ?_
          refine Eq.outRet ?_
          refine Eq.pastRet ?_
          refine Eq.ret2 rfl rfl rfl ?_
          exact ⟨⟨_, _, rfl, by omega⟩, rfl⟩
        refine Sq.pickF .plain rfl rfl rfl ?_
        refine Sq.nil ?_
        refine Eq.next ?_
        refine Cq.els rfl ?_
        refine Cq.skip ?_
        refine Eq.next ?_
        refine Cq.region ?_
        refine Sq.move .plain rfl rfl ?_
        refine Sq.mul .plain rfl rfl rfl (by omega) ?_
        refine Sq.move .plain rfl rfl ?_
        refine Sq.move .plain rfl rfl ?_
        refine Sq.idxStr .plain rfl und9 rfl rfl (by omega) (str_at (by omega)) ?_
        refine Sq.sub8 .plain rfl rfl rfl (by omega) ?_
        refine Sq.conv conv5_3 .plain rfl rfl (by omega) ?_
        refine Sq.add .plain rfl rfl rfl (by omega) ?_
        refine Sq.assign .plain rfl rfl ?_
        refine Sq.nil ?_
        refine Eq.end ?_
        refine Eq.next ?_
        refine Cq.region ?_
        refine Sq.move .plain rfl rfl ?_
        refine Sq.add .plain rfl rfl rfl (by omega) ?_
        refine Sq.assign .plain rfl rfl ?_
        refine Sq.nil ?_
        have e1 := toNat_succ hk.1
        refine Eq.round _ _ ⟨k + 1, _, rfl, rfl, by omega, hz, by rw [e1]; exact pow_step hn (by omega), rfl⟩ (by omega) (.cons rfl (.cons rfl (.cons rfl (.cons rfl (.nil)))))
      refine Sq.nil ?_
      refine Eq.next ?_
      refine Cq.els rfl ?_
      refine Cq.exit ?_
      refine Eq.past ?_
      refine Eq.past ?_
      refine Eq.hit ?_
      refine Eq.next ?_
      refine Cq.seq ?_
      refine Cq.seq ?_
      refine Cq.region ?_
      refine Sq.move .plain rfl rfl ?_
      refine Sq.nil ?_
      refine Eq.next ?_
      refine Cq.thn rfl ?_
      refine Cq.region ?_
      refine Sq.move .plain rfl rfl ?_
      refine Sq.neg .plain rfl rfl (by omega) ?_
      refine Sq.assign .plain rfl rfl ?_
      refine Sq.nil ?_
      refine Eq.next ?_
      refine Cq.seq ?_
      refine Cq.region ?_
      refine Sq.move .plain rfl rfl ?_
      refine Sq.assign .plain rfl rfl ?_
      refine Sq.assign .plain rfl rfl ?_
      refine Sq.nil ?_
      refine Eq.next ?_
      refine Cq.ret ?_
      refine Eq.ret2 rfl rfl rfl ?_
      exact ⟨⟨_, _, rfl, by omega⟩, rfl⟩
    refine Sq.pickT .plain rfl rfl rfl ?_
    refine Sq.assign .plain rfl rfl ?_
    refine Sq.nil ?_
    refine Eq.next ?_
    refine Cq.seq ?_
    refine Cq.seq ?_
    refine Cq.region ?_
    refine Sq.move .plain rfl rfl ?_
    refine Sq.nil ?_
    refine Eq.next ?_
    refine Cq.els rfl ?_
    refine Cq.skip ?_
    refine Eq.next ?_
    refine Cq.seq ?_
    refine Cq.seq ?_
    refine Cq.region ?_
    refine Sq.move .plain rfl rfl ?_
    refine Sq.lenStr .plain rfl und9 rfl ?_
    refine Sq.eql .plain rfl rfl rfl ?_
    refine Sq.part (fun c15 => ?_) (fun c15 => ?_)
    · refine Sq.move .plain rfl rfl ?_
      refine Sq.off rfl rfl rfl rfl rfl rfl ?_
      refine Sq.off rfl rfl rfl rfl rfl rfl ?_
      refine Sq.off rfl rfl rfl rfl rfl rfl ?_
      refine Sq.pickT .plain rfl rfl rfl ?_
      refine Sq.move .plain rfl rfl ?_
      refine Sq.off rfl rfl rfl rfl rfl rfl ?_
      refine Sq.off rfl rfl rfl rfl rfl rfl ?_
      refine Sq.off rfl rfl rfl rfl rfl rfl ?_
      refine Sq.off rfl rfl rfl rfl rfl rfl ?_
      refine Sq.offU rfl rfl rfl rfl rfl rfl ?_
      refine Sq.offU rfl rfl rfl rfl rfl rfl ?_
      refine Sq.offU rfl rfl rfl rfl rfl rfl ?_
      refine Sq.offU rfl rfl rfl rfl rfl rfl ?_
      refine Sq.offU rfl rfl rfl rfl rfl rfl ?_
      refine Sq.offU rfl rfl rfl rfl rfl rfl ?_
      refine Sq.off rfl rfl rfl rfl rfl rfl ?_
      refine Sq.pickT .plain rfl rfl rfl ?_
      refine Sq.nil ?_
      refine Eq.next ?_
      refine Cq.thn rfl ?_
      refine Cq.seq ?_
      refine Cq.region ?_
      refine Sq.assign .plain rfl rfl ?_
      refine Sq.assign .plain rfl rfl ?_
      refine Sq.nil ?_
      refine Eq.next ?_
      refine Cq.ret ?_
      refine Eq.pastRet ?_
      refine Eq.ret2 rfl rfl rfl ?_
      exact ⟨⟨_, _, rfl, by omega⟩, rfl⟩
    refine Sq.move .plain rfl rfl ?_
    refine Sq.move (.met rfl rfl rfl) rfl rfl ?_
    refine Sq.lenStr (.met rfl rfl rfl) rfl und9 rfl ?_
    refine Sq.gtr (.met rfl rfl rfl) rfl rfl rfl ?_
    refine Sq.part (fun c16 => ?_) (fun c16 => ?_)
    · refine Sq.pickF .plain rfl rfl rfl ?_
      refine Sq.move .plain rfl rfl ?_
      refine Sq.off rfl rfl rfl rfl rfl rfl ?_
      refine Sq.off rfl rfl rfl rfl rfl rfl ?_
      refine Sq.off rfl rfl rfl rfl rfl rfl ?_
      refine Sq.off rfl rfl rfl rfl rfl rfl ?_
      refine Sq.offU rfl rfl rfl rfl rfl rfl ?_
      refine Sq.offU rfl rfl rfl rfl rfl rfl ?_
      refine Sq.offU rfl rfl rfl rfl rfl rfl ?_
      refine Sq.offU rfl rfl rfl rfl rfl rfl ?_
      refine Sq.offU rfl rfl rfl rfl rfl rfl ?_
      refine Sq.offU rfl rfl rfl rfl rfl rfl ?_
      refine Sq.off rfl rfl rfl rfl rfl rfl ?_
      refine Sq.pickT .plain rfl rfl rfl ?_
      refine Sq.nil ?_
      refine Eq.next ?_
      refine Cq.thn rfl ?_
      refine Cq.seq ?_
      refine Cq.region ?_
      refine Sq.assign .plain rfl rfl ?_
      refine Sq.assign .plain rfl rfl ?_
      refine Sq.nil ?_
      refine Eq.next ?_
      refine Cq.ret ?_
      refine Eq.pastRet ?_
      refine Eq.ret2 rfl rfl rfl ?_
      exact ⟨⟨_, _, rfl, by omega⟩, rfl⟩
    refine Sq.pickF .plain rfl rfl rfl ?_
    refine Sq.move .plain rfl rfl ?_
    refine Sq.move (.met rfl rfl rfl) rfl rfl ?_
    refine Sq.idxStr (.met rfl rfl rfl) rfl und9 rfl rfl (by omega) (str_at (by omega)) ?_
    refine Sq.eql (.met rfl rfl rfl) rfl rfl rfl ?_
    refine Sq.part (fun c18 => ?_) (fun c18 => ?_)
    · refine Sq.move (.met rfl rfl rfl) rfl rfl ?_
      refine Sq.move (.met rfl rfl rfl) rfl rfl ?_
      refine Sq.lenStr (.met rfl rfl rfl) rfl und9 rfl ?_
      refine Sq.gtr (.met rfl rfl rfl) rfl rfl rfl ?_
      refine Sq.part (fun c19 => ?_) (fun c19 => ?_)
      · refine Sq.move (.met rfl rfl rfl) rfl rfl ?_
        refine Sq.off rfl rfl rfl rfl rfl rfl ?_
        refine Sq.pickT (.met rfl rfl rfl) rfl rfl rfl ?_
        refine Sq.pickT (.met rfl rfl rfl) rfl rfl rfl ?_
        refine Sq.pickF .plain rfl rfl rfl ?_
        refine Sq.nil ?_
        refine Eq.next ?_
        refine Cq.thn rfl ?_
        refine Cq.seq ?_
        refine Cq.region ?_
        refine Sq.assign .plain rfl rfl ?_
        refine Sq.assign .plain rfl rfl ?_
        refine Sq.nil ?_
        refine Eq.next ?_
        refine Cq.ret ?_
        refine Eq.pastRet ?_
        refine Eq.ret2 rfl rfl rfl ?_
        exact ⟨⟨_, _, rfl, by omega⟩, rfl⟩
      refine Sq.move (.met rfl rfl rfl) rfl rfl ?_
      refine Sq.move (.met rfl rfl rfl) rfl rfl ?_
      refine Sq.pickF (.met rfl rfl rfl) rfl rfl rfl ?_
      refine Sq.pickT (.met rfl rfl rfl) rfl rfl rfl ?_
      refine Sq.pickF .plain rfl rfl rfl ?_
      refine Sq.nil ?_
      refine Eq.next ?_
      refine Cq.els rfl ?_
      refine Cq.skip ?_
      refine Eq.next ?_
      refine Cq.seq ?_
      refine Cq.region ?_
      refine Sq.assign .plain rfl rfl ?_
      refine Sq.nil ?_
      refine Eq.next ?_
      refine Cq.seq ?_
      refine Cq.seq ?_
      refine Cq.region ?_
      refine Sq.assign .plain rfl rfl ?_
      refine Sq.nil ?_
      refine Eq.next ?_
      refine Cq.block ?_
      refine Cq.loop (fun nn w ls => ∃ (k : Int), ∃ (n : Int), ls = [(0, Value.string s), (4, Value.bool false), (5, Value.int .i64 n), (6, Value.int .i64 k)] ∧ w0 = w ∧ (0 ≤ k ∧ k ≤ (s).size) ∧ ((s).size ≤ 17) ∧ (0 ≤ n ∧ n < 10 ^ k.toNat) ∧ nn = (((s).size : Int) - k).toNat) _ _ ⟨0, 0, rfl, rfl, by omega, by omega, by decide, rfl⟩ (.cons rfl (.cons rfl (.cons rfl (.cons rfl (.nil))))) ?_
      rintro n1 w ls ⟨k, n, rfl, rfl, hk, hz, hn, rfl⟩
      have hp := pow_small (k := k.toNat) (by omega)
      refine Cq.seq ?_
      refine Cq.seq ?_
      refine Cq.region ?_
      refine Sq.move .plain rfl rfl ?_
      refine Sq.move .plain rfl rfl ?_
      refine Sq.lenStr .plain rfl und9 rfl ?_
      refine Sq.lss .plain rfl rfl rfl ?_
      refine Sq.part (fun c20 => ?_) (fun c20 => ?_)
      · refine Sq.nil ?_
        refine Eq.next ?_
        refine Cq.thn rfl ?_
        refine Cq.skip ?_
        refine Eq.next ?_
        refine Cq.seq ?_
        refine Cq.block ?_
        refine Cq.seq ?_
        refine Cq.seq ?_
        refine Cq.region ?_
        refine Sq.move .plain rfl rfl ?_
        refine Sq.move .plain rfl rfl ?_
        refine Sq.idxStr .plain rfl und9 rfl rfl (by omega) (str_at (by omega)) ?_
        refine Sq.lss .plain rfl rfl rfl ?_
        refine Sq.part (fun c22 => ?_) (fun c22 => ?_)
        · refine Sq.move .plain rfl rfl ?_
          refine Sq.off rfl rfl rfl rfl rfl rfl ?_
          refine Sq.off rfl rfl rfl rfl rfl rfl ?_
          refine Sq.off rfl rfl rfl rfl rfl rfl ?_
          refine Sq.off rfl rfl rfl rfl rfl rfl ?_
          refine Sq.pickT .plain rfl rfl rfl ?_
          refine Sq.nil ?_
          refine Eq.next ?_
          refine Cq.thn rfl ?_
          refine Cq.seq ?_
          refine Cq.region ?_
          refine Sq.assign .plain rfl rfl ?_
          refine Sq.assign .plain rfl rfl ?_
          refine Sq.nil ?_
          refine Eq.next ?_
          refine Cq.ret ?_
          refine Eq.pastRet ?_
          refine Eq.outRet ?_
          refine Eq.pastRet ?_
          refine Eq.pastRet ?_
          refine Eq.outRet ?_
          refine Eq.pastRet ?_
          refine Eq.ret2 rfl rfl rfl ?_
          exact ⟨⟨_, _, rfl, by omega⟩, rfl⟩
        refine Sq.move .plain rfl rfl ?_
        refine Sq.move (.met rfl rfl rfl) rfl rfl ?_
        refine Sq.move (.met rfl rfl rfl) rfl rfl ?_
        refine Sq.idxStr (.met rfl rfl rfl) rfl und9 rfl rfl (by omega) (str_at (by omega)) ?_
        refine Sq.gtr (.met rfl rfl rfl) rfl rfl rfl ?_
        refine Sq.part (fun c24 => ?_) (fun c24 => ?_)
        · refine Sq.pickF .plain rfl rfl rfl ?_
          refine Sq.nil ?_
          refine Eq.next ?_
          refine Cq.thn rfl ?_
          refine Cq.seq ?_
          refine Cq.region ?_
          refine Sq.assign .plain rfl rfl ?_
          refine Sq.assign .plain rfl rfl ?_
          refine Sq.nil ?_
          refine Eq.next ?_
          refine Cq.ret ?_
          refine Eq.pastRet ?_
          refine Eq.outRet ?_
          refine Eq.pastRet ?_
          refine Eq.pastRet ?_
          refine Eq.outRet ?_
          refine Eq.pastRet ?_
          refine Eq.ret2 rfl rfl rfl ?_
          exact ⟨⟨_, _, rfl, by omega⟩, rfl⟩
        refine Sq.pickF .plain rfl rfl rfl ?_
        refine Sq.nil ?_
        refine Eq.next ?_
        refine Cq.els rfl ?_
        refine Cq.skip ?_
        refine Eq.next ?_
        refine Cq.region ?_
        refine Sq.move .plain rfl rfl ?_
        refine Sq.mul .plain rfl rfl rfl (by omega) ?_
        refine Sq.move .plain rfl rfl ?_
        refine Sq.move .plain rfl rfl ?_
        refine Sq.idxStr .plain rfl und9 rfl rfl (by omega) (str_at (by omega)) ?_
        refine Sq.sub8 .plain rfl rfl rfl (by omega) ?_
        refine Sq.conv conv5_3 .plain rfl rfl (by omega) ?_
        refine Sq.add .plain rfl rfl rfl (by omega) ?_
        refine Sq.assign .plain rfl rfl ?_
        refine Sq.nil ?_
        refine Eq.end ?_
        refine Eq.next ?_
        refine Cq.region ?_
        refine Sq.move .plain rfl rfl ?_
        refine Sq.add .plain rfl rfl rfl (by omega) ?_
        refine Sq.assign .plain rfl rfl ?_
        refine Sq.nil ?_
        have e1 := toNat_succ hk.1
        refine Eq.round _ _ ⟨k + 1, _, rfl, rfl, by omega, hz, by rw [e1]; exact pow_step hn (by omega), rfl⟩ (by omega) (.cons rfl (.cons rfl (.cons rfl (.cons rfl (.nil)))))
      refine Sq.nil ?_
      refine Eq.next ?_
      refine Cq.els rfl ?_
      refine Cq.exit ?_
      refine Eq.past ?_
      refine Eq.past ?_
      refine Eq.hit ?_
      refine Eq.next ?_
      refine Cq.seq ?_
      refine Cq.seq ?_
      refine Cq.region ?_
      refine Sq.move .plain rfl rfl ?_
      refine Sq.nil ?_
      refine Eq.next ?_
      refine Cq.els rfl ?_
      refine Cq.skip ?_
      refine Eq.next ?_
      refine Cq.seq ?_
      refine Cq.region ?_
      refine Sq.move .plain rfl rfl ?_
      refine Sq.assign .plain rfl rfl ?_
      refine Sq.assign .plain rfl rfl ?_
      refine Sq.nil ?_
      refine Eq.next ?_
      refine Cq.ret ?_
      refine Eq.ret2 rfl rfl rfl ?_
      exact ⟨⟨_, _, rfl, by omega⟩, rfl⟩
    refine Sq.move (.met rfl rfl rfl) rfl rfl ?_
    refine Sq.off rfl rfl rfl rfl rfl rfl ?_
    refine Sq.off rfl rfl rfl rfl rfl rfl ?_
    refine Sq.off rfl rfl rfl rfl rfl rfl ?_
    refine Sq.off rfl rfl rfl rfl rfl rfl ?_
    refine Sq.offU rfl rfl rfl rfl rfl rfl ?_
    refine Sq.off rfl rfl rfl rfl rfl rfl ?_
    refine Sq.pickF (.met rfl rfl rfl) rfl rfl rfl ?_
    refine Sq.pickF .plain rfl rfl rfl ?_
    refine Sq.nil ?_
    refine Eq.next ?_
    refine Cq.els rfl ?_
    refine Cq.skip ?_
    refine Eq.next ?_
    refine Cq.seq ?_
    refine Cq.region ?_
    refine Sq.assign .plain rfl rfl ?_
    refine Sq.nil ?_
    refine Eq.next ?_
    refine Cq.seq ?_
    refine Cq.seq ?_
    refine Cq.region ?_
    refine Sq.assign .plain rfl rfl ?_
    refine Sq.nil ?_
    refine Eq.next ?_
    refine Cq.block ?_
    refine Cq.loop (fun nn w ls => ∃ (k : Int), ∃ (n : Int), ls = [(0, Value.string s), (4, Value.bool false), (5, Value.int .i64 n), (6, Value.int .i64 k)] ∧ w0 = w ∧ (0 ≤ k ∧ k ≤ (s).size) ∧ ((s).size ≤ 17) ∧ (0 ≤ n ∧ n < 10 ^ k.toNat) ∧ nn = (((s).size : Int) - k).toNat) _ _ ⟨0, 0, rfl, rfl, by omega, by omega, by decide, rfl⟩ (.cons rfl (.cons rfl (.cons rfl (.cons rfl (.nil))))) ?_
    rintro n1 w ls ⟨k, n, rfl, rfl, hk, hz, hn, rfl⟩
    have hp := pow_small (k := k.toNat) (by omega)
    refine Cq.seq ?_
    refine Cq.seq ?_
    refine Cq.region ?_
    refine Sq.move .plain rfl rfl ?_
    refine Sq.move .plain rfl rfl ?_
    refine Sq.lenStr .plain rfl und9 rfl ?_
    refine Sq.lss .plain rfl rfl rfl ?_
    refine Sq.part (fun c26 => ?_) (fun c26 => ?_)
    · refine Sq.nil ?_
      refine Eq.next ?_
      refine Cq.thn rfl ?_
      refine Cq.skip ?_
      refine Eq.next ?_
      refine Cq.seq ?_
      refine Cq.block ?_
      refine Cq.seq ?_
      refine Cq.seq ?_
      refine Cq.region ?_
      refine Sq.move .plain rfl rfl ?_
      refine Sq.move .plain rfl rfl ?_
      refine Sq.idxStr .plain rfl und9 rfl rfl (by omega) (str_at (by omega)) ?_
      refine Sq.lss .plain rfl rfl rfl ?_
      refine Sq.part (fun c28 => ?_) (fun c28 => ?_)
      · refine Sq.move .plain rfl rfl ?_
        refine Sq.off rfl rfl rfl rfl rfl rfl ?_
        refine Sq.off rfl rfl rfl rfl rfl rfl ?_
        refine Sq.off rfl rfl rfl rfl rfl rfl ?_
        refine Sq.off rfl rfl rfl rfl rfl rfl ?_
        refine Sq.pickT .plain rfl rfl rfl ?_
        refine Sq.nil ?_
        refine Eq.next ?_
        refine Cq.thn rfl ?_
        refine Cq.seq ?_
        refine Cq.region ?_
        refine Sq.assign .plain rfl rfl ?_
        refine Sq.assign .plain rfl rfl ?_
        refine Sq.nil ?_
        refine Eq.next ?_
        refine Cq.ret ?_
        refine Eq.pastRet ?_
        refine Eq.outRet ?_
        refine Eq.pastRet ?_
        refine Eq.pastRet ?_
        refine Eq.outRet ?_
        refine Eq.pastRet ?_
        refine Eq.ret2 rfl rfl rfl ?_
        exact ⟨⟨_, _, rfl, by omega⟩, rfl⟩
      refine Sq.move .plain rfl rfl ?_
      refine Sq.move (.met rfl rfl rfl) rfl rfl ?_
      refine Sq.move (.met rfl rfl rfl) rfl rfl ?_
      refine Sq.idxStr (.met rfl rfl rfl) rfl und9 rfl rfl (by omega) (str_at (by omega)) ?_
      refine Sq.gtr (.met rfl rfl rfl) rfl rfl rfl ?_
      refine Sq.part (fun c30 => ?_) (fun c30 => ?_)
      · refine Sq.pickF .plain rfl rfl rfl ?_
        refine Sq.nil ?_
        refine Eq.next ?_
        refine Cq.thn rfl ?_
        refine Cq.seq ?_
        refine Cq.region ?_
        refine Sq.assign .plain rfl rfl ?_
        refine Sq.assign .plain rfl rfl ?_
        refine Sq.nil ?_
        refine Eq.next ?_
        refine Cq.ret ?_
        refine Eq.pastRet ?_
        refine Eq.outRet ?_
        refine Eq.pastRet ?_
        refine Eq.pastRet ?_
        refine Eq.outRet ?_
        refine Eq.pastRet ?_
        refine Eq.ret2 rfl rfl rfl ?_
        exact ⟨⟨_, _, rfl, by omega⟩, rfl⟩
      refine Sq.pickF .plain rfl rfl rfl ?_
      refine Sq.nil ?_
      refine Eq.next ?_
      refine Cq.els rfl ?_
      refine Cq.skip ?_
      refine Eq.next ?_
      refine Cq.region ?_
      refine Sq.move .plain rfl rfl ?_
      refine Sq.mul .plain rfl rfl rfl (by omega) ?_
      refine Sq.move .plain rfl rfl ?_
      refine Sq.move .plain rfl rfl ?_
      refine Sq.idxStr .plain rfl und9 rfl rfl (by omega) (str_at (by omega)) ?_
      refine Sq.sub8 .plain rfl rfl rfl (by omega) ?_
      refine Sq.conv conv5_3 .plain rfl rfl (by omega) ?_
      refine Sq.add .plain rfl rfl rfl (by omega) ?_
      refine Sq.assign .plain rfl rfl ?_
      refine Sq.nil ?_
      refine Eq.end ?_
      refine Eq.next ?_
      refine Cq.region ?_
      refine Sq.move .plain rfl rfl ?_
      refine Sq.add .plain rfl rfl rfl (by omega) ?_
      refine Sq.assign .plain rfl rfl ?_
      refine Sq.nil ?_
      have e1 := toNat_succ hk.1
      refine Eq.round _ _ ⟨k + 1, _, rfl, rfl, by omega, hz, by rw [e1]; exact pow_step hn (by omega), rfl⟩ (by omega) (.cons rfl (.cons rfl (.cons rfl (.cons rfl (.nil)))))
    refine Sq.nil ?_
    refine Eq.next ?_
    refine Cq.els rfl ?_
    refine Cq.exit ?_
    refine Eq.past ?_
    refine Eq.past ?_
    refine Eq.hit ?_
    refine Eq.next ?_
    refine Cq.seq ?_
    refine Cq.seq ?_
    refine Cq.region ?_
    refine Sq.move .plain rfl rfl ?_
    refine Sq.nil ?_
    refine Eq.next ?_
    refine Cq.els rfl ?_
    refine Cq.skip ?_
    refine Eq.next ?_
    refine Cq.seq ?_
    refine Cq.region ?_
    refine Sq.move .plain rfl rfl ?_
    refine Sq.assign .plain rfl rfl ?_
    refine Sq.assign .plain rfl rfl ?_
    refine Sq.nil ?_
    refine Eq.next ?_
    refine Cq.ret ?_
    refine Eq.ret2 rfl rfl rfl ?_
    exact ⟨⟨_, _, rfl, by omega⟩, rfl⟩
  refine Sq.move .plain rfl rfl ?_
  refine Sq.off rfl rfl rfl rfl rfl rfl ?_
  refine Sq.off rfl rfl rfl rfl rfl rfl ?_
  refine Sq.off rfl rfl rfl rfl rfl rfl ?_
  refine Sq.pickF .plain rfl rfl rfl ?_
  refine Sq.assign .plain rfl rfl ?_
  refine Sq.nil ?_
  refine Eq.next ?_
  refine Cq.seq ?_
  refine Cq.seq ?_
  refine Cq.region ?_
  refine Sq.move .plain rfl rfl ?_
  refine Sq.nil ?_
  refine Eq.next ?_
  refine Cq.els rfl ?_
  refine Cq.skip ?_
  refine Eq.next ?_
  refine Cq.seq ?_
  refine Cq.seq ?_
  refine Cq.region ?_
  refine Sq.move .plain rfl rfl ?_
  refine Sq.lenStr .plain rfl und9 rfl ?_
  refine Sq.eql .plain rfl rfl rfl ?_
  refine Sq.part (fun c32 => ?_) (fun c32 => ?_)
  · refine Sq.move .plain rfl rfl ?_
    refine Sq.off rfl rfl rfl rfl rfl rfl ?_
    refine Sq.off rfl rfl rfl rfl rfl rfl ?_
    refine Sq.off rfl rfl rfl rfl rfl rfl ?_
    refine Sq.pickT .plain rfl rfl rfl ?_
    refine Sq.move .plain rfl rfl ?_
    refine Sq.off rfl rfl rfl rfl rfl rfl ?_
    refine Sq.off rfl rfl rfl rfl rfl rfl ?_
    refine Sq.off rfl rfl rfl rfl rfl rfl ?_
    refine Sq.off rfl rfl rfl rfl rfl rfl ?_
    refine Sq.offU rfl rfl rfl rfl rfl rfl ?_
    refine Sq.offU rfl rfl rfl rfl rfl rfl ?_
    refine Sq.offU rfl rfl rfl rfl rfl rfl ?_
    refine Sq.offU rfl rfl rfl rfl rfl rfl ?_
    refine Sq.offU rfl rfl rfl rfl rfl rfl ?_
    refine Sq.offU rfl rfl rfl rfl rfl rfl ?_
    refine Sq.off rfl rfl rfl rfl rfl rfl ?_
    refine Sq.pickT .plain rfl rfl rfl ?_
    refine Sq.nil ?_
    refine Eq.next ?_
    refine Cq.thn rfl ?_
    refine Cq.seq ?_
    refine Cq.region ?_
    refine Sq.assign .plain rfl rfl ?_
    refine Sq.assign .plain rfl rfl ?_
    refine Sq.nil ?_
    refine Eq.next ?_
    refine Cq.ret ?_
    refine Eq.pastRet ?_
    refine Eq.ret2 rfl rfl rfl ?_
    exact ⟨⟨_, _, rfl, by omega⟩, rfl⟩
  refine Sq.move .plain rfl rfl ?_
  refine Sq.move (.met rfl rfl rfl) rfl rfl ?_
  refine Sq.lenStr (.met rfl rfl rfl) rfl und9 rfl ?_
  refine Sq.gtr (.met rfl rfl rfl) rfl rfl rfl ?_
  refine Sq.part (fun c33 => ?_) (fun c33 => ?_)
  · refine Sq.pickF .plain rfl rfl rfl ?_
    refine Sq.move .plain rfl rfl ?_
    refine Sq.off rfl rfl rfl rfl rfl rfl ?_
    refine Sq.off rfl rfl rfl rfl rfl rfl ?_
    refine Sq.off rfl rfl rfl rfl rfl rfl ?_
    refine Sq.off rfl rfl rfl rfl rfl rfl ?_
    refine Sq.offU rfl rfl rfl rfl rfl rfl ?_
    refine Sq.offU rfl rfl rfl rfl rfl rfl ?_
    refine Sq.offU rfl rfl rfl rfl rfl rfl ?_
    refine Sq.offU rfl rfl rfl rfl rfl rfl ?_
    refine Sq.offU rfl rfl rfl rfl rfl rfl ?_
    refine Sq.offU rfl rfl rfl rfl rfl rfl ?_
    refine Sq.off rfl rfl rfl rfl rfl rfl ?_
    refine Sq.pickT .plain rfl rfl rfl ?_
    refine Sq.nil ?_
    refine Eq.next ?_
    refine Cq.thn rfl ?_
    refine Cq.seq ?_
    refine Cq.region ?_
    refine Sq.assign .plain rfl rfl ?_
    refine Sq.assign .plain rfl rfl ?_
    refine Sq.nil ?_
    refine Eq.next ?_
    refine Cq.ret ?_
    refine Eq.pastRet ?_
    refine Eq.ret2 rfl rfl rfl ?_
    exact ⟨⟨_, _, rfl, by omega⟩, rfl⟩
  refine Sq.pickF .plain rfl rfl rfl ?_
  refine Sq.move .plain rfl rfl ?_
  refine Sq.move (.met rfl rfl rfl) rfl rfl ?_
  refine Sq.idxStr (.met rfl rfl rfl) rfl und9 rfl rfl (by omega) (str_at (by omega)) ?_
  refine Sq.eql (.met rfl rfl rfl) rfl rfl rfl ?_
  refine Sq.part (fun c35 => ?_) (fun c35 => ?_)
  · refine Sq.move (.met rfl rfl rfl) rfl rfl ?_
    refine Sq.move (.met rfl rfl rfl) rfl rfl ?_
    refine Sq.lenStr (.met rfl rfl rfl) rfl und9 rfl ?_
    refine Sq.gtr (.met rfl rfl rfl) rfl rfl rfl ?_
    refine Sq.part (fun c36 => ?_) (fun c36 => ?_)
    · refine Sq.move (.met rfl rfl rfl) rfl rfl ?_
      refine Sq.off rfl rfl rfl rfl rfl rfl ?_
      refine Sq.pickT (.met rfl rfl rfl) rfl rfl rfl ?_
      refine Sq.pickT (.met rfl rfl rfl) rfl rfl rfl ?_
      refine Sq.pickF .plain rfl rfl rfl ?_
      refine Sq.nil ?_
      refine Eq.next ?_
      refine Cq.thn rfl ?_
      refine Cq.seq ?_
      refine Cq.region ?_
      refine Sq.assign .plain rfl rfl ?_
      refine Sq.assign .plain rfl rfl ?_
      refine Sq.nil ?_
      refine Eq.next ?_
      refine Cq.ret ?_
      refine Eq.pastRet ?_
      refine Eq.ret2 rfl rfl rfl ?_
      exact ⟨⟨_, _, rfl, by omega⟩, rfl⟩
    refine Sq.move (.met rfl rfl rfl) rfl rfl ?_
    refine Sq.move (.met rfl rfl rfl) rfl rfl ?_
    refine Sq.pickF (.met rfl rfl rfl) rfl rfl rfl ?_
    refine Sq.pickT (.met rfl rfl rfl) rfl rfl rfl ?_
    refine Sq.pickF .plain rfl rfl rfl ?_
    refine Sq.nil ?_
    refine Eq.next ?_
    refine Cq.els rfl ?_
    refine Cq.skip ?_
    refine Eq.next ?_
    refine Cq.seq ?_
    refine Cq.region ?_
    refine Sq.assign .plain rfl rfl ?_
    refine Sq.nil ?_
    refine Eq.next ?_
    refine Cq.seq ?_
    refine Cq.seq ?_
    refine Cq.region ?_
    refine Sq.assign .plain rfl rfl ?_
    refine Sq.nil ?_
    refine Eq.next ?_
    refine Cq.block ?_
    refine Cq.loop (fun nn w ls => ∃ (k : Int), ∃ (n : Int), ls = [(0, Value.string s), (4, Value.bool false), (5, Value.int .i64 n), (6, Value.int .i64 k)] ∧ w0 = w ∧ (0 ≤ k ∧ k ≤ (s).size) ∧ ((s).size ≤ 17) ∧ (0 ≤ n ∧ n < 10 ^ k.toNat) ∧ nn = (((s).size : Int) - k).toNat) _ _ ⟨0, 0, rfl, rfl, by omega, by omega, by decide, rfl⟩ (.cons rfl (.cons rfl (.cons rfl (.cons rfl (.nil))))) ?_
    rintro n1 w ls ⟨k, n, rfl, rfl, hk, hz, hn, rfl⟩
    have hp := pow_small (k := k.toNat) (by omega)
    refine Cq.seq ?_
    refine Cq.seq ?_
    refine Cq.region ?_
    refine Sq.move .plain rfl rfl ?_
    refine Sq.move .plain rfl rfl ?_
    refine Sq.lenStr .plain rfl und9 rfl ?_
    refine Sq.lss .plain rfl rfl rfl ?_
    refine Sq.part (fun c37 => ?_) (fun c37 => ?_)
    · refine Sq.nil ?_
      refine Eq.next ?_
      refine Cq.thn rfl ?_
      refine Cq.skip ?_
      refine Eq.next ?_
      refine Cq.seq ?_
      refine Cq.block ?_
      refine Cq.seq ?_
      refine Cq.seq ?_
      refine Cq.region ?_
      refine Sq.move .plain rfl rfl ?_
      refine Sq.move .plain rfl rfl ?_
      refine Sq.idxStr .plain rfl und9 rfl rfl (by omega) (str_at (by omega)) ?_
      refine Sq.lss .plain rfl rfl rfl ?_
      refine Sq.part (fun c39 => ?_) (fun c39 => ?_)
      · refine Sq.move .plain rfl rfl ?_
        refine Sq.off rfl rfl rfl rfl rfl rfl ?_
        refine Sq.off rfl rfl rfl rfl rfl rfl ?_
        refine Sq.off rfl rfl rfl rfl rfl rfl ?_
        refine Sq.off rfl rfl rfl rfl rfl rfl ?_
        refine Sq.pickT .plain rfl rfl rfl ?_
        refine Sq.nil ?_
        refine Eq.next ?_
        refine Cq.thn rfl ?_
        refine Cq.seq ?_
        refine Cq.region ?_
        refine Sq.assign .plain rfl rfl ?_
        refine Sq.assign .plain rfl rfl ?_
        refine Sq.nil ?_
        refine Eq.next ?_
        refine Cq.ret ?_
        refine Eq.pastRet ?_
        refine Eq.outRet ?_
        refine Eq.pastRet ?_
        refine Eq.pastRet ?_
        refine Eq.outRet ?_
        refine Eq.pastRet ?_
        refine Eq.ret2 rfl rfl rfl ?_
        exact ⟨⟨_, _, rfl, by omega⟩, rfl⟩
      refine Sq.move .plain rfl rfl ?_
      refine Sq.move (.met rfl rfl rfl) rfl rfl ?_
      refine Sq.move (.met rfl rfl rfl) rfl rfl ?_
      refine Sq.idxStr (.met rfl rfl rfl) rfl und9 rfl rfl (by omega) (str_at (by omega)) ?_
      refine Sq.gtr (.met rfl rfl rfl) rfl rfl rfl ?_
      refine Sq.part (fun c41 => ?_) (fun c41 => ?_)
      · refine Sq.pickF .plain rfl rfl rfl ?_
        refine Sq.nil ?_
        refine Eq.next ?_
        refine Cq.thn rfl ?_
        refine Cq.seq ?_
        refine Cq.region ?_
        refine Sq.assign .plain rfl rfl ?_
        refine Sq.assign .plain rfl rfl ?_
        refine Sq.nil ?_
        refine Eq.next ?_
        refine Cq.ret ?_
        refine Eq.pastRet ?_
        refine Eq.outRet ?_
        refine Eq.pastRet ?_
        refine Eq.pastRet ?_
        refine Eq.outRet ?_
        refine Eq.pastRet ?_
        refine Eq.ret2 rfl rfl rfl ?_
        exact ⟨⟨_, _, rfl, by omega⟩, rfl⟩
      refine Sq.pickF .plain rfl rfl rfl ?_
      refine Sq.nil ?_
      refine Eq.next ?_
      refine Cq.els rfl ?_
      refine Cq.skip ?_
      refine Eq.next ?_
      refine Cq.region ?_
      refine Sq.move .plain rfl rfl ?_
      refine Sq.mul .plain rfl rfl rfl (by omega) ?_
      refine Sq.move .plain rfl rfl ?_
      refine Sq.move .plain rfl rfl ?_
      refine Sq.idxStr .plain rfl und9 rfl rfl (by omega) (str_at (by omega)) ?_
      refine Sq.sub8 .plain rfl rfl rfl (by omega) ?_
      refine Sq.conv conv5_3 .plain rfl rfl (by omega) ?_
      refine Sq.add .plain rfl rfl rfl (by omega) ?_
      refine Sq.assign .plain rfl rfl ?_
      refine Sq.nil ?_
      refine Eq.end ?_
      refine Eq.next ?_
      refine Cq.region ?_
      refine Sq.move .plain rfl rfl ?_
      refine Sq.add .plain rfl rfl rfl (by omega) ?_
      refine Sq.assign .plain rfl rfl ?_
      refine Sq.nil ?_
      have e1 := toNat_succ hk.1
      refine Eq.round _ _ ⟨k + 1, _, rfl, rfl, by omega, hz, by rw [e1]; exact pow_step hn (by omega), rfl⟩ (by omega) (.cons rfl (.cons rfl (.cons rfl (.cons rfl (.nil)))))
    refine Sq.nil ?_
    refine Eq.next ?_
    refine Cq.els rfl ?_
    refine Cq.exit ?_
    refine Eq.past ?_
    refine Eq.past ?_
    refine Eq.hit ?_
    refine Eq.next ?_
    refine Cq.seq ?_
    refine Cq.seq ?_
    refine Cq.region ?_
    refine Sq.move .plain rfl rfl ?_
    refine Sq.nil ?_
    refine Eq.next ?_
    refine Cq.els rfl ?_
    refine Cq.skip ?_
    refine Eq.next ?_
    refine Cq.seq ?_
    refine Cq.region ?_
    refine Sq.move .plain rfl rfl ?_
    refine Sq.assign .plain rfl rfl ?_
    refine Sq.assign .plain rfl rfl ?_
    refine Sq.nil ?_
    refine Eq.next ?_
    refine Cq.ret ?_
    refine Eq.ret2 rfl rfl rfl ?_
    exact ⟨⟨_, _, rfl, by omega⟩, rfl⟩
  refine Sq.move (.met rfl rfl rfl) rfl rfl ?_
  refine Sq.off rfl rfl rfl rfl rfl rfl ?_
  refine Sq.off rfl rfl rfl rfl rfl rfl ?_
  refine Sq.off rfl rfl rfl rfl rfl rfl ?_
  refine Sq.off rfl rfl rfl rfl rfl rfl ?_
  refine Sq.offU rfl rfl rfl rfl rfl rfl ?_
  refine Sq.off rfl rfl rfl rfl rfl rfl ?_
  refine Sq.pickF (.met rfl rfl rfl) rfl rfl rfl ?_
  refine Sq.pickF .plain rfl rfl rfl ?_
  refine Sq.nil ?_
  refine Eq.next ?_
  refine Cq.els rfl ?_
  refine Cq.skip ?_
  refine Eq.next ?_
  refine Cq.seq ?_
  refine Cq.region ?_
  refine Sq.assign .plain rfl rfl ?_
  refine Sq.nil ?_
  refine Eq.next ?_
  refine Cq.seq ?_
  refine Cq.seq ?_
  refine Cq.region ?_
  refine Sq.assign .plain rfl rfl ?_
  refine Sq.nil ?_
  refine Eq.next ?_
  refine Cq.block ?_
  refine Cq.loop (fun nn w ls => ∃ (k : Int), ∃ (n : Int), ls = [(0, Value.string s), (4, Value.bool false), (5, Value.int .i64 n), (6, Value.int .i64 k)] ∧ w0 = w ∧ (0 ≤ k ∧ k ≤ (s).size) ∧ ((s).size ≤ 17) ∧ (0 ≤ n ∧ n < 10 ^ k.toNat) ∧ nn = (((s).size : Int) - k).toNat) _ _ ⟨0, 0, rfl, rfl, by omega, by omega, by decide, rfl⟩ (.cons rfl (.cons rfl (.cons rfl (.cons rfl (.nil))))) ?_
  rintro n1 w ls ⟨k, n, rfl, rfl, hk, hz, hn, rfl⟩
  have hp := pow_small (k := k.toNat) (by omega)
  refine Cq.seq ?_
  refine Cq.seq ?_
  refine Cq.region ?_
  refine Sq.move .plain rfl rfl ?_
  refine Sq.move .plain rfl rfl ?_
  refine Sq.lenStr .plain rfl und9 rfl ?_
  refine Sq.lss .plain rfl rfl rfl ?_
  refine Sq.part (fun c43 => ?_) (fun c43 => ?_)
  · refine Sq.nil ?_
    refine Eq.next ?_
    refine Cq.thn rfl ?_
    refine Cq.skip ?_
    refine Eq.next ?_
    refine Cq.seq ?_
    refine Cq.block ?_
    refine Cq.seq ?_
    refine Cq.seq ?_
    refine Cq.region ?_
    refine Sq.move .plain rfl rfl ?_
    refine Sq.move .plain rfl rfl ?_
    refine Sq.idxStr .plain rfl und9 rfl rfl (by omega) (str_at (by omega)) ?_
    refine Sq.lss .plain rfl rfl rfl ?_
    refine Sq.part (fun c45 => ?_) (fun c45 => ?_)
    · refine Sq.move .plain rfl rfl ?_
      refine Sq.off rfl rfl rfl rfl rfl rfl ?_
      refine Sq.off rfl rfl rfl rfl rfl rfl ?_
      refine Sq.off rfl rfl rfl rfl rfl rfl ?_
      refine Sq.off rfl rfl rfl rfl rfl rfl ?_
      refine Sq.pickT .plain rfl rfl rfl ?_
      refine Sq.nil ?_
      refine Eq.next ?_
      refine Cq.thn rfl ?_
      refine Cq.seq ?_
      refine Cq.region ?_
      refine Sq.assign .plain rfl rfl ?_
      refine Sq.assign .plain rfl rfl ?_
      refine Sq.nil ?_
      refine Eq.next ?_
      refine Cq.ret ?_
      refine Eq.pastRet ?_
      refine Eq.outRet ?_
      refine Eq.pastRet ?_
      refine Eq.pastRet ?_
      refine Eq.outRet ?_
      refine Eq.pastRet ?_
      refine Eq.ret2 rfl rfl rfl ?_
      exact ⟨⟨_, _, rfl, by omega⟩, rfl⟩
    refine Sq.move .plain rfl rfl ?_
    refine Sq.move (.met rfl rfl rfl) rfl rfl ?_
    refine Sq.move (.met rfl rfl rfl) rfl rfl ?_
    refine Sq.idxStr (.met rfl rfl rfl) rfl und9 rfl rfl (by omega) (str_at (by omega)) ?_
    refine Sq.gtr (.met rfl rfl rfl) rfl rfl rfl ?_
    refine Sq.part (fun c47 => ?_) (fun c47 => ?_)
    · refine Sq.pickF .plain rfl rfl rfl ?_
      refine Sq.nil ?_
      refine Eq.next ?_
      refine Cq.thn rfl ?_
      refine Cq.seq ?_
      refine Cq.region ?_
      refine Sq.assign .plain rfl rfl ?_
      refine Sq.assign .plain rfl rfl ?_
      refine Sq.nil ?_
      refine Eq.next ?_
      refine Cq.ret ?_
      refine Eq.pastRet ?_
      refine Eq.outRet ?_
      refine Eq.pastRet ?_
      refine Eq.pastRet ?_
      refine Eq.outRet ?_
      refine Eq.pastRet ?_
      refine Eq.ret2 rfl rfl rfl ?_
      exact ⟨⟨_, _, rfl, by omega⟩, rfl⟩
    refine Sq.pickF .plain rfl rfl rfl ?_
    refine Sq.nil ?_
    refine Eq.next ?_
    refine Cq.els rfl ?_
    refine Cq.skip ?_
    refine Eq.next ?_
    refine Cq.region ?_
    refine Sq.move .plain rfl rfl ?_
    refine Sq.mul .plain rfl rfl rfl (by omega) ?_
    refine Sq.move .plain rfl rfl ?_
    refine Sq.move .plain rfl rfl ?_
    refine Sq.idxStr .plain rfl und9 rfl rfl (by omega) (str_at (by omega)) ?_
    refine Sq.sub8 .plain rfl rfl rfl (by omega) ?_
    refine Sq.conv conv5_3 .plain rfl rfl (by omega) ?_
    refine Sq.add .plain rfl rfl rfl (by omega) ?_
    refine Sq.assign .plain rfl rfl ?_
    refine Sq.nil ?_
    refine Eq.end ?_
    refine Eq.next ?_
    refine Cq.region ?_
    refine Sq.move .plain rfl rfl ?_
    refine Sq.add .plain rfl rfl rfl (by omega) ?_
    refine Sq.assign .plain rfl rfl ?_
    refine Sq.nil ?_
    have e1 := toNat_succ hk.1
    refine Eq.round _ _ ⟨k + 1, _, rfl, rfl, by omega, hz, by rw [e1]; exact pow_step hn (by omega), rfl⟩ (by omega) (.cons rfl (.cons rfl (.cons rfl (.cons rfl (.nil)))))
  refine Sq.nil ?_
  refine Eq.next ?_
  refine Cq.els rfl ?_
  refine Cq.exit ?_
  refine Eq.past ?_
  refine Eq.past ?_
  refine Eq.hit ?_
  refine Eq.next ?_
  refine Cq.seq ?_
  refine Cq.seq ?_
  refine Cq.region ?_
  refine Sq.move .plain rfl rfl ?_
  refine Sq.nil ?_
  refine Eq.next ?_
  refine Cq.els rfl ?_
  refine Cq.skip ?_
  refine Eq.next ?_
  refine Cq.seq ?_
  refine Cq.region ?_
  refine Sq.move .plain rfl rfl ?_
  refine Sq.assign .plain rfl rfl ?_
  refine Sq.assign .plain rfl rfl ?_
  refine Sq.nil ?_
  refine Eq.next ?_
  refine Cq.ret ?_
  refine Eq.ret2 rfl rfl rfl ?_
  exact ⟨⟨_, _, rfl, by omega⟩, rfl⟩
set_option maxRecDepth 100000 in
theorem l3Parse_c (s : ByteArray) (hs : s.size ≤ 100000) (w0 : World) : Ret Try.prog 112 #[Value.string s] w0 (fun v w => (∃ (r : Value) (ok : Bool) (xs : List Int), v = .tuple #[r, .bool ok] ∧ Own w w0.heap.size 3 r (xs.map (Value.int .i64)) ∧ xs.length ≤ s.size + 1) ∧ Ext w0 w) := by
  have E := Ext.refl w0
  refine Ret.of (args := [Value.string s]) Try.func112 rfl rfl rfl ?_
  rintro _ rfl
  show Cq _ _ _ _ [(0, Value.string s)] _
  refine Cq.seq ?_
  refine Cq.region ?_
  refine Sq.assign .plain rfl rfl ?_
  refine Sq.assign .plain rfl rfl ?_
  refine Sq.nil ?_
  refine Eq.next ?_
  refine Cq.seq ?_
  refine Cq.region ?_
  refine Sq.lit sl56 rfl rfl .plain rfl rfl one_nil (fun b1 w2 e3 hlo4 ho5 _ => ?_)
  replace ho5 := ho5 w0.heap.size (Nat.le_refl _)
  have hs7 := Below.size e3
  replace E := E.trans e3
  refine Sq.assign .plain rfl rfl ?_
  refine Sq.nil ?_
  refine Eq.next ?_
  refine Cq.seq ?_
  refine Cq.seq ?_
  refine Cq.region ?_
  refine Sq.move .plain rfl rfl ?_
  refine Sq.eqlS .plain rfl rfl rfl ?_
  refine Sq.part (fun c8 => ?_) (fun c8 => ?_)
  · refine Sq.nil ?_
    refine Eq.next ?_
    refine Cq.thn rfl ?_
    refine Cq.seq ?_
    refine Cq.region ?_
    refine Sq.move .plain rfl rfl ?_
    refine Sq.assign .plain rfl rfl ?_
    refine Sq.assign .plain rfl rfl ?_
    refine Sq.nil ?_
    refine Eq.next ?_
    refine Cq.ret ?_
    refine Eq.pastRet ?_
    refine Eq.ret2 rfl rfl rfl ?_
    exact ⟨⟨_, _, [], rfl, Own.mono ho5 (by omega), by simp⟩, E⟩
  refine Sq.nil ?_
  refine Eq.next ?_
  refine Cq.els rfl ?_
  refine Cq.skip ?_
  refine Eq.next ?_
  refine Cq.seq ?_
  refine Cq.region ?_
  refine Sq.move .plain rfl rfl ?_
  refine Sq.call fn110 .plain rfl rfl (cut_c s 44 (by omega) _) ?_
  rintro v9 w10 ⟨⟨xs12, ho13, hxl14, hxs15⟩, e11⟩
  have hs16 := Below.size E
  have hs17 := Below.size e11
  replace E := E.trans e11
  replace ho5 := ho5.ext e11
  refine Sq.assign .plain rfl rfl ?_
  refine Sq.nil ?_
  refine Eq.next ?_
  refine Cq.seq ?_
  refine Cq.seq ?_
  refine Cq.region ?_
  refine Sq.assign .plain rfl rfl ?_
  refine Sq.nil ?_
  refine Eq.next ?_
  refine Cq.block ?_
  refine Cq.loop (fun nn w ls => ∃ (k : Int), ∃ (v : Value), ∃ (ys : List Int), ls = [(0, Value.string s), (4, v), (5, v9), (6, Value.int .i64 k)] ∧ (0 ≤ k ∧ k ≤ xs12.length) ∧ Own w w0.heap.size 3 v (ys.map (Value.int .i64)) ∧ ((ys.length : Int) = k) ∧ Ext w0 w ∧ Own w w2.heap.size 9 v9 (xs12.map Value.string) ∧ nn = ((xs12.length : Int) - k).toNat) _ _ ⟨0, _, [], rfl, by omega, Own.mono ho5 (by omega), rfl, E, ho13, rfl⟩ (.cons rfl (.cons rfl (.cons rfl (.cons rfl (.nil))))) ?_
  rintro nn wl1 ls ⟨k, v, ys, rfl, hk, ho, hl, E, ho13, rfl⟩
  have hs18 := Below.size E
  refine Cq.seq ?_
  refine Cq.seq ?_
  refine Cq.region ?_
  refine Sq.move .plain rfl rfl ?_
  refine Sq.move .plain rfl rfl ?_
  refine Sq.lenStrs (Own.row ho13) .plain rfl und91 rfl ?_
  refine Sq.lss .plain rfl rfl rfl ?_
  refine Sq.part (fun c19 => ?_) (fun c19 => ?_)
  · refine Sq.nil ?_
    refine Eq.next ?_
    refine Cq.thn rfl ?_
    refine Cq.skip ?_
    refine Eq.next ?_
    refine Cq.seq ?_
    refine Cq.block ?_
    refine Cq.seq ?_
    refine Cq.region ?_
    refine Sq.move .plain rfl rfl ?_
    refine Sq.move .plain rfl rfl ?_
    refine Sq.idxStrs sl91 one9 (Own.row ho13) .plain rfl rfl rfl .plain rfl rfl (by omega) (by omega) ?_
    refine Sq.call fn129 .plain rfl rfl (num10_c (xs12.getD k.toNat ByteArray.empty) (by exact Nat.le_trans (hxs15 _ (getD_mem (by omega))) (by omega)) _) ?_
    rintro _ _ ⟨⟨n20, ok21, rfl, hn22⟩, rfl⟩
    refine Sq.move .plain rfl rfl ?_
    refine Sq.extract .plain rfl rfl rfl ?_
    refine Sq.extract .plain rfl rfl rfl ?_
    refine Sq.assign .plain rfl rfl ?_
    refine Sq.assign .plain rfl rfl ?_
    refine Sq.nil ?_
    refine Eq.next ?_
    refine Cq.seq ?_
    refine Cq.seq ?_
    refine Cq.region ?_
    refine Sq.move .plain rfl rfl ?_
    refine Sq.partB (fun c23 => ?_) (fun c23 => ?_)
    · refine Sq.notT .plain rfl rfl ?_
      refine Sq.nil ?_
      refine Eq.next ?_
      refine Cq.els rfl ?_
      refine Cq.skip ?_
      refine Eq.next ?_
      refine Cq.region ?_
      refine Sq.move .plain rfl rfl ?_
      refine Sq.move .plain rfl rfl ?_
      refine Sq.app1 sl56 ho (by omega) (by simp; omega) .plain rfl rfl rfl rfl rfl rfl rfl (fun v24 w25 ho27 g26 _ => ?_)
      have hs28 := g26.size
      replace E := E.owned ho g26 (by omega)
      replace ho13 := ho13.owned ho g26 (by decide)
      refine Sq.assign .plain rfl rfl ?_
      refine Sq.nil ?_
      refine Eq.end ?_
      refine Eq.next ?_
      refine Cq.region ?_
      refine Sq.move .plain rfl rfl ?_
      refine Sq.add .plain rfl rfl rfl (by omega) ?_
      refine Sq.assign .plain rfl rfl ?_
      refine Sq.nil ?_
      refine Eq.round _ _ ⟨k + 1, _, _, rfl, by omega, Own.snocI ho27, by simp; omega, E, ho13, rfl⟩ (by omega) (.cons rfl (.cons rfl (.cons rfl (.cons rfl (.nil)))))
    refine Sq.notF .plain rfl rfl ?_
    refine Sq.nil ?_
    refine Eq.next ?_
    refine Cq.thn rfl ?_
    refine Cq.seq ?_
    refine Cq.region ?_
    refine Sq.assign .plain rfl rfl ?_
    refine Sq.assign .plain rfl rfl ?_
    refine Sq.nil ?_
    refine Eq.next ?_
    refine Cq.ret ?_
    refine Eq.pastRet ?_
    refine Eq.outRet ?_
    refine Eq.pastRet ?_
    refine Eq.pastRet ?_
    refine Eq.outRet ?_
    refine Eq.pastRet ?_
    refine Eq.ret2 rfl rfl rfl ?_
    exact ⟨⟨_, _, [], rfl, Own.nil _ _ _, by simp⟩, E⟩
  refine Sq.nil ?_
  refine Eq.next ?_
  refine Cq.els rfl ?_
  refine Cq.exit ?_
  refine Eq.past ?_
  refine Eq.past ?_
  refine Eq.hit ?_
  refine Eq.next ?_
  refine Cq.seq ?_
  refine Cq.region ?_
  refine Sq.move .plain rfl rfl ?_
  refine Sq.assign .plain rfl rfl ?_
  refine Sq.assign .plain rfl rfl ?_
  refine Sq.nil ?_
  refine Eq.next ?_
  refine Cq.ret ?_
  refine Eq.ret2 rfl rfl rfl ?_
  exact ⟨⟨_, _, ys, rfl, ho, by omega⟩, E⟩
set_option maxRecDepth 100000 in
theorem fmtA_c (w0 : World) (a : A) (nx ac : Value) (hnx : Rows w0 56 3 nx a.next) (hac : Bools w0 4 ac a.acc) : Ret Try.prog 113 #[Value.agg #[Value.int .i64 a.al, nx, ac]] w0 (fun v w => (∃ s, v = .string s ∧ s.size ≤ 2000) ∧ Ext w0 w) := by
  have E := Ext.refl w0
  refine Ret.of (args := [Value.agg #[Value.int .i64 a.al, nx, ac]]) Try.func113 rfl rfl rfl ?_
  rintro _ rfl
  show Cq _ _ _ _ [(0, Value.agg #[Value.int .i64 a.al, nx, ac])] _
  refine Cq.seq ?_
  refine Cq.region ?_
  refine Sq.box .plain rfl rfl (fun b1 w2 e3 hB4 hlo5 => ?_)
  have hd6 := Nat.le_trans (Below.size E) hlo5
  have hs7 := Below.size e3
  replace E := E.trans e3
  refine Sq.assign .plain rfl rfl ?_
  refine Sq.nil ?_
  refine Eq.next ?_
  refine Cq.seq ?_
  refine Cq.seq ?_
  refine Cq.region ?_
  refine Sq.loadAgg agg26 .plain rfl rfl hB4 rfl ?_
  have hd11 := hB4.lt
  refine Sq.call fn52 .plain rfl rfl (sValid_c _ a _ _ (hnx.ext E) (hac.ext E)) ?_
  rintro _ w9 ⟨rfl, e10⟩
  have hs12 := Below.size E
  have hs13 := Below.size e10
  replace E := E.trans e10
  replace hB4 := hB4.ext e10
  refine Sq.partB (fun hv => ?_) (fun hv => ?_)
  · refine Sq.notT .plain rfl rfl ?_
    refine Sq.nil ?_
    refine Eq.next ?_
    refine Cq.els rfl ?_
    refine Cq.skip ?_
    refine Eq.next ?_
    refine Cq.seq ?_
    refine Cq.region ?_
    refine Sq.fieldAddr fld26_0 .plain rfl rfl ?_
    refine Sq.loadB one3 .plain rfl rfl hB4 rfl ?_
    have hd17 := hB4.lt
    refine Sq.call fn128 .plain rfl rfl (fmtAl_c a.al _) ?_
    rintro _ w15 ⟨rfl, e16⟩
    have hs18 := Below.size E
    have hs19 := Below.size e16
    replace E := E.trans e16
    replace hB4 := hB4.ext e16
    refine Sq.assign .plain rfl rfl ?_
    refine Sq.nil ?_
    refine Eq.next ?_
    refine Cq.seq ?_
    refine Cq.seq ?_
    refine Cq.region ?_
    refine Sq.assign .plain rfl rfl ?_
    refine Sq.nil ?_
    refine Eq.next ?_
    refine Cq.block ?_
    have hfs := fmtAl_size a.al
    have hvs := validA_spec.1 hv
    have hv1 := hvs.2.1
    have hv2 := hvs.2.2.1
    refine Cq.loop (fun nn w ls => ∃ (i : Int), ∃ (t : ByteArray), ls = [(1, Value.pointer (some ⟨b1, 0, none⟩)), (3, Value.string t), (4, Value.int .i64 i)] ∧ (0 ≤ i ∧ i ≤ a.next.length) ∧ ((t.size : Int) ≤ 6 + 100 * i) ∧ Ext w0 w ∧ Blk w b1 26 [Value.int .i64 a.al, nx, ac] ∧ nn = ((a.next.length : Int) - i).toNat) _ _ ⟨0, _, rfl, by omega, by omega, E, hB4, rfl⟩ (.cons rfl (.cons rfl (.cons rfl (.nil)))) ?_
    rintro nn wl1 ls ⟨i, t, rfl, hi, ht, E, hB4, rfl⟩
    have hs20 := Below.size E
    have hr6 := valid_row6 hv (k := i.toNat)
    refine Cq.seq ?_
    refine Cq.seq ?_
    refine Cq.region ?_
    refine Sq.move .plain rfl rfl ?_
    refine Sq.fieldAddr fld26_1 .plain rfl rfl ?_
    refine Sq.loadB one23 .plain rfl rfl hB4 rfl ?_
    refine Sq.lenRows (hnx.ext E) .plain rfl und23 rfl ?_
    refine Sq.lss .plain rfl rfl rfl ?_
    refine Sq.part (fun c21 => ?_) (fun c21 => ?_)
    · refine Sq.nil ?_
      refine Eq.next ?_
      refine Cq.thn rfl ?_
      refine Cq.skip ?_
      refine Eq.next ?_
      refine Cq.seq ?_
      refine Cq.block ?_
      refine Cq.seq ?_
      refine Cq.region ?_
      refine Sq.assign .plain rfl rfl ?_
      refine Sq.nil ?_
      refine Eq.next ?_
      refine Cq.seq ?_
      refine Cq.seq ?_
      refine Cq.region ?_
      refine Sq.fieldAddr fld26_2 .plain rfl rfl ?_
      refine Sq.loadB one24 .plain rfl rfl hB4 rfl ?_
      refine Sq.move .plain rfl rfl ?_
      refine Sq.idxBools sl24 one4 (hac.ext E) .plain rfl rfl rfl .plain rfl rfl (by omega) (by omega) ?_
      refine Sq.partB (fun c22 => ?_) (fun c22 => ?_)
      · refine Sq.nil ?_
        refine Eq.next ?_
        refine Cq.thn rfl ?_
        refine Cq.region ?_
        refine Sq.assign .plain rfl rfl ?_
        refine Sq.nil ?_
        refine Eq.next ?_
        refine Cq.seq ?_
        refine Cq.region ?_
        refine Sq.move .plain rfl rfl ?_
        refine Sq.move .plain rfl rfl ?_
        refine Sq.cat .plain rfl rfl rfl (by show t.size + 2 ≤ _; omega) ?_
        refine Sq.assign .plain rfl rfl ?_
        refine Sq.nil ?_
        refine Eq.next ?_
        refine Cq.seq ?_
        refine Cq.region ?_
        refine Sq.assign .plain rfl rfl ?_
        refine Sq.nil ?_
        refine Eq.next ?_
        refine Cq.block ?_
        refine Cq.loop (fun nn w ls => ∃ (k : Int), ∃ (u : ByteArray), ls = [(1, Value.pointer (some ⟨b1, 0, none⟩)), (3, Value.string u), (4, Value.int .i64 i), (6, Value.int .i64 k)] ∧ (0 ≤ k ∧ k ≤ (a.next.getD i.toNat []).length) ∧ ((u.size : Int) ≤ 8 + 100 * i + 15 * k) ∧ Ext w0 w ∧ Blk w b1 26 [Value.int .i64 a.al, nx, ac] ∧ nn = (((a.next.getD i.toNat []).length : Int) - k).toNat) _ _ ⟨0, _, rfl, by omega, by rw [size_cat]; show ((t.size + 2 : Nat) : Int) ≤ _; omega, E, hB4, rfl⟩ (.cons rfl (.cons rfl (.cons rfl (.cons rfl (.nil))))) ?_
        rintro nn wl2 ls ⟨k, u, rfl, hk, hu, E, hB4, rfl⟩
        have hs23 := Below.size E
        have hen := valid_at hv (k := i.toNat) (j := k.toNat)
        refine Cq.seq ?_
        refine Cq.seq ?_
        refine Cq.region ?_
        refine Sq.move .plain rfl rfl ?_
        refine Sq.fieldAddr fld26_1 .plain rfl rfl ?_
        refine Sq.loadB one23 .plain rfl rfl hB4 rfl ?_
        refine Sq.move .plain rfl rfl ?_
        refine Sq.idxRows sl23 one56 (hnx.ext E) .plain rfl rfl rfl .plain rfl rfl (by omega) (by omega) (fun r24 hr25 => ?_)
        refine Sq.lenInts hr25 .plain rfl und56 rfl ?_
        refine Sq.lss .plain rfl rfl rfl ?_
        refine Sq.part (fun c26 => ?_) (fun c26 => ?_)
        · refine Sq.nil ?_
          refine Eq.next ?_
          refine Cq.thn rfl ?_
          refine Cq.skip ?_
          refine Eq.next ?_
          refine Cq.seq ?_
          refine Cq.block ?_
          refine Cq.seq ?_
          refine Cq.seq ?_
          refine Cq.region ?_
          refine Sq.move .plain rfl rfl ?_
          refine Sq.gtr .plain rfl rfl rfl ?_
          refine Sq.part (fun c27 => ?_) (fun c27 => ?_)
          · refine Sq.nil ?_
            refine Eq.next ?_
            refine Cq.thn rfl ?_
            refine Cq.region ?_
            refine Sq.move .plain rfl rfl ?_
            refine Sq.cat .plain rfl rfl rfl (by show u.size + 1 ≤ _; omega) ?_
            refine Sq.assign .plain rfl rfl ?_
            refine Sq.nil ?_
            refine Eq.next ?_
            refine Cq.region ?_
            refine Sq.move .plain rfl rfl ?_
            refine Sq.fieldAddr fld26_1 .plain rfl rfl ?_
            refine Sq.loadB one23 .plain rfl rfl hB4 rfl ?_
            refine Sq.move .plain rfl rfl ?_
            refine Sq.idxRows sl23 one56 (hnx.ext E) .plain rfl rfl rfl .plain rfl rfl (by omega) (by omega) (fun r28 hr29 => ?_)
            refine Sq.move .plain rfl rfl ?_
            refine Sq.idxInts sl56 one3 hr29 .plain rfl rfl rfl .plain rfl rfl (by omega) (by omega) ?_
            have hd35 := hB4.lt
            refine Sq.call fn130 .plain rfl rfl (dec_c ((a.next.getD i.toNat []).getD k.toNat 0) (by have := hen (by omega) (by omega); omega) _) ?_
            rintro _ w31 ⟨⟨s33, rfl, hs34⟩, e32⟩
            have hs36 := Below.size E
            have hs37 := Below.size e32
            replace E := E.trans e32
            replace hB4 := hB4.ext e32
            refine Sq.cat .plain rfl rfl rfl (by (try simp only [size_cat]); first | omega | (show (u.size + 1) + _ ≤ _; omega)) ?_
            refine Sq.assign .plain rfl rfl ?_
            refine Sq.nil ?_
            refine Eq.end ?_
            refine Eq.next ?_
            refine Cq.region ?_
            refine Sq.move .plain rfl rfl ?_
            refine Sq.add .plain rfl rfl rfl (by omega) ?_
            refine Sq.assign .plain rfl rfl ?_
            refine Sq.nil ?_
            refine Eq.round _ _ ⟨k + 1, _, rfl, by omega, by simp only [size_cat]; first | omega | (show ((u.size + 1 + _ : Nat) : Int) ≤ _; omega), E, hB4, rfl⟩ (by omega) (.cons rfl (.cons rfl (.cons rfl (.cons rfl (.nil)))))
          refine Sq.nil ?_
          refine Eq.next ?_
          refine Cq.els rfl ?_
          refine Cq.skip ?_
          refine Eq.next ?_
          refine Cq.region ?_
          refine Sq.move .plain rfl rfl ?_
          refine Sq.fieldAddr fld26_1 .plain rfl rfl ?_
          refine Sq.loadB one23 .plain rfl rfl hB4 rfl ?_
          refine Sq.move .plain rfl rfl ?_
          refine Sq.idxRows sl23 one56 (hnx.ext E) .plain rfl rfl rfl .plain rfl rfl (by omega) (by omega) (fun r38 hr39 => ?_)
          refine Sq.move .plain rfl rfl ?_
          refine Sq.idxInts sl56 one3 hr39 .plain rfl rfl rfl .plain rfl rfl (by omega) (by omega) ?_
          have hd45 := hB4.lt
          refine Sq.call fn130 .plain rfl rfl (dec_c ((a.next.getD i.toNat []).getD k.toNat 0) (by have := hen (by omega) (by omega); omega) _) ?_
          rintro _ w41 ⟨⟨s43, rfl, hs44⟩, e42⟩
          have hs46 := Below.size E
          have hs47 := Below.size e42
          replace E := E.trans e42
          replace hB4 := hB4.ext e42
          refine Sq.cat .plain rfl rfl rfl (by (try simp only [size_cat]); first | omega | (show (u.size + 1) + _ ≤ _; omega)) ?_
          refine Sq.assign .plain rfl rfl ?_
          refine Sq.nil ?_
          refine Eq.end ?_
          refine Eq.next ?_
          refine Cq.region ?_
          refine Sq.move .plain rfl rfl ?_
          refine Sq.add .plain rfl rfl rfl (by omega) ?_
          refine Sq.assign .plain rfl rfl ?_
          refine Sq.nil ?_
          refine Eq.round _ _ ⟨k + 1, _, rfl, by omega, by simp only [size_cat]; first | omega | (show ((u.size + 1 + _ : Nat) : Int) ≤ _; omega), E, hB4, rfl⟩ (by omega) (.cons rfl (.cons rfl (.cons rfl (.cons rfl (.nil)))))
        refine Sq.nil ?_
        refine Eq.next ?_
        refine Cq.els rfl ?_
        refine Cq.exit ?_
        refine Eq.past ?_
        refine Eq.past ?_
        refine Eq.hit ?_
        refine Eq.end ?_
        refine Eq.next ?_
        refine Cq.region ?_
        refine Sq.move .plain rfl rfl ?_
        refine Sq.add .plain rfl rfl rfl (by omega) ?_
        refine Sq.assign .plain rfl rfl ?_
        refine Sq.nil ?_
        refine Eq.round _ _ ⟨i + 1, _, rfl, by omega, by omega, E, hB4, rfl⟩ (by omega) (.cons rfl (.cons rfl (.cons rfl (.nil))))
      refine Sq.nil ?_
      refine Eq.next ?_
      refine Cq.els rfl ?_
      refine Cq.skip ?_
      refine Eq.next ?_
      refine Cq.seq ?_
      refine Cq.region ?_
      refine Sq.move .plain rfl rfl ?_
      refine Sq.move .plain rfl rfl ?_
      refine Sq.cat .plain rfl rfl rfl (by show t.size + 2 ≤ _; omega) ?_
      refine Sq.assign .plain rfl rfl ?_
      refine Sq.nil ?_
      refine Eq.next ?_
      refine Cq.seq ?_
      refine Cq.region ?_
      refine Sq.assign .plain rfl rfl ?_
      refine Sq.nil ?_
      refine Eq.next ?_
      refine Cq.block ?_
      refine Cq.loop (fun nn w ls => ∃ (k : Int), ∃ (u : ByteArray), ls = [(1, Value.pointer (some ⟨b1, 0, none⟩)), (3, Value.string u), (4, Value.int .i64 i), (6, Value.int .i64 k)] ∧ (0 ≤ k ∧ k ≤ (a.next.getD i.toNat []).length) ∧ ((u.size : Int) ≤ 8 + 100 * i + 15 * k) ∧ Ext w0 w ∧ Blk w b1 26 [Value.int .i64 a.al, nx, ac] ∧ nn = (((a.next.getD i.toNat []).length : Int) - k).toNat) _ _ ⟨0, _, rfl, by omega, by rw [size_cat]; show ((t.size + 2 : Nat) : Int) ≤ _; omega, E, hB4, rfl⟩ (.cons rfl (.cons rfl (.cons rfl (.cons rfl (.nil))))) ?_
      rintro nn wl2 ls ⟨k, u, rfl, hk, hu, E, hB4, rfl⟩
      have hs48 := Below.size E
      have hen := valid_at hv (k := i.toNat) (j := k.toNat)
      refine Cq.seq ?_
      refine Cq.seq ?_
      refine Cq.region ?_
      refine Sq.move .plain rfl rfl ?_
      refine Sq.fieldAddr fld26_1 .plain rfl rfl ?_
      refine Sq.loadB one23 .plain rfl rfl hB4 rfl ?_
      refine Sq.move .plain rfl rfl ?_
      refine Sq.idxRows sl23 one56 (hnx.ext E) .plain rfl rfl rfl .plain rfl rfl (by omega) (by omega) (fun r49 hr50 => ?_)
      refine Sq.lenInts hr50 .plain rfl und56 rfl ?_
      refine Sq.lss .plain rfl rfl rfl ?_
      refine Sq.part (fun c51 => ?_) (fun c51 => ?_)
      · refine Sq.nil ?_
        refine Eq.next ?_
        refine Cq.thn rfl ?_
        refine Cq.skip ?_
        refine Eq.next ?_
        refine Cq.seq ?_
        refine Cq.block ?_
        refine Cq.seq ?_
        refine Cq.seq ?_
        refine Cq.region ?_
        refine Sq.move .plain rfl rfl ?_
        refine Sq.gtr .plain rfl rfl rfl ?_
        refine Sq.part (fun c52 => ?_) (fun c52 => ?_)
        · refine Sq.nil ?_
          refine Eq.next ?_
          refine Cq.thn rfl ?_
          refine Cq.region ?_
          refine Sq.move .plain rfl rfl ?_
          refine Sq.cat .plain rfl rfl rfl (by show u.size + 1 ≤ _; omega) ?_
          refine Sq.assign .plain rfl rfl ?_
          refine Sq.nil ?_
          refine Eq.next ?_
          refine Cq.region ?_
          refine Sq.move .plain rfl rfl ?_
          refine Sq.fieldAddr fld26_1 .plain rfl rfl ?_
          refine Sq.loadB one23 .plain rfl rfl hB4 rfl ?_
          refine Sq.move .plain rfl rfl ?_
          refine Sq.idxRows sl23 one56 (hnx.ext E) .plain rfl rfl rfl .plain rfl rfl (by omega) (by omega) (fun r53 hr54 => ?_)
          refine Sq.move .plain rfl rfl ?_
          refine Sq.idxInts sl56 one3 hr54 .plain rfl rfl rfl .plain rfl rfl (by omega) (by omega) ?_
          have hd60 := hB4.lt
          refine Sq.call fn130 .plain rfl rfl (dec_c ((a.next.getD i.toNat []).getD k.toNat 0) (by have := hen (by omega) (by omega); omega) _) ?_
          rintro _ w56 ⟨⟨s58, rfl, hs59⟩, e57⟩
          have hs61 := Below.size E
          have hs62 := Below.size e57
          replace E := E.trans e57
          replace hB4 := hB4.ext e57
          refine Sq.cat .plain rfl rfl rfl (by (try simp only [size_cat]); first | omega | (show (u.size + 1) + _ ≤ _; omega)) ?_
          refine Sq.assign .plain rfl rfl ?_
          refine Sq.nil ?_
          refine Eq.end ?_
          refine Eq.next ?_
          refine Cq.region ?_
          refine Sq.move .plain rfl rfl ?_
          refine Sq.add .plain rfl rfl rfl (by omega) ?_
          refine Sq.assign .plain rfl rfl ?_
          refine Sq.nil ?_
          refine Eq.round _ _ ⟨k + 1, _, rfl, by omega, by simp only [size_cat]; first | omega | (show ((u.size + 1 + _ : Nat) : Int) ≤ _; omega), E, hB4, rfl⟩ (by omega) (.cons rfl (.cons rfl (.cons rfl (.cons rfl (.nil)))))
        refine Sq.nil ?_
        refine Eq.next ?_
        refine Cq.els rfl ?_
        refine Cq.skip ?_
        refine Eq.next ?_
        refine Cq.region ?_
        refine Sq.move .plain rfl rfl ?_
        refine Sq.fieldAddr fld26_1 .plain rfl rfl ?_
        refine Sq.loadB one23 .plain rfl rfl hB4 rfl ?_
        refine Sq.move .plain rfl rfl ?_
        refine Sq.idxRows sl23 one56 (hnx.ext E) .plain rfl rfl rfl .plain rfl rfl (by omega) (by omega) (fun r63 hr64 => ?_)
        refine Sq.move .plain rfl rfl ?_
        refine Sq.idxInts sl56 one3 hr64 .plain rfl rfl rfl .plain rfl rfl (by omega) (by omega) ?_
        have hd70 := hB4.lt
        refine Sq.call fn130 .plain rfl rfl (dec_c ((a.next.getD i.toNat []).getD k.toNat 0) (by have := hen (by omega) (by omega); omega) _) ?_
        rintro _ w66 ⟨⟨s68, rfl, hs69⟩, e67⟩
        have hs71 := Below.size E
        have hs72 := Below.size e67
        replace E := E.trans e67
        replace hB4 := hB4.ext e67
        refine Sq.cat .plain rfl rfl rfl (by (try simp only [size_cat]); first | omega | (show (u.size + 1) + _ ≤ _; omega)) ?_
        refine Sq.assign .plain rfl rfl ?_
        refine Sq.nil ?_
        refine Eq.end ?_
        refine Eq.next ?_
        refine Cq.region ?_
        refine Sq.move .plain rfl rfl ?_
        refine Sq.add .plain rfl rfl rfl (by omega) ?_
        refine Sq.assign .plain rfl rfl ?_
        refine Sq.nil ?_
        refine Eq.round _ _ ⟨k + 1, _, rfl, by omega, by simp only [size_cat]; first | omega | (show ((u.size + 1 + _ : Nat) : Int) ≤ _; omega), E, hB4, rfl⟩ (by omega) (.cons rfl (.cons rfl (.cons rfl (.cons rfl (.nil)))))
      refine Sq.nil ?_
      refine Eq.next ?_
      refine Cq.els rfl ?_
      refine Cq.exit ?_
      refine Eq.past ?_
      refine Eq.past ?_
      refine Eq.hit ?_
      refine Eq.end ?_
      refine Eq.next ?_
      refine Cq.region ?_
      refine Sq.move .plain rfl rfl ?_
      refine Sq.add .plain rfl rfl rfl (by omega) ?_
      refine Sq.assign .plain rfl rfl ?_
      refine Sq.nil ?_
      refine Eq.round _ _ ⟨i + 1, _, rfl, by omega, by omega, E, hB4, rfl⟩ (by omega) (.cons rfl (.cons rfl (.cons rfl (.nil))))
    refine Sq.nil ?_
    refine Eq.next ?_
    refine Cq.els rfl ?_
    refine Cq.exit ?_
    refine Eq.past ?_
    refine Eq.past ?_
    refine Eq.hit ?_
    refine Eq.next ?_
    refine Cq.seq ?_
    refine Cq.region ?_
    refine Sq.move .plain rfl rfl ?_
    refine Sq.assign .plain rfl rfl ?_
    refine Sq.nil ?_
    refine Eq.next ?_
    refine Cq.ret ?_
    refine Eq.ret1 rfl rfl ?_
    exact ⟨⟨_, rfl, by first | (show 0 ≤ 2000; omega) | omega⟩, E⟩
  refine Sq.notF .plain rfl rfl ?_
  refine Sq.nil ?_
  refine Eq.next ?_
  refine Cq.thn rfl ?_
  refine Cq.seq ?_
  refine Cq.region ?_
  refine Sq.assign .plain rfl rfl ?_
  refine Sq.nil ?_
  refine Eq.next ?_
  refine Cq.ret ?_
  refine Eq.pastRet ?_
  refine Eq.ret1 rfl rfl ?_
  exact ⟨⟨_, rfl, by first | (show 0 ≤ 2000; omega) | omega⟩, E⟩
end Go.Proofs.Ytdejmfkpohgamaa
set_option linter.unusedSimpArgs false
set_option linter.unusedVariables false
namespace Go.Proofs.Ytdejmfkpohgamaa
open Go.RowKit
set_option maxRecDepth 100000 in
theorem parseA_c (s : ByteArray) (hs : s.size ≤ 100) (w0 : World) : Ret Try.prog 84 #[Value.string s] w0 (fun v w => (∃ (u : Value) (ok : Bool) (a : A), v = .tuple #[u, .bool ok] ∧ OwnA w w0.heap.size u a ∧ Small 200 a ∧ 0 ≤ a.al ∧ a.al ≤ 63) ∧ Ext w0 w) := by
  have E := Ext.refl w0
  refine Ret.of (args := [Value.string s]) Try.func84 rfl rfl rfl ?_
  rintro _ rfl
  show Cq _ _ _ _ [(0, Value.string s)] _
  refine Cq.seq ?_
  refine Cq.region ?_
  refine Sq.alloc zero26 .plain rfl (fun b1 w2 e3 hB4 hlo5 => ?_)
  have hd6 := Nat.le_trans (Below.size E) hlo5
  have hs7 := Below.size e3
  replace E := E.trans e3
  refine Sq.assign .plain rfl rfl ?_
  refine Sq.nil ?_
  refine Eq.next ?_
  refine Cq.seq ?_
  refine Cq.region ?_
  refine Sq.move .plain rfl rfl ?_
  have hd15 := hB4.lt
  refine Sq.call fn110 .plain rfl rfl (cut_c s 32 (by omega) _) ?_
  rintro v8 w9 ⟨⟨xs11, ho12, hxl13, hxs14⟩, e10⟩
  have hs16 := Below.size E
  have hs17 := Below.size e10
  replace E := E.trans e10
  replace hB4 := hB4.ext e10
  refine Sq.assign .plain rfl rfl ?_
  refine Sq.nil ?_
  refine Eq.next ?_
  refine Cq.seq ?_
  refine Cq.region ?_
  refine Sq.move .plain rfl rfl ?_
  refine Sq.idxStrs sl91 one9 (Own.row ho12) .plain rfl rfl rfl .plain rfl rfl (by omega) (by omega) ?_
  have hd24 := hB4.lt
  refine Sq.call fn111 .plain rfl rfl (parseAl_c ((xs11.getD (0 : Int).toNat ByteArray.empty)) _) ?_
  rintro _ w19 ⟨⟨n21, ok22, rfl, hn23⟩, e20⟩
  have hs25 := Below.size E
  have hs26 := Below.size e20
  replace E := E.trans e20
  replace hB4 := hB4.ext e20
  replace ho12 := ho12.ext e20
  refine Sq.move .plain rfl rfl ?_
  refine Sq.extract .plain rfl rfl rfl ?_
  refine Sq.extract .plain rfl rfl rfl ?_
  refine Sq.assign .plain rfl rfl ?_
  refine Sq.assign .plain rfl rfl ?_
  refine Sq.nil ?_
  refine Eq.next ?_
  refine Cq.seq ?_
  refine Cq.seq ?_
  refine Cq.region ?_
  refine Sq.move .plain rfl rfl ?_
  refine Sq.partB (fun c27 => ?_) (fun c27 => ?_)
  · refine Sq.notT .plain rfl rfl ?_
    refine Sq.nil ?_
    refine Eq.next ?_
    refine Cq.els rfl ?_
    refine Cq.skip ?_
    refine Eq.next ?_
    refine Cq.seq ?_
    refine Cq.region ?_
    refine Sq.move .plain rfl rfl ?_
    refine Sq.build st26 rfl rfl .plain rfl rfl (one_cons rfl one_nil) rfl ?_
    refine Sq.alloc zero26 .plain rfl (fun b28 w29 e30 hB31 hlo32 => ?_)
    have hd33 := Nat.le_trans (Below.size E) hlo32
    have hd34 := Nat.lt_of_lt_of_le hB4.lt hlo32
    have hs35 := Below.size e30
    replace E := E.trans e30
    replace hB4 := hB4.ext e30
    replace ho12 := ho12.ext e30
    refine Sq.storeAgg agg26 .plain rfl rfl (one_cons rfl (one_cons rfl (one_cons rfl one_nil))) hB31 rfl rfl (fun w36 g37 hB38 => ?_)
    have hs39 := World.grownBy.size g37
    replace E := E.grown g37 (fun k hk => by injection hk with hk; subst hk; omega)
    replace hB4 := hB4.grown g37 (by intro h; injection h with h; omega)
    replace ho12 := ho12.stored g37 hB31 (by decide)
    replace hB31 := hB38
    refine Sq.nil ?_
    refine Eq.next ?_
    refine Cq.seq ?_
    refine Cq.seq ?_
    refine Cq.region ?_
    refine Sq.assign .plain rfl rfl ?_
    refine Sq.nil ?_
    refine Eq.next ?_
    refine Cq.block ?_
    refine Cq.loop (fun nn w ls => ∃ (i : Int), ∃ (nxv : Value), ∃ (acv : Value), ∃ (xss : List (List Int)), ∃ (ys : List Bool), ls = [(0, Value.string s), (2, Value.pointer (some ⟨b1, 0, none⟩)), (4, v8), (7, Value.pointer (some ⟨b28, 0, none⟩)), (8, Value.int .i64 i)] ∧ (1 ≤ i ∧ i ≤ xs11.length) ∧ Blk w b28 26 [Value.int .i64 n21, nxv, acv] ∧ OwnRows w w0.heap.size w.heap.size 56 3 nxv xss ∧ Own w w0.heap.size 4 acv (ys.map Value.bool) ∧ ((xss.length : Int) = i - 1 ∧ (ys.length : Int) = i - 1 ∧ ∀ row ∈ xss, row.length ≤ 150) ∧ Ext w0 w ∧ Blk w b1 26 [Value.int .i64 0, Value.slice none 0 0, Value.slice none 0 0] ∧ Own w w2.heap.size 9 v8 (xs11.map Value.string) ∧ nn = ((xs11.length : Int) - i).toNat) _ _ ⟨1, _, _, [], [], rfl, by omega, hB31, OwnRows.nil _ _ _ _ _, Own.nil _ _ _, by simp, E, hB4, ho12, rfl⟩ (.cons rfl (.cons rfl (.cons rfl (.cons rfl (.cons rfl (.nil)))))) ?_
    rintro nn wl1 ls ⟨i, nxv, acv, xss, ys, rfl, hi, hB7, hor, hoa, hxl, E, hB4, ho12, rfl⟩
    have hs40 := Below.size E
    refine Cq.seq ?_
    refine Cq.seq ?_
    refine Cq.region ?_
    refine Sq.move .plain rfl rfl ?_
    refine Sq.move .plain rfl rfl ?_
    refine Sq.lenStrs (Own.row ho12) .plain rfl und91 rfl ?_
    refine Sq.lss .plain rfl rfl rfl ?_
    refine Sq.part (fun c41 => ?_) (fun c41 => ?_)
    · refine Sq.nil ?_
      refine Eq.next ?_
      refine Cq.thn rfl ?_
      refine Cq.skip ?_
      refine Eq.next ?_
      refine Cq.seq ?_
      refine Cq.block ?_
      refine Cq.seq ?_
      refine Cq.seq ?_
      refine Cq.region ?_
      refine Sq.move .plain rfl rfl ?_
      refine Sq.move .plain rfl rfl ?_
      refine Sq.idxStrs sl91 one9 (Own.row ho12) .plain rfl rfl rfl .plain rfl rfl (by omega) (by omega) ?_
      refine Sq.eqlS .plain rfl rfl rfl ?_
      refine Sq.part (fun hne => ?_) (fun hne => ?_)
      · refine Sq.nil ?_
        refine Eq.next ?_
        refine Cq.thn rfl ?_
        refine Cq.seq ?_
        refine Cq.region ?_
        refine Sq.build st26 rfl rfl .plain rfl rfl one_nil rfl ?_
        refine Sq.storeAgg agg26 .plain rfl rfl (one_cons rfl (one_cons rfl (one_cons rfl one_nil))) hB4 rfl rfl (fun w42 g43 hB44 => ?_)
        have hs45 := World.grownBy.size g43
        replace E := E.grown g43 (fun k hk => by injection hk with hk; subst hk; omega)
        replace hB4 := hB44
        refine Sq.assign .plain rfl rfl ?_
        refine Sq.nil ?_
        refine Eq.next ?_
        refine Cq.ret ?_
        refine Eq.pastRet ?_
        refine Eq.outRet ?_
        refine Eq.pastRet ?_
        refine Eq.pastRet ?_
        refine Eq.outRet ?_
        refine Eq.pastRet ?_
        refine Eq.retCell2 rfl rfl agg26 hB4 rfl rfl ?_
        exact ⟨⟨_, _, zeroA, rfl, ⟨_, _, rfl, OwnRows.nil _ _ _ _ _, Own.nil _ _ _⟩, by refine ⟨?_, ?_, ?_, ?_⟩ <;> simp [zeroA], by simp [zeroA]⟩, E⟩
      refine Sq.nil ?_
      refine Eq.next ?_
      refine Cq.els rfl ?_
      refine Cq.skip ?_
      refine Eq.next ?_
      refine Cq.seq ?_
      refine Cq.region ?_
      have hne1 := str_ne hne
      have hps := hxs14 _ (getD_mem (d := ByteArray.empty) (k := i.toNat) (by omega))
      have hcl : ((xs11.getD i.toNat ByteArray.empty).extract (1 : Int).toNat (xs11.getD i.toNat ByteArray.empty).size).size ≤ 100 := Nat.le_trans (size_cut _) (by omega)
      refine Sq.move .plain rfl rfl ?_
      refine Sq.move .plain rfl rfl ?_
      refine Sq.idxStrs sl91 one9 (Own.row ho12) .plain rfl rfl rfl .plain rfl rfl (by omega) (by omega) ?_
      refine Sq.val .plain rfl rfl (Still.cutL und9 rfl rfl (by omega)) ?_
      have hd54 := hB4.lt
      have hd55 := hB7.lt
      refine Sq.call fn112 .plain rfl rfl (l3Parse_c (((xs11.getD i.toNat ByteArray.empty).extract (1 : Int).toNat (xs11.getD i.toNat ByteArray.empty).size)) (by omega) _) ?_
      rintro _ w47 ⟨⟨r49, ok50, xs51, rfl, ho52, hl53⟩, e48⟩
      have hs56 := Below.size E
      have hs57 := Below.size e48
      replace E := E.trans e48
      replace hB4 := hB4.ext e48
      replace ho12 := ho12.ext e48
      replace hB7 := hB7.ext e48
      replace hor := hor.ext e48
      replace hoa := hoa.ext e48
      refine Sq.move .plain rfl rfl ?_
      refine Sq.extract .plain rfl rfl rfl ?_
      refine Sq.extract .plain rfl rfl rfl ?_
      refine Sq.assign .plain rfl rfl ?_
      refine Sq.assign .plain rfl rfl ?_
      refine Sq.nil ?_
      refine Eq.next ?_
      refine Cq.seq ?_
      refine Cq.seq ?_
      refine Cq.region ?_
      refine Sq.move .plain rfl rfl ?_
      refine Sq.partB (fun c58 => ?_) (fun c58 => ?_)
      · refine Sq.notT .plain rfl rfl ?_
        refine Sq.nil ?_
        refine Eq.next ?_
        refine Cq.els rfl ?_
        refine Cq.skip ?_
        refine Eq.next ?_
        refine Cq.seq ?_
        refine Cq.region ?_
        refine Sq.fieldAddr fld26_1 .plain rfl rfl ?_
        refine Sq.loadB one23 .plain rfl rfl hB7 rfl ?_
        refine Sq.move .plain rfl rfl ?_
        obtain ⟨rs63, q64, q65, q66⟩ := OwnRows.open hor (by decide)
        have q66x := Ext.refl w47
        refine Sq.app1 sl23 q64 (by omega) (by rw [q65]; first | omega | (simp; omega)) .plain rfl rfl rfl rfl rfl rfl (Row.one (Own.row ho52)) (fun v59 w60 ho62 g61 _ => ?_)
        have hs67 := g61.size
        have ho62r := q66 _ xs51 _ _ _ (Ext.refl _) (Own.mono ho52 (by omega)) (by omega) ho62 g61
        replace E := E.owned q64 g61 (by omega)
        replace hB4 := hB4.owned q64 g61 (by decide)
        replace ho12 := ho12.owned q64 g61 (by decide)
        replace hB7 := hB7.owned q64 g61 (by decide)
        replace hoa := hoa.owned q64 g61 (by decide)
        refine Sq.fieldAddr fld26_1 .plain rfl rfl ?_
        refine Sq.store one23 .plain rfl rfl (Rows.one (OwnRows.rows ho62r)) hB7 (by simp) (fun w68 g69 hB70 => ?_)
        have hs71 := World.grownBy.size g69
        replace E := E.grown g69 (fun k hk => by injection hk with hk; subst hk; omega)
        replace hB4 := hB4.grown g69 (by intro h; injection h with h; omega)
        replace ho12 := ho12.stored g69 hB7 (by decide)
        replace hoa := hoa.stored g69 hB7 (by decide)
        replace ho62r := ho62r.stored g69 hB7 (by decide) (by decide)
        replace hB7 := hB70
        refine Sq.nil ?_
        refine Eq.next ?_
        obtain ⟨pS, hpS⟩ := Strs.at (Own.row ho12) (i := i) (by omega) (by omega)
        refine Cq.drawS 10 (fun w' => Blk w' b28 26 [Value.int .i64 n21, v59, acv] ∧ At w' 9 v8 i pS (.string (xs11.getD i.toNat ByteArray.empty))) mixed (⟨hB7, hpS⟩) (fun w72 e73 hS => ?_)
        clear hS
        have hs74 := Below.size e73
        replace E := E.trans e73
        replace hB4 := hB4.ext e73
        replace ho12 := ho12.ext e73
        replace hB7 := hB7.ext e73
        replace hoa := hoa.ext e73
        replace ho62r := ho62r.ext e73
        replace hpS := hpS.ext e73
        refine Gq.st 0 rfl (by kernel_rfl) rfl .plain rfl (fun _ _ _ h => h) ⟨hB7, hpS⟩ (fun w' x => Still.fieldAddr fld26_2 rfl) ?_
        refine Gq.st 1 rfl (by kernel_rfl) rfl .plain rfl (fun _ _ _ h => h) ⟨hB7, hpS⟩ (fun w' x => Still.loadB one24 rfl x.1 rfl) ?_
        refine Gq.st 2 rfl (by kernel_rfl) rfl .plain rfl (fun _ _ _ h => h) ⟨hB7, hpS⟩ (fun w' x => Still.move rfl) ?_
        refine Gq.st 3 rfl (by kernel_rfl) rfl .plain rfl (fun _ _ _ h => h) ⟨hB7, hpS⟩ (fun w' x => Still.move rfl) ?_
        refine Gq.st 4 rfl (by kernel_rfl) rfl .plain rfl (fun _ _ _ h => h) ⟨hB7, hpS⟩ (fun w' x => Still.at' sl91 hpS rfl rfl) ?_
        refine Gq.st 5 rfl (by kernel_rfl) rfl .plain rfl (fun _ _ _ h => h) ⟨hB7, hpS⟩ (fun w' x => Still.loadA one9 rfl (x.2).1) ?_
        refine Gq.st 6 rfl (by kernel_rfl) rfl .plain rfl (fun _ _ _ h => h) ⟨hB7, hpS⟩ (fun w' x => Still.idxStr und9 rfl rfl (by omega) (str_at (by omega))) ?_
        refine Gq.st 7 rfl (by kernel_rfl) rfl .plain rfl (fun _ _ _ h => h) ⟨hB7, hpS⟩ (fun w' x => Still.eql rfl rfl) ?_
        refine Gq.one 8 rfl (by kernel_rfl) ?_
        refine Sq.lit sl24 rfl rfl .plain rfl rfl (one_cons rfl one_nil) (fun b75 w76 e77 hlo78 ho79 _ => ?_)
        replace ho79 := ho79 w72.heap.size (Nat.le_refl _)
        have hs81 := Below.size e77
        replace E := E.trans e77
        replace hB4 := hB4.ext e77
        replace ho12 := ho12.ext e77
        replace hB7 := hB7.ext e77
        replace hoa := hoa.ext e77
        replace ho62r := ho62r.ext e77
        replace hpS := hpS.ext e77
        refine Sq.nil ?_
        refine Eq.goes (fun _ => ⟨hB7, hpS⟩) ?_
        refine Gq.one 9 rfl (by kernel_rfl) ?_
        refine Sq.app sl24 hoa (by omega) (Own.row ho79) (one_cons rfl one_nil) (by first | omega | (simp; omega)) .plain rfl rfl rfl rfl (fun v82 w83 ho85 g84 => ?_)
        have hs86 := g84.size
        replace E := E.owned hoa g84 (by omega)
        replace hB4 := hB4.owned hoa g84 (by decide)
        replace ho12 := ho12.owned hoa g84 (by decide)
        replace hB7 := hB7.owned hoa g84 (by decide)
        replace ho62r := ho62r.owned hoa g84 (by decide) (by decide)
        replace hpS := hpS.owned hoa g84 (by decide)
        refine Sq.nil ?_
        refine Eq.goes (fun _ => ⟨hB7, hpS⟩) ?_
        refine Gq.one 10 rfl (by kernel_rfl) ?_
        refine Sq.fieldAddr fld26_2 .plain rfl rfl ?_
        refine Sq.nil ?_
        refine Eq.goes (fun h => absurd h (by decide)) ?_
        refine Gq.one 11 rfl (by kernel_rfl) ?_
        refine Sq.store one24 .plain rfl rfl (Row.one (Own.row ho85)) hB7 (by simp) (fun w87 g88 hB89 => ?_)
        have hs90 := World.grownBy.size g88
        replace E := E.grown g88 (fun k hk => by injection hk with hk; subst hk; omega)
        replace hB4 := hB4.grown g88 (by intro h; injection h with h; omega)
        replace ho12 := ho12.stored g88 hB7 (by decide)
        replace ho62r := ho62r.stored g88 hB7 (by decide) (by decide)
        replace ho85 := ho85.stored g88 hB7 (by decide)
        replace hB7 := hB89
        refine Sq.nil ?_
        refine Eq.goes (fun h => absurd h (by decide)) ?_
        refine Gq.done (by kernel_rfl) ?_
        refine Eq.end ?_
        refine Eq.next ?_
        refine Cq.region ?_
        refine Sq.move .plain rfl rfl ?_
        refine Sq.add .plain rfl rfl rfl (by omega) ?_
        refine Sq.assign .plain rfl rfl ?_
        refine Sq.nil ?_
        refine Eq.round _ _ ⟨i + 1, _, _, _, _, rfl, by omega, hB7, OwnRows.now ho62r, Own.snocB ho85, ⟨by simp; omega, by simp; omega, all_app hxl.2.2 (by omega)⟩, E, hB4, ho12, rfl⟩ (by omega) (.cons rfl (.cons rfl (.cons rfl (.cons rfl (.cons rfl (.nil))))))
      refine Sq.notF .plain rfl rfl ?_
      refine Sq.nil ?_
      refine Eq.next ?_
      refine Cq.thn rfl ?_
      refine Cq.seq ?_
      refine Cq.region ?_
      refine Sq.build st26 rfl rfl .plain rfl rfl one_nil rfl ?_
      refine Sq.storeAgg agg26 .plain rfl rfl (one_cons rfl (one_cons rfl (one_cons rfl one_nil))) hB4 rfl rfl (fun w91 g92 hB93 => ?_)
      have hs94 := World.grownBy.size g92
      replace E := E.grown g92 (fun k hk => by injection hk with hk; subst hk; omega)
      replace hB4 := hB93
      refine Sq.assign .plain rfl rfl ?_
      refine Sq.nil ?_
      refine Eq.next ?_
      refine Cq.ret ?_
      refine Eq.pastRet ?_
      refine Eq.outRet ?_
      refine Eq.pastRet ?_
      refine Eq.pastRet ?_
      refine Eq.outRet ?_
      refine Eq.pastRet ?_
      refine Eq.retCell2 rfl rfl agg26 hB4 rfl rfl ?_
      exact ⟨⟨_, _, zeroA, rfl, ⟨_, _, rfl, OwnRows.nil _ _ _ _ _, Own.nil _ _ _⟩, by refine ⟨?_, ?_, ?_, ?_⟩ <;> simp [zeroA], by simp [zeroA]⟩, E⟩
    refine Sq.nil ?_
    refine Eq.next ?_
    refine Cq.els rfl ?_
    refine Cq.exit ?_
    refine Eq.past ?_
    refine Eq.past ?_
    refine Eq.hit ?_
    refine Eq.next ?_
    refine Cq.seq ?_
    refine Cq.seq ?_
    refine Cq.region ?_
    refine Sq.loadAgg agg26 .plain rfl rfl hB7 rfl ?_
    have hd100 := hB4.lt
    have hd101 := hB7.lt
    refine Sq.call fn113 .plain rfl rfl (fmtA_c _ (⟨n21, xss, ys⟩ : A) _ _ (OwnRows.rows hor) (Own.row hoa)) ?_
    rintro _ w96 ⟨⟨s98, rfl, hs99⟩, e97⟩
    have hs102 := Below.size E
    have hs103 := Below.size e97
    replace E := E.trans e97
    replace hB4 := hB4.ext e97
    replace hB7 := hB7.ext e97
    replace hor := hor.ext e97
    replace hoa := hoa.ext e97
    refine Sq.move .plain rfl rfl ?_
    refine Sq.neqS .plain rfl rfl rfl ?_
    refine Sq.part (fun c104 => ?_) (fun c104 => ?_)
    · refine Sq.nil ?_
      refine Eq.next ?_
      refine Cq.thn rfl ?_
      refine Cq.seq ?_
      refine Cq.region ?_
      refine Sq.build st26 rfl rfl .plain rfl rfl one_nil rfl ?_
      refine Sq.storeAgg agg26 .plain rfl rfl (one_cons rfl (one_cons rfl (one_cons rfl one_nil))) hB4 rfl rfl (fun w105 g106 hB107 => ?_)
      have hs108 := World.grownBy.size g106
      replace E := E.grown g106 (fun k hk => by injection hk with hk; subst hk; omega)
      replace hB4 := hB107
      refine Sq.assign .plain rfl rfl ?_
      refine Sq.nil ?_
      refine Eq.next ?_
      refine Cq.ret ?_
      refine Eq.pastRet ?_
      refine Eq.retCell2 rfl rfl agg26 hB4 rfl rfl ?_
      exact ⟨⟨_, _, zeroA, rfl, ⟨_, _, rfl, OwnRows.nil _ _ _ _ _, Own.nil _ _ _⟩, by refine ⟨?_, ?_, ?_, ?_⟩ <;> simp [zeroA], by simp [zeroA]⟩, E⟩
    refine Sq.nil ?_
    refine Eq.next ?_
    refine Cq.els rfl ?_
    refine Cq.skip ?_
    refine Eq.next ?_
    refine Cq.seq ?_
    refine Cq.region ?_
    refine Sq.loadAgg agg26 .plain rfl rfl hB7 rfl ?_
    refine Sq.storeAgg agg26 .plain rfl rfl (one_cons rfl (one_cons (Rows.one (OwnRows.rows hor)) (one_cons (Row.one (Own.row hoa)) one_nil))) hB4 rfl rfl (fun w109 g110 hB111 => ?_)
    have hs112 := World.grownBy.size g110
    replace E := E.grown g110 (fun k hk => by injection hk with hk; subst hk; omega)
    replace hor := hor.stored g110 hB4 (by decide) (by decide)
    replace hoa := hoa.stored g110 hB4 (by decide)
    replace hB4 := hB111
    refine Sq.assign .plain rfl rfl ?_
    refine Sq.nil ?_
    refine Eq.next ?_
    refine Cq.ret ?_
    refine Eq.retCell2 rfl rfl agg26 hB4 rfl rfl ?_
    exact ⟨⟨_, _, ⟨n21, xss, ys⟩, rfl, ⟨_, _, rfl, OwnRows.now hor, hoa⟩, by refine ⟨?_, ?_, ?_, ?_⟩ <;> first | (show -1000 ≤ n21 ∧ n21 ≤ 1000; omega) | (show xss.length ≤ 200; omega) | (show ys.length ≤ 200; omega) | (intro row hr; have := hxl.2.2 row hr; omega), by show 0 ≤ n21 ∧ n21 ≤ 63; omega⟩, E⟩
  refine Sq.notF .plain rfl rfl ?_
  refine Sq.nil ?_
  refine Eq.next ?_
  refine Cq.thn rfl ?_
  refine Cq.seq ?_
  refine Cq.region ?_
  refine Sq.build st26 rfl rfl .plain rfl rfl one_nil rfl ?_
  refine Sq.storeAgg agg26 .plain rfl rfl (one_cons rfl (one_cons rfl (one_cons rfl one_nil))) hB4 rfl rfl (fun w113 g114 hB115 => ?_)
  have hs116 := World.grownBy.size g114
  replace E := E.grown g114 (fun k hk => by injection hk with hk; subst hk; omega)
  replace hB4 := hB115
  refine Sq.assign .plain rfl rfl ?_
  refine Sq.nil ?_
  refine Eq.next ?_
  refine Cq.ret ?_
  refine Eq.pastRet ?_
  refine Eq.retCell2 rfl rfl agg26 hB4 rfl rfl ?_
  exact ⟨⟨_, _, zeroA, rfl, ⟨_, _, rfl, OwnRows.nil _ _ _ _ _, Own.nil _ _ _⟩, by refine ⟨?_, ?_, ?_, ?_⟩ <;> simp [zeroA], by simp [zeroA]⟩, E⟩
set_option maxRecDepth 100000 in
theorem l3Texts_c (w0 : World) : Ret Try.prog 86 #[] w0 (fun v w => (∃ xs : List ByteArray, Own w w0.heap.size 9 v (xs.map Value.string) ∧ xs.length = 12 ∧ ∀ x ∈ xs, x.size ≤ 60) ∧ Ext w0 w) := by
  have E := Ext.refl w0
  refine Ret.of (args := []) Try.func86 rfl rfl rfl ?_
  rintro _ rfl
  show Cq _ _ _ _ [] _
  refine Cq.seq ?_
  refine Cq.region ?_
  refine Sq.assign .plain rfl rfl ?_
  refine Sq.nil ?_
  refine Eq.next ?_
  refine Cq.seq ?_
  refine Cq.region ?_
  refine Sq.lit sl91 rfl rfl .plain rfl rfl (one_cons rfl (one_cons rfl (one_cons rfl (one_cons rfl (one_cons rfl (one_cons rfl (one_cons rfl (one_cons rfl (one_cons rfl (one_cons rfl (one_cons rfl (one_cons rfl one_nil)))))))))))) (fun b1 w2 e3 hlo4 ho5 _ => ?_)
  replace ho5 := ho5 w0.heap.size (Nat.le_refl _)
  have hs7 := Below.size e3
  replace E := E.trans e3
  refine Sq.assign .plain rfl rfl ?_
  refine Sq.nil ?_
  refine Eq.next ?_
  refine Cq.ret ?_
  refine Eq.ret1 rfl rfl ?_
  exact ⟨⟨([(⟨#[97, 98, 32, 43, 49, 44, 48, 32, 45, 49, 44, 49]⟩ : ByteArray), (⟨#[97, 98, 32, 43, 48, 44, 49, 32, 43, 50, 44, 49, 32, 45, 50, 44, 50]⟩ : ByteArray), (⟨#[97, 99, 32, 43, 49, 44, 50, 32, 43, 49, 44, 50, 32, 45, 50, 44, 50]⟩ : ByteArray), (⟨#[98, 32, 43, 49, 32, 45, 49]⟩ : ByteArray), (⟨#[97, 98, 99, 32, 43, 49, 44, 48, 44, 50, 32, 43, 50, 44, 48, 44, 49, 32, 45, 50, 44, 50, 44, 50]⟩ : ByteArray), (⟨#[45, 32, 43]⟩ : ByteArray), (⟨#[45, 32, 45]⟩ : ByteArray), (⟨#[97, 32, 43, 49, 32, 45, 48]⟩ : ByteArray), (⟨#[97, 98, 32, 43, 48, 44, 49, 32, 45, 48, 44, 49]⟩ : ByteArray), (⟨#[98, 99, 32, 43, 49, 44, 50, 32, 43, 50, 44, 48, 32, 45, 50, 44, 50]⟩ : ByteArray), (⟨#[97, 98, 32, 43, 49, 44, 50, 32, 45, 49, 44, 51, 32, 43, 52, 44, 50, 32, 45, 49, 44, 51, 32, 43, 52, 44, 50]⟩ : ByteArray), (⟨#[97, 98, 99, 32, 43, 48, 44, 49, 44, 48, 32, 43, 48, 44, 49, 44, 50, 32, 45, 50, 44, 50, 44, 50]⟩ : ByteArray)] : List ByteArray), Own.mono ho5 (by omega), rfl, all_size (by decide)⟩, E⟩
set_option maxRecDepth 100000 in
theorem open_c (w0 : World) (e : TypeId) (a0 : Option Addr) (c0 : Nat) (cs : List UInt8) (hc : Bytes w0 e (.slice a0 cs.length c0) cs) (hcap : cs.length ≤ c0) : Ret Try.prog 41 #[Value.slice a0 cs.length c0] w0 (fun v w => (∃ rb bv bs, v = .pointer (some ⟨rb, 0, none⟩) ∧ w0.heap.size ≤ rb ∧ Blk w rb 88 [bv, .int .i64 0] ∧ Src w e bv bs rb ∧ bs.length ≤ 2000) ∧ Ext w0 w) := by
  have E := Ext.refl w0
  refine Ret.of (args := [Value.slice a0 cs.length c0]) Try.func41 rfl rfl rfl ?_
  rintro _ rfl
  show Cq _ _ _ _ [(0, Value.slice a0 cs.length c0)] _
  refine Cq.seq ?_
  refine Cq.region ?_
  refine Sq.assign .plain rfl rfl ?_
  refine Sq.nil ?_
  refine Eq.next ?_
  refine Cq.seq ?_
  refine Cq.seq ?_
  refine Cq.region ?_
  refine Sq.move .plain rfl rfl ?_
  refine Sq.lenBytes (hc.ext E) .plain rfl und22 rfl ?_
  refine Sq.gtr .plain rfl rfl rfl ?_
  refine Sq.part (fun c1 => ?_) (fun c1 => ?_)
  · refine Sq.nil ?_
    refine Eq.next ?_
    refine Cq.thn rfl ?_
    refine Cq.region ?_
    refine Sq.move .plain rfl rfl ?_
    refine Sq.cutBytes sl22 hc hcap (by omega) .plain rfl rfl rfl (fun bv0 hbv0 => ?_)
    refine Sq.assign .plain rfl rfl ?_
    refine Sq.nil ?_
    refine Eq.next ?_
    refine Cq.seq ?_
    refine Cq.region ?_
    refine Sq.move .plain rfl rfl ?_
    refine Sq.build st88 rfl rfl .plain rfl rfl (one_cons (Row.one (hbv0.ext E)) one_nil) rfl ?_
    refine Sq.box .plain rfl rfl (fun b2 w3 e4 hB5 hlo6 => ?_)
    have hd7 := Nat.le_trans (Below.size E) hlo6
    have hs8 := Below.size e4
    replace E := E.trans e4
    refine Sq.assign .plain rfl rfl ?_
    refine Sq.nil ?_
    refine Eq.next ?_
    refine Cq.ret ?_
    refine Eq.ret1 rfl rfl ?_
    exact ⟨⟨_, _, (cs.take (2000 : Int).toNat), rfl, by omega, hB5, Src.of hbv0 E (by omega), by rw [List.length_take]; omega⟩, E⟩
  refine Sq.nil ?_
  refine Eq.next ?_
  refine Cq.els rfl ?_
  refine Cq.skip ?_
  refine Eq.next ?_
  refine Cq.seq ?_
  refine Cq.region ?_
  refine Sq.move .plain rfl rfl ?_
  refine Sq.build st88 rfl rfl .plain rfl rfl (one_cons (Row.one (hc.ext E)) one_nil) rfl ?_
  refine Sq.box .plain rfl rfl (fun b9 w10 e11 hB12 hlo13 => ?_)
  have hd14 := Nat.le_trans (Below.size E) hlo13
  have hs15 := Below.size e11
  replace E := E.trans e11
  refine Sq.assign .plain rfl rfl ?_
  refine Sq.nil ?_
  refine Eq.next ?_
  refine Cq.ret ?_
  refine Eq.ret1 rfl rfl ?_
  exact ⟨⟨_, _, cs, rfl, by omega, hB12, Src.of hc E (by omega), by omega⟩, E⟩
set_option maxRecDepth 100000 in
theorem l3Draw_c (w0 : World) (rb : Nat) (bv : Value) (p : Int) (bs : List UInt8) (e0 : TypeId) (hR : Blk w0 rb 88 [bv, .int .i64 p]) (hb : Src w0 e0 bv bs rb) (hbl : bs.length ≤ 2000) (hp : 0 ≤ p ∧ p ≤ 500000000) : Ret Try.prog 42 #[Value.pointer (some ⟨rb, 0, none⟩)] w0 (fun v w => (∃ p', (p ≤ p' ∧ p' ≤ p + 300) ∧ Blk w rb 88 [bv, .int .i64 p'] ∧ w0.grownBy w (some rb)) ∧ ∃ a, RowsA w v a ∧ Small 200 a ∧ 0 ≤ a.al ∧ a.al ≤ 63) := by
  have G := World.grownBy.refl w0 (some rb)
  have hlt := hR.lt
  refine Ret.of (args := [Value.pointer (some ⟨rb, 0, none⟩)]) Try.func42 rfl rfl rfl ?_
  rintro _ rfl
  show Cq _ _ _ _ [(0, Value.pointer (some ⟨rb, 0, none⟩))] _
  refine Cq.seq ?_
  refine Cq.region ?_
  refine Sq.alloc zero26 .plain rfl (fun b1 w2 e3 hB4 hlo5 => ?_)
  have hd6 := Nat.lt_of_lt_of_le hR.lt hlo5
  have hd7 := Nat.le_trans (World.grownBy.size G) hlo5
  have hs8 := Below.size e3
  replace hR := hR.ext e3
  replace G := grown_trans G (Ext.to_grown e3 _)
  refine Sq.nil ?_
  refine Eq.next ?_
  refine Cq.seq ?_
  refine Cq.seq ?_
  refine Cq.region ?_
  refine Sq.move .plain rfl rfl ?_
  refine Sq.call fn43 .plain rfl rfl (pick_c _ _ _ _ _ _ hR (hb.go G) hbl (by omega) 3 (by omega)) ?_
  rintro _ w10 ⟨⟨p11, hp14, hB13, g12⟩, ⟨k15, rfl, hk16⟩⟩
  have hs17 := World.grownBy.size g12
  have hs18 := World.grownBy.size G
  have hs19 := World.grownBy.size g12
  replace G := grown_trans G g12
  replace hB4 := hB4.grown g12 (by intro h; injection h with h; omega)
  replace hR := hB13
  refine Sq.eql .plain rfl rfl rfl ?_
  refine Sq.part (fun c20 => ?_) (fun c20 => ?_)
  · refine Sq.nil ?_
    refine Eq.next ?_
    refine Cq.thn rfl ?_
    refine Cq.seq ?_
    refine Cq.region ?_
    refine Sq.move .plain rfl rfl ?_
    have hd28 := hR.lt
    have hd29 := hB4.lt
    refine Sq.call fn86 .plain rfl rfl (l3Texts_c _) ?_
    rintro v21 w22 ⟨⟨xs24, ho25, hl26, hxs27⟩, e23⟩
    have hs30 := World.grownBy.size G
    have hs31 := Below.size e23
    replace hR := hR.ext e23
    replace G := grown_trans G (Ext.to_grown e23 _)
    replace hB4 := hB4.ext e23
    refine Sq.call fn85 .plain rfl rfl (of_c _ _ _ _ _ _ hR (hb.go G) hbl (by omega) _ xs24 (Own.row ho25) (by first | omega | simp)) ?_
    rintro _ w33 ⟨⟨p34, hp37, hB36, g35⟩, ⟨s38, rfl, hm39⟩⟩
    have hs40 := World.grownBy.size g35
    have hs41 := World.grownBy.size G
    have hs42 := World.grownBy.size g35
    replace G := grown_trans G g35
    replace hB4 := hB4.grown g35 (by intro h; injection h with h; omega)
    replace hR := hB36
    have hd55 := hR.lt
    have hd56 := hB4.lt
    refine Sq.call fn84 .plain rfl rfl (parseA_c s38 (by have := hxs27 _ hm39; omega) _) ?_
    rintro _ w44 ⟨⟨u46, ok47, a48, rfl, ⟨nx49, ac50, rfl, hn51, ha52⟩, hsm53, hal54⟩, e45⟩
    have hs57 := World.grownBy.size G
    have hs58 := Below.size e45
    replace hR := hR.ext e45
    replace G := grown_trans G (Ext.to_grown e45 _)
    replace hB4 := hB4.ext e45
    refine Sq.move .plain rfl rfl ?_
    refine Sq.extract .plain rfl rfl rfl ?_
    refine Sq.extract .plain rfl rfl rfl ?_
    refine Sq.alloc zero26 .plain rfl (fun b59 w60 e61 hB62 hlo63 => ?_)
    have hd64 := Nat.lt_of_lt_of_le hR.lt hlo63
    have hd65 := Nat.le_trans (World.grownBy.size G) hlo63
    have hd66 := Nat.lt_of_lt_of_le hB4.lt hlo63
    have hs67 := Below.size e61
    replace hR := hR.ext e61
    replace G := grown_trans G (Ext.to_grown e61 _)
    replace hB4 := hB4.ext e61
    replace hn51 := hn51.ext e61
    replace ha52 := ha52.ext e61
    refine Sq.storeAgg agg26 .plain rfl rfl (one_cons rfl (one_cons (Rows.one (OwnRows.rows hn51)) (one_cons (Row.one (Own.row ha52)) one_nil))) hB62 rfl rfl (fun w68 g69 hB70 => ?_)
    have hs71 := World.grownBy.size g69
    replace hR := hR.grown g69 (by intro h; injection h with h; omega)
    replace G := grown_far G g69 (fun k hk => by injection hk with hk; subst hk; omega)
    replace hB4 := hB4.grown g69 (by intro h; injection h with h; omega)
    replace hn51 := hn51.stored g69 hB62 (by decide) (by decide)
    replace ha52 := ha52.stored g69 hB62 (by decide)
    replace hB62 := hB70
    refine Sq.assign .plain rfl rfl ?_
    refine Sq.nil ?_
    refine Eq.next ?_
    refine Cq.seq ?_
    refine Cq.region ?_
    refine Sq.move .plain rfl rfl ?_
    refine Sq.partB (fun c72 => ?_) (fun c72 => ?_)
    · refine Sq.nil ?_
      refine Eq.next ?_
      refine Cq.thn rfl ?_
      refine Cq.seq ?_
      refine Cq.region ?_
      refine Sq.loadAgg agg26 .plain rfl rfl hB62 rfl ?_
      refine Sq.storeAgg agg26 .plain rfl rfl (one_cons rfl (one_cons (Rows.one (OwnRows.rows hn51)) (one_cons (Row.one (Own.row ha52)) one_nil))) hB4 rfl rfl (fun w73 g74 hB75 => ?_)
      have hs76 := World.grownBy.size g74
      replace hR := hR.grown g74 (by intro h; injection h with h; omega)
      replace G := grown_far G g74 (fun k hk => by injection hk with hk; subst hk; omega)
      replace hn51 := hn51.stored g74 hB4 (by decide) (by decide)
      replace ha52 := ha52.stored g74 hB4 (by decide)
      replace hB4 := hB75
      refine Sq.nil ?_
      refine Eq.next ?_
      refine Cq.ret ?_
      refine Eq.pastRet ?_
      refine Eq.retCell rfl rfl agg26 hB4 rfl ?_
      exact ⟨⟨_, by omega, hR, G⟩, _, ⟨_, _, rfl, (OwnRows.rows hn51), (Own.row ha52)⟩, by first | exact (Small.of hsm53).mono (by omega) | exact Small.mono hsm53 (by omega) | exact (Small.of hsm53).mono (by omega) | exact Small.mono hsm53 (by omega), by omega⟩
    refine Sq.nil ?_
    refine Eq.next ?_
    refine Cq.els rfl ?_
    refine Cq.skip ?_
    refine Eq.next ?_
    refine Cq.seq ?_
    refine Cq.region ?_
    refine Sq.move .plain rfl rfl ?_
    refine Sq.move .plain rfl rfl ?_
    refine Sq.lit sl56 rfl rfl .plain rfl rfl (one_cons rfl (one_cons rfl (one_cons rfl (one_cons rfl (one_cons rfl (one_cons rfl (one_cons rfl one_nil))))))) (fun b77 w78 e79 hlo80 ho81 _ => ?_)
    replace ho81 := ho81 w68.heap.size (Nat.le_refl _)
    have hs83 := Below.size e79
    replace hR := hR.ext e79
    replace G := grown_trans G (Ext.to_grown e79 _)
    replace hB4 := hB4.ext e79
    refine Sq.call fn47 .plain rfl rfl (num_c _ _ _ _ _ _ hR (hb.go G) hbl (by omega) _ [3, 6, 7, 5, 1, 0, 2] (Own.row ho81) (by simp)) ?_
    rintro _ w85 ⟨⟨p86, hp89, hB88, g87⟩, ⟨k90, rfl, hm91⟩⟩
    have hs92 := World.grownBy.size g87
    have hs93 := World.grownBy.size G
    have hs94 := World.grownBy.size g87
    replace G := grown_trans G g87
    replace hB4 := hB4.grown g87 (by intro h; injection h with h; omega)
    replace hR := hB88
    simp only [List.mem_cons, List.not_mem_nil, or_false] at hm91
    refine Sq.call fn87 .plain rfl rfl (l3Over_c _ _ _ _ _ _ hR (hb.go G) hbl (by omega) k90 (by omega)) ?_
    rintro _ w96 ⟨⟨p97, hp100, hB99, g98⟩, ⟨a101, ⟨nx102, ac103, rfl, hn104, ha105⟩, hv106, hal107⟩⟩
    have hs108 := World.grownBy.size g98
    have hs109 := World.grownBy.size G
    have hs110 := World.grownBy.size g98
    replace G := grown_trans G g98
    replace hB4 := hB4.grown g98 (by intro h; injection h with h; omega)
    replace hR := hB99
    refine Sq.storeAgg agg26 .plain rfl rfl (one_cons rfl (one_cons (Rows.one (OwnRows.rows hn104)) (one_cons (Row.one (Own.row ha105)) one_nil))) hB4 rfl rfl (fun w111 g112 hB113 => ?_)
    have hs114 := World.grownBy.size g112
    replace hR := hR.grown g112 (by intro h; injection h with h; omega)
    replace G := grown_far G g112 (fun k hk => by injection hk with hk; subst hk; omega)
    replace hn104 := hn104.stored g112 hB4 (by decide) (by decide)
    replace ha105 := ha105.stored g112 hB4 (by decide)
    replace hB4 := hB113
    refine Sq.nil ?_
    refine Eq.next ?_
    refine Cq.ret ?_
    refine Eq.retCell rfl rfl agg26 hB4 rfl ?_
    exact ⟨⟨_, by omega, hR, G⟩, _, ⟨_, _, rfl, (OwnRows.rows hn104), (Own.row ha105)⟩, by first | exact (Small.of hv106).mono (by omega) | exact Small.mono hv106 (by omega) | exact (Small.of hsm53).mono (by omega) | exact Small.mono hsm53 (by omega) | exact (Small.of hsm53).mono (by omega) | exact Small.mono hsm53 (by omega), by omega⟩
  refine Sq.nil ?_
  refine Eq.next ?_
  refine Cq.els rfl ?_
  refine Cq.skip ?_
  refine Eq.next ?_
  refine Cq.seq ?_
  refine Cq.region ?_
  refine Sq.move .plain rfl rfl ?_
  refine Sq.move .plain rfl rfl ?_
  refine Sq.lit sl56 rfl rfl .plain rfl rfl (one_cons rfl (one_cons rfl (one_cons rfl (one_cons rfl (one_cons rfl (one_cons rfl (one_cons rfl one_nil))))))) (fun b115 w116 e117 hlo118 ho119 _ => ?_)
  replace ho119 := ho119 w10.heap.size (Nat.le_refl _)
  have hs121 := Below.size e117
  replace hR := hR.ext e117
  replace G := grown_trans G (Ext.to_grown e117 _)
  replace hB4 := hB4.ext e117
  refine Sq.call fn47 .plain rfl rfl (num_c _ _ _ _ _ _ hR (hb.go G) hbl (by omega) _ [3, 6, 7, 5, 1, 0, 2] (Own.row ho119) (by simp)) ?_
  rintro _ w123 ⟨⟨p124, hp127, hB126, g125⟩, ⟨k128, rfl, hm129⟩⟩
  have hs130 := World.grownBy.size g125
  have hs131 := World.grownBy.size G
  have hs132 := World.grownBy.size g125
  replace G := grown_trans G g125
  replace hB4 := hB4.grown g125 (by intro h; injection h with h; omega)
  replace hR := hB126
  simp only [List.mem_cons, List.not_mem_nil, or_false] at hm129
  refine Sq.call fn87 .plain rfl rfl (l3Over_c _ _ _ _ _ _ hR (hb.go G) hbl (by omega) k128 (by omega)) ?_
  rintro _ w134 ⟨⟨p135, hp138, hB137, g136⟩, ⟨a139, ⟨nx140, ac141, rfl, hn142, ha143⟩, hv144, hal145⟩⟩
  have hs146 := World.grownBy.size g136
  have hs147 := World.grownBy.size G
  have hs148 := World.grownBy.size g136
  replace G := grown_trans G g136
  replace hB4 := hB4.grown g136 (by intro h; injection h with h; omega)
  replace hR := hB137
  refine Sq.storeAgg agg26 .plain rfl rfl (one_cons rfl (one_cons (Rows.one (OwnRows.rows hn142)) (one_cons (Row.one (Own.row ha143)) one_nil))) hB4 rfl rfl (fun w149 g150 hB151 => ?_)
  have hs152 := World.grownBy.size g150
  replace hR := hR.grown g150 (by intro h; injection h with h; omega)
  replace G := grown_far G g150 (fun k hk => by injection hk with hk; subst hk; omega)
  replace hn142 := hn142.stored g150 hB4 (by decide) (by decide)
  replace ha143 := ha143.stored g150 hB4 (by decide)
  replace hB4 := hB151
  refine Sq.nil ?_
  refine Eq.next ?_
  refine Cq.ret ?_
  refine Eq.retCell rfl rfl agg26 hB4 rfl ?_
  exact ⟨⟨_, by omega, hR, G⟩, _, ⟨_, _, rfl, (OwnRows.rows hn142), (Own.row ha143)⟩, by first | exact (Small.of hv144).mono (by omega) | exact Small.mono hv144 (by omega) | exact (Small.of hv106).mono (by omega) | exact Small.mono hv106 (by omega) | exact (Small.of hsm53).mono (by omega) | exact Small.mono hsm53 (by omega) | exact (Small.of hsm53).mono (by omega) | exact Small.mono hsm53 (by omega), by omega⟩
end Go.Proofs.Ytdejmfkpohgamaa
set_option linter.unusedSimpArgs false
set_option linter.unusedVariables false
namespace Go.Proofs.Ytdejmfkpohgamaa
open Go.RowKit
section
variable {P : Program} {N : Nat} {ops : Array Oper} {Q : Exit → Act → World → Prop} {rest : List Oper} {l : Slots} {w : World}
variable {d : Nat} {ty : TypeId} {pos : String} {after : Array Edge} {g : Option (Nat × Bool)}
theorem Still.makeFunc {k : FuncId} {xs : List Operand} {vs : List Value} (hx : evs l xs = some vs) : Still P N l ⟨some d, .makeFunc (.func k) #[] xs.toArray, ty, pos, after, g⟩ (.func (.func k) #[] vs.toArray) w := fun a ha => by
  have : xs.toArray.map a.eval = vs.toArray := by rw [List.map_toArray, ha.evs hx]
  simp [execOp, Instr.makeFunc, this, ha.evs hx]
theorem Sq.makeFunc {k : FuncId} {xs : List Operand} {vs : List Value} (hg : On ops l g) (hN : Nat.blt d N = true) (hx : evs l xs = some vs) (h : Sq P N ops Q rest ((d, .func (.func k) #[] vs.toArray) :: l) w) :
    Sq P N ops Q (⟨some d, .makeFunc (.func k) #[] xs.toArray, ty, pos, after, g⟩ :: rest) l w := .val hg rfl hN (Still.makeFunc hx) h
theorem Sq.callC {f : FuncId} {fn : Func} {x : Operand} {xs : List Operand} {ats : Array TypeId} {vs cs : List Value} {R : Value → World → Prop} (hf : Fn P f fn) (hg : On ops l g) (hN : Nat.blt d N = true)
    (hc : ev l x = some (.func (.func f) #[] cs.toArray)) (hx : evs l xs = some vs) (hr : Ret P f (vs ++ cs).toArray w R) (h : ∀ v w', R v w' → Sq P N ops Q rest ((d, v) :: l) w') :
    Sq P N ops Q (⟨some d, .call ⟨.value x, xs.toArray, ats⟩, ty, pos, after, g⟩ :: rest) l w := by
  intro a ha
  refine wpList_step fun K hK => ?_
  rw [if_pos (hg.wanted ha)]
  unfold Oper.wp
  have e1 : xs.toArray.map a.eval = vs.toArray := by rw [List.map_toArray, ha.evs hx]
  have e : execOp a.eval ⟨some d, .call ⟨.value x, xs.toArray, ats⟩, ty, pos, after, g⟩ = callFunc f (vs ++ cs).toArray := by
    show (do let d ← resolve a.eval ⟨.value x, xs.toArray, ats⟩ ty; invoke d.target d.args) = _
    unfold resolve
    simp only [e1, ha.ev hc, Deferred.ofValue]
    show invoke (.fn (.func f) cs.toArray) (#[] ++ vs.toArray) = _
    simp [invoke]
  rw [e, run_callFunc hf, Oper.upon_enter]
  refine Calls.mono hr fun e w' he => ?_
  obtain ⟨v, rfl, hv⟩ := he
  exact hK _ _ (h v w' hv _ (ha.put hN))
def MapN {κ : Type} (enc : κ → Value) (w : World) (b : Nat) (xs : List κ) : Prop := ∃ es clock, w.heap[b]? = some (.map es clock) ∧ es.toList.map (fun e => (e.key, e.val)) = xs.zipIdx.map fun p => (enc p.1, Value.int .i64 (p.2 : Int))
variable {κ : Type} {enc : κ → Value} {w' : World} {b : Nat} {xs : List κ}
theorem MapN.lt (h : MapN enc w b xs) : b < w.heap.size := by
  obtain ⟨es, c, hb, _⟩ := h
  exact (Array.getElem?_eq_some_iff.1 hb).1
theorem MapN.ext (h : MapN enc w b xs) (x : Ext w w') : MapN enc w' b xs := by
  obtain ⟨es, c, hb, hx⟩ := h
  exact ⟨es, c, x.heap hb, hx⟩
theorem MapN.grown {r : Option Nat} (h : MapN enc w b xs) (hg : w.grownBy w' r) (hr : r ≠ some b) : MapN enc w' b xs := by
  obtain ⟨es, c, hb, hx⟩ := h
  exact ⟨es, c, by rw [hg.block b (Array.getElem?_eq_some_iff.1 hb).1 (fun e => hr e.symm)]; exact hb, hx⟩
theorem MapN.stored {gb : Nat} {t : TypeId} {cs : List Value} (h : MapN enc w b xs) (hg : w.grownBy w' (some gb)) (hb : Blk w gb t cs) : MapN enc w' b xs := by
  refine h.grown hg (fun e => ?_)
  injection e with e
  subst e
  obtain ⟨es, c, hb', _⟩ := h
  simp only [Blk] at hb
  rw [hb] at hb'
  cases hb'
theorem MapN.owned {B : Nat} {t : TypeId} {u : Value} {us : List Value} (h : MapN enc w b xs) (ho : Own w B t u us) (hg : w.grownBy w' u.ownBlock) : MapN enc w' b xs := by
  rcases ho.cases with ⟨rfl, rfl⟩ | ⟨gb, cap, cs, rfl, hg', hb, _⟩
  · exact h.ext (Ext.of_grown hg)
  · exact h.stored (gb := gb) hg hb
theorem Blk.mapped {bb : Nat} {t : TypeId} {cs : List Value} (h : Blk w bb t cs) (hm : MapN enc w b xs) (hg : w.grownBy w' (some b)) : Blk w' bb t cs := by
  refine h.grown hg (fun e => ?_)
  injection e with e
  subst e
  obtain ⟨es, c, hb', _⟩ := hm
  simp only [Blk] at h
  rw [h] at hb'
  cases hb'
theorem Row.mapped {e : TypeId} {v : Value} {vs : List Value} (h : Row w e v vs) (hm : MapN enc w b xs) (hg : w.grownBy w' (some b)) : Row w' e v vs := by
  rcases h with h | ⟨b', o, c, cur, fr, hv, hb, hx⟩
  · exact .inl h
  · refine .inr ⟨b', o, c, cur, fr, hv, ?_, hx⟩
    rw [hg.block b' (lt_of_block hb) (fun h => ?_)]
    · exact hb
    · injection h with h
      subst h
      obtain ⟨es, cc, hb', _⟩ := hm
      rw [hb] at hb'
      cases hb'
theorem Own.mapped {B : Nat} {e : TypeId} {v : Value} {vs : List Value} (h : Own w B e v vs) (hm : MapN enc w b xs) (hg : w.grownBy w' (some b)) : Own w' B e v vs := by
  rcases h.cases with ⟨rfl, rfl⟩ | ⟨g', cap, cs, rfl, hg', hb, h3, h4, h5, h6⟩
  · exact Own.nil _ _ _
  · exact Own.mk hg' (hb.mapped hm hg) h3 h4 h5 h6
theorem OwnRows.mapped {B U : Nat} {e e' : TypeId} {v : Value} {xss : List (List Int)} (h : OwnRows w B U e e' v xss) (hm : MapN enc w b xs) (hg : w.grownBy w' (some b)) : OwnRows w' B U e e' v xss := by
  obtain ⟨rs, h1, h2, h3, h4⟩ := h
  exact ⟨rs, h1.mapped hm hg, h2, fun i r hr => ⟨(h3 i r hr).1.mapped hm hg, (h3 i r hr).2⟩, h4⟩
theorem Ext.mapped {w1 : World} (h : Ext w1 w) (hg : w.grownBy w' (some b)) (hB : w1.heap.size ≤ b) : Ext w1 w' := h.grown hg fun k hk => by injection hk with hk; omega
theorem Sq.makeMap {t : TypeId} (enc : κ → Value) (hg : On ops l g) (hN : Nat.blt d N = true) (h : ∀ b w', Ext w w' → MapN enc w' b ([] : List κ) → w.heap.size ≤ b → Sq P N ops Q rest ((d, .map (some b)) :: l) w') :
    Sq P N ops Q (⟨some d, .makeMap t none, ty, pos, after, g⟩ :: rest) l w :=
  .val (w' := w.alloc (.map #[] 0)) hg rfl hN (fun a ha => by simp [execOp, Instr.makeMap, run_makeMap]) (h _ _ (Ext.alloc _ _) ⟨#[], 0, heap_alloc_new w _, rfl⟩ (Nat.le_refl _))
structure KeyT [DecidableEq κ] (P : Program) (t : TypeId) (enc : κ → Value) : Prop where
  types : ∃ kt et kd, P.underlying t = some (.map kt et) ∧ P.underlying kt = some kd ∧ (∀ x y, Instr.sameNow kd (enc x) (enc y) = some (decide (x = y))) ∧ (∀ w, (zeroValue et).run P w = .ok (.int .i64 0) w) ∧ ∀ x, MapKept.IsKey kd (enc x)
variable [DecidableEq κ]
theorem findNow_num {kd : TypeDesc} (hk : ∀ x y, Instr.sameNow kd (enc x) (enc y) = some (decide (x = y))) (k : κ) : ∀ (es : List MapEntry) (xs : List κ) (j s : Nat), es.map (fun e => (e.key, e.val)) = (xs.zipIdx s).map (fun p => (enc p.1, Value.int .i64 (p.2 : Int))) →
    Instr.findNow kd (enc k) es j = some (if k ∈ xs then some (j + xs.idxOf k, .int .i64 ((s + xs.idxOf k : Nat) : Int)) else none)
  | [], xs, j, s, h => by
    have : xs = [] := by cases xs with | nil => rfl | cons x r => simp at h
    subst this
    simp [Instr.findNow]
  | e :: es, xs, j, s, h => by
    cases xs with
    | nil => simp at h
    | cons x r =>
      simp only [List.map_cons, List.zipIdx_cons, List.cons.injEq, Prod.mk.injEq] at h
      obtain ⟨⟨h1, h2⟩, h3⟩ := h
      have ih := findNow_num hk k es r (j + 1) (s + 1) h3
      unfold Instr.findNow
      rw [h1, hk]
      by_cases hx : k = x
      · subst hx
        simp [h2]
      · have hx' : (x == k) = false := by simpa using fun h => hx h.symm
        rw [decide_eq_false hx]
        show Instr.findNow kd (enc k) es (j + 1) = _
        rw [ih]
        by_cases hm : k ∈ r
        · rw [if_pos hm, if_pos (List.mem_cons_of_mem _ hm), List.idxOf_cons, hx']
          simp only [cond_false]
          congr 3
          · omega
          · congr 1; omega
        · rw [if_neg hm, if_neg (by simp [hx, hm])]
theorem findKey_num {kt : TypeId} {kd : TypeDesc} (hd : P.underlying kt = some kd) (hk : ∀ x y, Instr.sameNow kd (enc x) (enc y) = some (decide (x = y))) (k : κ) {es : Array MapEntry} (h : es.toList.map (fun e => (e.key, e.val)) = xs.zipIdx.map (fun p => (enc p.1, Value.int .i64 (p.2 : Int)))) :
    (Instr.findKey kt (enc k) es.toList).run P w = .ok (if k ∈ xs then some (xs.idxOf k, .int .i64 (xs.idxOf k : Int)) else none) w := by
  have := findNow_num hk k es.toList xs 0 0 h
  simp only [Nat.zero_add] at this
  simp [Instr.findKey, run_underlying hd, this]
theorem Still.lookup {t : TypeId} {m x : Operand} {k : κ} (ht : KeyT P t enc) (hm : MapN enc w b xs) (hx : ev l m = some (.map (some b))) (hk : ev l x = some (enc k)) :
    Still P N l ⟨some d, .lookup t m x true, ty, pos, after, g⟩ (.tuple #[.int .i64 (if k ∈ xs then (xs.idxOf k : Int) else 0), .bool (decide (k ∈ xs))]) w := fun a ha => by
  obtain ⟨kt, et, kd, h1, h2, h3, h4, h5⟩ := ht.types
  obtain ⟨es, c, hb, hes⟩ := hm
  have hf := findKey_num (P := P) (w := w) h2 h3 k hes
  by_cases hin : k ∈ xs
  · rw [if_pos hin] at hf
    simp [execOp, Instr.lookup, ha.ev hx, ha.ev hk, run_underlying h1, MapKept.run_getObj_map hb, MapKept.run_checkKey h2 (h5 k), hf, hin, Result.andThen]
  · rw [if_neg hin] at hf
    simp [execOp, Instr.lookup, ha.ev hx, ha.ev hk, run_underlying h1, MapKept.run_getObj_map hb, MapKept.run_checkKey h2 (h5 k), hf, hin, h4, Result.andThen]
theorem Sq.lookup {t : TypeId} {m x : Operand} {k : κ} (ht : KeyT P t enc) (hm : MapN enc w b xs) (hg : On ops l g) (hN : Nat.blt d N = true) (hx : ev l m = some (.map (some b))) (hk : ev l x = some (enc k))
    (h : Sq P N ops Q rest ((d, .tuple #[.int .i64 (if k ∈ xs then (xs.idxOf k : Int) else 0), .bool (decide (k ∈ xs))]) :: l) w) : Sq P N ops Q (⟨some d, .lookup t m x true, ty, pos, after, g⟩ :: rest) l w := .val hg rfl hN (Still.lookup ht hm hx hk) h
theorem Sq.mapUpdate {t : TypeId} {m x y : Operand} {k : κ} {n : Int} (ht : KeyT P t enc) (hm : MapN enc w b xs) (hg : On ops l g) (hx : ev l m = some (.map (some b))) (hk : ev l x = some (enc k)) (hy : ev l y = some (.int .i64 n)) (hn : n = xs.length) (hin : k ∉ xs)
    (h : ∀ w', w.grownBy w' (some b) → MapN enc w' b (xs ++ [k]) → Sq P N ops Q rest l w') : Sq P N ops Q (⟨none, .mapUpdate t m x y, ty, pos, after, g⟩ :: rest) l w := by
  obtain ⟨kt, et, kd, h1, h2, h3, h4, h5⟩ := ht.types
  obtain ⟨es, c, hb, hes⟩ := hm
  have hf := findKey_num (P := P) (w := w) h2 h3 k hes
  rw [if_neg hin] at hf
  have hs := MapKept.heap_set (o' := .map (es.push { key := enc k, val := .int .i64 n, born := c }) (c + 1)) hb
  refine .unit (w' := { w with heap := w.heap.setIfInBounds b (.map (es.push { key := enc k, val := .int .i64 n, born := c }) (c + 1)) }) hg rfl (fun a ha => ?_) (h _ ⟨rfl, rfl, rfl, by simp, fun j _ hne => hs.2 j (fun e => hne (congrArg some e))⟩ ⟨_, _, hs.1, ?_⟩)
  · simp [execOp, Instr.mapUpdate, ha.ev hx, ha.ev hk, ha.ev hy, run_underlying h1, MapKept.run_getObj_map hb, MapKept.run_checkKey h2 (h5 k), hf, MapKept.run_setObj_map _ hb, Result.andThen]
  · rw [Array.toList_push, List.map_append, hes, List.zipIdx_append, List.map_append, hn]
    simp
def Apart (v u : Value) : Prop := ∀ k, v.ownBlock = some k → u.ownBlock ≠ some k
theorem Apart.symm {v u : Value} (h : Apart v u) : Apart u v := fun k hk hc => h k hc hk
theorem Apart.nil (u : Value) : Apart (.slice none 0 0) u := fun k hk => by cases hk
theorem Apart.grow {v v' u : Value} {B : Nat} {e : TypeId} {us : List Value} (h : Apart v u) (ho : Own w B e u us) (hf : ∀ k, v'.ownBlock = some k → v.ownBlock = some k ∨ w.heap.size ≤ k) : Apart v' u := fun k hk hc => by
  rcases hf k hk with h1 | h1
  · exact h k h1 hc
  · have := (ho.lt k hc).2; omega
theorem Own.other {B : Nat} {e : TypeId} {v u : Value} {vs : List Value} (h : Own w B e v vs) (hg : w.grownBy w' u.ownBlock) (ha : Apart u v) : Own w' B e v vs := h.grown hg fun k hk hc => ha k hc hk
theorem fresh_of {B n m size c : Nat} {t e : TypeId} {i : TypeInfo} {z : Value} {v v' : Value} {xs news : List Value} {ad : Addr} {w'' : World} (ht : P.underlying t = some (.slice e)) (hi : P.info? e = some i) (hz : i.zero = some z) (hsize : i.size = size)
    (hown : w.ownsRow B e size v n xs) (hl : news.length = m * size) (hnews : ∀ j u, news[j]? = some u → w.cell? (ad.add j) = some u) (h1 : ∀ u ∈ news, u.oneCell' = true) (h63 : n + m ≤ maxLen) (hbytes : (n + m) * i.bytes ≤ 140737488355328) (hm : 0 < m)
    (hr : (Builtin.append_ #[t, t] ty #[v, .slice (some ad) m c]).run P w = .ok v' w'') : ∀ k, v'.ownBlock = some k → v.ownBlock = some k ∨ w.heap.size ≤ k := by
  subst hsize
  have h63' : n + m ≤ 9223372036854775807 := by simp only [maxLen] at h63; omega
  intro k hk
  rcases hown.2 with ⟨rfl, rfl⟩ | ⟨gb, cap, cur, rfl, hbg, hgg, hnc, hcm, hcs, htake⟩
  · have e2 := run_append_nil (P := P) w t ty e i z ht hi hz ad m c news hl hnews (by omega) (by omega) (Nat.le_trans (by simpa using hbytes) (by decide : 140737488355328 ≤ 281474976710656))
    rw [e2] at hr
    injection hr with hv _
    subst hv
    simp [Value.ownBlock] at hk
    omega
  · by_cases hroom : n + m ≤ cap
    · have hfit : n * i.size + news.length ≤ cur.size := by rw [hl, hcs, ← Nat.add_mul]; exact Nat.mul_le_mul_right _ hroom
      have e2 := run_append_room (P := P) w t ty e i ht hi gb n cap cur hgg ad m c news hl hnews h1 hroom hfit
      rw [e2] at hr
      injection hr with hv _
      subst hv
      exact .inl hk
    · have holds : ∀ j u, xs[j]? = some u → w.cell? ((⟨gb, 0, none⟩ : Addr).add j) = some u := hown.cells (g := gb) rfl
      have e2 := run_append_grow (P := P) w t ty e i z ht hi hz ⟨gb, 0, none⟩ n cap xs hown.1 holds ad m c news hl hnews (by omega) (by omega) (growslice_fits (by omega) hbytes)
      rw [e2] at hr
      injection hr with hv _
      subst hv
      simp [Value.ownBlock] at hk
      omega
end
end Go.Proofs.Ytdejmfkpohgamaa
set_option linter.unusedSimpArgs false
set_option linter.unusedVariables false
namespace Go.Proofs.Ytdejmfkpohgamaa
open Go.RowKit
structure SlW (P : Program) (t e : TypeId) (z : Value) (n : Nat) : Prop where
  und : P.underlying t = some (.slice e)
  info : ∃ i, P.info? e = some i ∧ i.zero = some z ∧ i.size = n ∧ i.bytes ≤ 1024
  cells : z.cells.size = n
  pos : 0 < n
theorem SlW.elem {P : Program} {t e : TypeId} {z : Value} {n : Nat} (h : SlW P t e z n) : P.elem t = e := by simp [Program.elem, h.und]
theorem SlW.sizeOf {P : Program} {t e : TypeId} {z : Value} {n : Nat} (h : SlW P t e z n) (w : World) : (sizeOf e).run P w = .ok n w := by
  obtain ⟨i, hi, _, hs, _⟩ := h.info
  simp [Go.sizeOf, typeInfo, hi, hs]
theorem SlW.of {P : Program} {t e : TypeId} {z : Value} (h : SlT P t e z) : SlW P t e z 1 := by
  obtain ⟨i, h1, h2, h3, h4⟩ := h.info
  refine ⟨h.und, ⟨i, h1, h2, h3, by omega⟩, ?_, by decide⟩
  have := h.one
  cases z <;> simp_all [Value.cells, Value.oneCell']
def Wid (w : World) (B : Nat) (e : TypeId) (n : Nat) (v : Value) (rows : List (List Value)) : Prop :=
  (∀ r ∈ rows, r.length = n ∧ ∀ u ∈ r, u.oneCell' = true) ∧ w.ownsRow B e n v rows.length rows.flatten
theorem flat_len {n : Nat} : ∀ {rows : List (List Value)}, (∀ r ∈ rows, r.length = n) → rows.flatten.length = rows.length * n
  | [], _ => by simp
  | r :: rows, h => by
    rw [List.flatten_cons, List.length_append, h r (by simp), flat_len (fun q hq => h q (by simp [hq])), List.length_cons, Nat.add_mul]
    omega
theorem flat_at {n : Nat} : ∀ {rows : List (List Value)} {i j : Nat}, (∀ r ∈ rows, r.length = n) → i < rows.length → j < n → rows.flatten[i * n + j]? = (rows.getD i [])[j]?
  | r :: rows, 0, j, h, _, hj => by
    rw [List.flatten_cons, Nat.zero_mul, Nat.zero_add, List.getElem?_append_left (by rw [h r (by simp)]; exact hj)]; rfl
  | r :: rows, i + 1, j, h, hi, hj => by
    have hr := h r (by simp)
    rw [List.flatten_cons, List.getElem?_append_right (by rw [hr, Nat.add_mul]; omega), hr, show (i + 1) * n + j - n = i * n + j by rw [Nat.add_mul]; omega]
    exact flat_at (fun q hq => h q (by simp [hq])) (by simpa using hi) hj
section
variable {w w' : World} {B n : Nat} {e : TypeId} {v : Value} {rows : List (List Value)}
theorem Wid.nil (w : World) (B : Nat) (e : TypeId) (n : Nat) : Wid w B e n (.slice none 0 0) [] := ⟨by simp, World.ownsRow_nil w B e n⟩
theorem Wid.cases (h : Wid w B e n v rows) : (v = .slice none 0 0 ∧ rows = []) ∨ ∃ g cap cs, v = .slice (some ⟨g, 0, none⟩) rows.length cap ∧ B ≤ g ∧ Blk w g e cs ∧ rows.length ≤ cap ∧ cap ≤ maxLen ∧ cs.length = cap * n ∧ cs.take (rows.length * n) = rows.flatten := by
  rcases h.2.2 with ⟨h1, h2⟩ | ⟨g, cap, cur, h1, h2, h3, h4, h5, h6, h7⟩
  · exact .inl ⟨h1, List.eq_nil_of_length_eq_zero h2⟩
  · exact .inr ⟨g, cap, cur.toList, h1, h2, by simpa [Blk] using h3, h4, h5, by simpa using h6, h7⟩
theorem Wid.mk' {g cap : Nat} {cs : List Value} (hr : ∀ r ∈ rows, r.length = n ∧ ∀ u ∈ r, u.oneCell' = true) (h2 : B ≤ g) (h3 : Blk w g e cs) (h4 : rows.length ≤ cap) (h5 : cap ≤ maxLen) (h6 : cs.length = cap * n) (h7 : cs.take (rows.length * n) = rows.flatten) : Wid w B e n (.slice (some ⟨g, 0, none⟩) rows.length cap) rows :=
  ⟨hr, flat_len (fun r h => (hr r h).1), .inr ⟨g, cap, cs.toArray, rfl, h2, h3, h4, h5, by simpa using h6, by simpa using h7⟩⟩
theorem Wid.ext (h : Wid w B e n v rows) (x : Ext w w') : Wid w' B e n v rows := by
  rcases h.cases with ⟨rfl, rfl⟩ | ⟨g, cap, cs, rfl, h2, h3, h4, h5, h6, h7⟩
  · exact Wid.nil _ _ _ _
  · exact Wid.mk' h.1 h2 (h3.ext x) h4 h5 h6 h7
theorem Wid.mono {B' : Nat} (h : Wid w B e n v rows) (hB : B' ≤ B) : Wid w B' e n v rows := by
  rcases h.cases with ⟨rfl, rfl⟩ | ⟨g, cap, cs, rfl, h2, h3, h4, h5, h6, h7⟩
  · exact Wid.nil _ _ _ _
  · exact Wid.mk' h.1 (Nat.le_trans hB h2) h3 h4 h5 h6 h7
theorem Wid.lt (h : Wid w B e n v rows) : ∀ k, v.ownBlock = some k → B ≤ k ∧ k < w.heap.size := by
  rcases h.cases with ⟨rfl, rfl⟩ | ⟨g, cap, cs, rfl, h2, h3, h4, h5, h6, h7⟩
  · intro k hk; cases hk
  · intro k hk
    simp [Value.ownBlock] at hk
    subst hk
    exact ⟨h2, h3.lt⟩
theorem Wid.grown {r : Option Nat} (h : Wid w B e n v rows) (hg : w.grownBy w' r) (hne : ∀ k, v.ownBlock = some k → r ≠ some k) : Wid w' B e n v rows := by
  rcases h.cases with ⟨rfl, rfl⟩ | ⟨g, cap, cs, rfl, h2, h3, h4, h5, h6, h7⟩
  · exact Wid.nil _ _ _ _
  · exact Wid.mk' h.1 h2 (h3.grown hg (hne g rfl)) h4 h5 h6 h7
theorem Wid.stored {g : Nat} {t : TypeId} {cs : List Value} (h : Wid w B e n v rows) (hg : w.grownBy w' (some g)) (hb : Blk w g t cs) (hne : t ≠ e) : Wid w' B e n v rows := by
  refine h.grown hg fun k hk hc => ?_
  injection hc with hc
  subst hc
  rcases h.cases with ⟨rfl, rfl⟩ | ⟨g', cap, cs', rfl, h2, h3, _⟩
  · cases hk
  · simp [Value.ownBlock] at hk
    subst hk
    exact hb.ne h3 hne rfl
theorem Wid.owned {B' : Nat} {t : TypeId} {u : Value} {us : List Value} (h : Wid w B e n v rows) (ho : Own w B' t u us) (hg : w.grownBy w' u.ownBlock) (hne : t ≠ e) : Wid w' B e n v rows := by
  rcases ho.cases with ⟨rfl, rfl⟩ | ⟨g, cap, cs, rfl, hg', hb, _⟩
  · exact h.ext (Ext.of_grown hg)
  · exact h.stored (g := g) hg hb hne
theorem Wid.mapped {κ : Type} {enc : κ → Value} {b : Nat} {xs : List κ} (h : Wid w B e n v rows) (hm : MapN enc w b xs) (hg : w.grownBy w' (some b)) : Wid w' B e n v rows := by
  rcases h.cases with ⟨rfl, rfl⟩ | ⟨g, cap, cs, rfl, h2, h3, h4, h5, h6, h7⟩
  · exact Wid.nil _ _ _ _
  · exact Wid.mk' h.1 h2 (h3.mapped hm hg) h4 h5 h6 h7
variable (ho : Wid w B e n v rows) (hg : w.grownBy w' v.ownBlock)
theorem Row.wid {e' : TypeId} {u : Value} {us : List Value} (h : Row w e' u us) (ho : Wid w B e n v rows) (hg : w.grownBy w' v.ownBlock) (hne : e ≠ e') : Row w' e' u us := by
  rcases ho.cases with ⟨rfl, rfl⟩ | ⟨g, cap, cs, rfl, h2, hb, _⟩
  · exact h.ext (Ext.of_grown hg)
  · exact h.grown (g := g) hg hb hne
theorem Own.wid {B' : Nat} {e' : TypeId} {u : Value} {us : List Value} (h : Own w B' e' u us) (ho : Wid w B e n v rows) (hg : w.grownBy w' v.ownBlock) (hne : e ≠ e') : Own w' B' e' u us := by
  rcases ho.cases with ⟨rfl, rfl⟩ | ⟨g, cap, cs, rfl, h2, hb, _⟩
  · exact h.ext (Ext.of_grown hg)
  · exact h.stored (g := g) hg hb hne
theorem OwnRows.wid {B' U : Nat} {e' e'' : TypeId} {u : Value} {xss : List (List Int)} (h : OwnRows w B' U e' e'' u xss) (ho : Wid w B e n v rows) (hg : w.grownBy w' v.ownBlock) (hne : e ≠ e') (hne' : e ≠ e'') : OwnRows w' B' U e' e'' u xss := by
  rcases ho.cases with ⟨rfl, rfl⟩ | ⟨g, cap, cs, rfl, h2, hb, _⟩
  · exact h.ext (Ext.of_grown hg)
  · exact h.stored (g := g) hg hb hne hne'
theorem Blk.wid {b : Nat} {e' : TypeId} {cs : List Value} (h : Blk w b e' cs) (ho : Wid w B e n v rows) (hg : w.grownBy w' v.ownBlock) (hne : e ≠ e') : Blk w' b e' cs := by
  rcases ho.cases with ⟨rfl, rfl⟩ | ⟨g, cap, cs', rfl, h2, hb, _⟩
  · exact h.ext (Ext.of_grown hg)
  · exact h.grown hg (fun e2 => hb.ne h hne (by simpa [Value.ownBlock] using e2))
theorem Wid.wid {B' n' : Nat} {e' : TypeId} {u : Value} {rows' : List (List Value)} (h : Wid w B' e' n' u rows') (ho : Wid w B e n v rows) (hg : w.grownBy w' v.ownBlock) (hne : e ≠ e') : Wid w' B' e' n' u rows' := by
  rcases ho.cases with ⟨rfl, rfl⟩ | ⟨g, cap, cs, rfl, h2, hb, _⟩
  · exact h.ext (Ext.of_grown hg)
  · exact h.stored (g := g) hg hb hne
theorem MapN.wid {κ : Type} {enc : κ → Value} {b : Nat} {xs : List κ} (h : MapN enc w b xs) (ho : Wid w B e n v rows) (hg : w.grownBy w' v.ownBlock) : MapN enc w' b xs := by
  rcases ho.cases with ⟨rfl, rfl⟩ | ⟨g, cap, cs, rfl, h2, hb, _⟩
  · exact h.ext (Ext.of_grown hg)
  · exact h.stored (gb := g) hg hb
theorem Ext.wid {a : World} (h : Ext a w) (ho : Wid w B e n v rows) (hg : w.grownBy w' v.ownBlock) (hB : a.heap.size ≤ B) : Ext a w' := h.grown hg fun k hk => Nat.le_trans hB (ho.lt k hk).1
theorem Wid.at (h : Wid w B e n v rows) {i : Int} (h0 : 0 ≤ i) (h1 : i < rows.length) : ∃ g c, v = .slice (some ⟨g, 0, none⟩) rows.length c ∧ B ≤ g ∧ g < w.heap.size ∧ ∀ j, j < n → w.cell? ⟨g, i.toNat * n + j, none⟩ = (rows.getD i.toNat [])[j]? := by
  rcases h.cases with ⟨rfl, rfl⟩ | ⟨g, cap, cs, rfl, h2, h3, h4, h5, h6, h7⟩
  · simp at h1; omega
  · refine ⟨g, cap, rfl, h2, h3.lt, fun j hj => ?_⟩
    have hlt : i.toNat < rows.length := by omega
    rw [h3.cell, ← flat_at (fun r hr => (h.1 r hr).1) hlt hj, ← h7, List.getElem?_take, if_pos]
    have : (i.toNat + 1) * n ≤ rows.length * n := Nat.mul_le_mul_right _ hlt
    rw [Nat.add_mul] at this
    omega
end
section
variable {P : Program} {N : Nat} {ops : Array Oper} {Q : Exit → Act → World → Prop} {rest : List Oper} {l : Slots} {w : World}
variable {d : Nat} {ty : TypeId} {pos : String} {after : Array Edge} {g : Option (Nat × Bool)}
theorem Still.ixW {t e : TypeId} {z : Value} {n gb len c : Nat} {x ix : Operand} {k : IntKind} {i : Int} (hs : SlW P t e z n) (hx : ev l x = some (.slice (some ⟨gb, 0, none⟩) len c)) (hix : ev l ix = some (.int k i)) (hi : 0 ≤ i ∧ i < (len : Int)) :
    Still P N l ⟨some d, .indexAddr t x ix, ty, pos, after, g⟩ (.pointer (some ⟨gb, i.toNat * n, none⟩)) w := fun a ha => by
  have := run_indexAt_slice (P := P) (w := w) t ⟨gb, 0, none⟩ len c k i (by rw [hs.elem]; exact hs.und)
  rw [hs.elem, hs.sizeOf] at this
  simp [execOp, ha.ev hx, ha.ev hix, this, hi, addr_add]
theorem fold_cells (off : Nat) : ∀ (vs : List Value) (j : Nat) (zs : Array Value), off + j + vs.length ≤ zs.size →
    ((vs.zipIdx j).foldl (fun (cs : Array Value) (p : Value × Nat) => cs.setIfInBounds (off + p.2) p.1) zs).toList = zs.toList.take (off + j) ++ vs ++ zs.toList.drop (off + j + vs.length)
  | [], j, zs, h => by simp
  | v :: vs, j, zs, h => by
    simp only [List.length_cons] at h
    rw [List.zipIdx_cons, List.foldl_cons, fold_cells off vs (j + 1) _ (by simp; omega)]
    have hlt : off + j < zs.toList.length := by simp; omega
    have h3 : (zs.toList.set (off + j) v).take (off + (j + 1)) = zs.toList.take (off + j) ++ [v] := by
      rw [show off + (j + 1) = (off + j) + 1 by omega, List.take_succ_eq_append_getElem (by simpa using hlt)]
      simp [List.take_set_of_le (Nat.le_refl (off + j))]
    have h4 : (zs.toList.set (off + j) v).drop (off + (j + 1) + vs.length) = zs.toList.drop (off + j + (vs.length + 1)) := by
      rw [List.drop_set_of_lt (by omega)]
      congr 1
      omega
    simp only [Array.toList_setIfInBounds, h3, h4, List.length_cons]
    simp
theorem fill_wide {n : Nat} : ∀ (rows : List (List Value)) (k : Nat) (zs : Array Value), (∀ r ∈ rows, r.length = n) → (k + rows.length) * n ≤ zs.size →
    ∃ cs, Instr.fill (fun i => some (i * n, n)) zs ((List.range' k rows.length).zip (rows.map fun r => Value.agg r.toArray)) = some cs ∧ cs.toList = zs.toList.take (k * n) ++ rows.flatten ++ zs.toList.drop ((k + rows.length) * n)
  | [], k, zs, _, _ => ⟨zs, by simp [Instr.fill], by simp⟩
  | r :: rows, k, zs, h, hk => by
    have hr := h r (by simp)
    simp only [List.length_cons] at hk
    have e1 : (k + (rows.length + 1)) * n = k * n + n + rows.length * n := by rw [Nat.add_mul, Nat.add_mul]; omega
    have e2 : (k + 1) * n = k * n + n := by rw [Nat.add_mul]; omega
    have hf := fold_cells (k * n) r 0 zs (by omega)
    have hsz : ((r.zipIdx 0).foldl (fun (cs : Array Value) (p : Value × Nat) => cs.setIfInBounds (k * n + p.2) p.1) zs).size = zs.size := by
      rw [← Array.length_toList, hf]; simp; omega
    obtain ⟨cs, f1, f2⟩ := fill_wide rows (k + 1) _ (fun q hq => h q (by simp [hq])) (by rw [hsz, Nat.add_mul, e2]; omega)
    refine ⟨cs, ?_, ?_⟩
    · have h1 : ¬ zs.size < k * n + r.length := by omega
      simp only [List.length_cons, List.range'_succ, List.map_cons, List.zip_cons_cons, Instr.fill, Value.cells]
      simp only [List.size_toArray, hr]
      rw [if_neg (by simp; omega)]
      have e3 : (r.toArray.zipIdx.foldl (fun (cs : Array Value) (p : Value × Nat) => cs.setIfInBounds (k * n + p.2) p.1) zs) = ((r.zipIdx 0).foldl (fun (cs : Array Value) (p : Value × Nat) => cs.setIfInBounds (k * n + p.2) p.1) zs) := by simp
      exact e3 ▸ f1
    · rw [f2, hf]
      simp only [Nat.add_zero, List.flatten_cons, List.length_cons]
      have e4 : (k + 1 + rows.length) * n = k * n + n + rows.length * n := by rw [Nat.add_mul, e2]
      have t1 : (zs.toList.take (k * n) ++ r ++ zs.toList.drop (k * n + r.length)).take ((k + 1) * n) = zs.toList.take (k * n) ++ r := by
        rw [e2, List.take_append_of_le_length (by simp; omega), List.take_of_length_le (by simp; omega)]
      have t2 : (zs.toList.take (k * n) ++ r ++ zs.toList.drop (k * n + r.length)).drop ((k + 1 + rows.length) * n) = zs.toList.drop ((k + (rows.length + 1)) * n) := by
        rw [e4, e1, List.drop_append, List.drop_of_length_le (by simp; omega), List.nil_append, List.drop_drop]
        congr 1
        simp
        omega
      rw [t1, t2]
      simp
theorem Sq.litW {t e : TypeId} {z : Value} {n m : Nat} {parts : List (Nat × Operand)} {rows : List (List Value)} (hs : SlW P t e z n) (hp : parts.map (·.1) = List.range m) (hm : rows.length = m) (hn : m * n ≤ 1000) (hg : On ops l g) (hN : Nat.blt d N = true)
    (hx : evs l (parts.map (·.2)) = some (rows.map fun r => Value.agg r.toArray)) (h1 : ∀ r ∈ rows, r.length = n ∧ ∀ u ∈ r, u.oneCell' = true)
    (h : ∀ b w', Ext w w' → w.heap.size ≤ b → (∀ B, B ≤ w.heap.size → Wid w' B e n (.slice (some ⟨b, 0, none⟩) m m) rows) → Blk w' b e rows.flatten → Sq P N ops Q rest ((d, .slice (some ⟨b, 0, none⟩) m m) :: l) w') :
    Sq P N ops Q (⟨some d, .buildSlice t m parts.toArray, ty, pos, after, g⟩ :: rest) l w := by
  obtain ⟨i, hi, hz, hsz, hby⟩ := hs.info
  have hfl := flat_len (fun r hr => (h1 r hr).1)
  have hbn := Blk.new w e rows.flatten
  refine .val (w' := w.alloc (.cells rows.flatten.toArray e)) hg rfl hN (fun a ha => ?_) (h _ _ (Ext.alloc _ _) (Nat.le_refl _) (fun B hB => ?_) hbn)
  · obtain ⟨cs, f1, f2⟩ := fill_wide (n := n) rows 0 ((Array.range (m * n)).map (fun j => z.cells[j % z.cells.size]!)) (fun r hr => (h1 r hr).1) (by simp [hm])
    have f3 : cs = rows.flatten.toArray := by
      have : cs.toList = rows.flatten := by
        rw [f2, hm]
        simp
      rw [← this]
    subst f3
    have e1 : (parts.toArray.map fun (i, x) => (i, a.eval x)) = ((List.range m).zip (rows.map fun r => Value.agg r.toArray)).toArray := by
      rw [← hp, ← ha.evs hx]
      simp [List.zip_map', List.map_map]
    have hlim : ¬ 16777216 < m * n := by omega
    rw [List.range_eq_range'] at e1
    rw [hm] at f1
    simp only [execOp]
    rw [e1]
    by_cases h0 : m * n = 0
    · have hm0 : m = 0 := by
        rcases Nat.mul_eq_zero.1 h0 with h | h
        · exact h
        · have := hs.pos; omega
      subst hm0
      obtain rfl : rows = [] := List.eq_nil_of_length_eq_zero hm
      have hr0 : Array.map (fun j : Nat => z.cells[j % z.cells.size]!) (Array.range 0) = #[] := by apply Array.ext <;> simp
      have hr1 : Array.map (fun _ : Nat => (default : Value)) (Array.range 0) = #[] := by apply Array.ext <;> simp
      simp [Instr.buildSlice, run_underlying hs.und, hs.sizeOf, newRow, Instr.fill, hr0, hr1]
    · simp [Instr.buildSlice, run_underlying hs.und, hs.sizeOf, newRow, zeroValue, typeInfo, hi, hz, hlim, h0, f1]
  · have := Wid.mk' (w := w.alloc (.cells rows.flatten.toArray e)) (B := B) (e := e) (n := n) (rows := rows) (g := w.heap.size) (cap := m) (cs := rows.flatten) h1 hB hbn (by omega) (by unfold maxLen; have := Nat.le_mul_of_pos_right m hs.pos; omega) (by rw [hfl, hm]) (by rw [List.take_of_length_le (by rw [hfl]; exact Nat.le_refl _)])
    rw [hm] at this
    exact this
theorem Sq.appS {t e : TypeId} {z : Value} {n b c : Nat} {s x : Operand} {v : Value} {r : List Value} {rows : List (List Value)} {B : Nat}
    (hs : SlW P t e z n) (ho : Wid w B e n v rows) (hB : B ≤ w.heap.size) (hlen : rows.length < 1048576) (hb : Blk w b e r) (hr : r.length = n ∧ ∀ u ∈ r, u.oneCell' = true) (hg : On ops l g) (hN : Nat.blt d N = true) (hsv : ev l s = some v) (hxv : ev l x = some (.slice (some ⟨b, 0, none⟩) 1 c))
    (h : ∀ v' w', Wid w' B e n v' (rows ++ [r]) → w.grownBy w' v.ownBlock → (∀ k, v'.ownBlock = some k → v.ownBlock = some k ∨ w.heap.size ≤ k) → v' ≠ .slice none 0 0 → Sq P N ops Q rest ((d, v') :: l) w') :
    Sq P N ops Q (⟨some d, .call ⟨.builtin .append, #[s, x], #[t, t]⟩, ty, pos, after, g⟩ :: rest) l w := by
  obtain ⟨i, hi, hz, hsz, hby⟩ := hs.info
  have hnews : ∀ j u, r[j]? = some u → w.cell? ((⟨b, 0, none⟩ : Addr).add j) = some u := fun j u hj => by rw [addr_add, hb.cell]; simpa using hj
  have hl : r.length = 1 * n := by rw [hr.1, Nat.one_mul]
  have h63 : rows.length + 1 ≤ maxLen := by unfold maxLen; omega
  have hby' : (rows.length + 1) * i.bytes ≤ 140737488355328 := Nat.le_trans (Nat.mul_le_mul (show rows.length + 1 ≤ 1048576 by omega) hby) (by decide)
  obtain ⟨v', w', hrun, r1, r2, r3⟩ := run_append_own (P := P) w B t ty e i z n i.bytes hs.und hi hz hsz rfl hs.cells hs.pos v rows.length rows.flatten ho.2 ⟨b, 0, none⟩ 1 c r hl hnews hr.2 h63 hby' hB
  have hf := fresh_of (P := P) (ty := ty) hs.und hi hz hsz ho.2 hl hnews hr.2 h63 hby' (by decide) hrun
  have hW : Wid w' B e n v' (rows ++ [r]) := ⟨fun q hq => by
    rcases List.mem_append.1 hq with h | h
    · exact ho.1 q h
    · rw [List.mem_singleton.1 h]; exact hr, by simpa using r1⟩
  refine .val (w' := w') hg rfl hN (fun a ha => ?_) (h v' w' hW r2 hf (fun hc => by simpa using r3.1 hc))
  rw [BigFrame.execOp_builtin, BigFrame.builtin_append]
  simp only [List.map_toArray, List.map_cons, List.map_nil, ha.ev hsv, ha.ev hxv, Sem.run_bind, hrun, Result.andThen, Sem.run_pure]
def ones (vs : List Value) : List (List Value) := vs.map fun v => [v]
theorem ones_flat (vs : List Value) : (ones vs).flatten = vs := by
  unfold ones
  induction vs with
  | nil => rfl
  | cons v r ih => rw [List.map_cons, List.flatten_cons, ih]; rfl
theorem Wid.of_own {B : Nat} {e : TypeId} {v : Value} {vs : List Value} (h : Own w B e v vs) (h1 : ∀ u ∈ vs, u.oneCell' = true) : Wid w B e 1 v (ones vs) := by
  refine ⟨fun r hr => ?_, ?_⟩
  · obtain ⟨u, hu, rfl⟩ := List.mem_map.1 hr
    exact ⟨rfl, fun y hy => by rw [List.mem_singleton.1 hy]; exact h1 u hu⟩
  · rw [ones_flat]
    have : (ones vs).length = vs.length := List.length_map _
    rw [this]
    exact h
theorem Wid.to_own {B : Nat} {e : TypeId} {v : Value} {vs : List Value} (h : Wid w B e 1 v (ones vs)) : Own w B e v vs := by
  have h2 := h.2
  rw [ones_flat] at h2
  have : (ones vs).length = vs.length := List.length_map _
  rw [this] at h2
  exact h2
theorem Sq.app1F {t e : TypeId} {z : Value} {b c : Nat} {s x : Operand} {v u : Value} {vs : List Value} {B : Nat}
    (hs : SlT P t e z) (ho : Own w B e v vs) (h1 : ∀ u ∈ vs, u.oneCell' = true) (hB : B ≤ w.heap.size) (hlen : vs.length < 1048576) (hb : Blk w b e [u]) (hu : u.oneCell' = true) (hg : On ops l g) (hN : Nat.blt d N = true) (hsv : ev l s = some v) (hxv : ev l x = some (.slice (some ⟨b, 0, none⟩) 1 c))
    (h : ∀ v' w', Own w' B e v' (vs ++ [u]) → w.grownBy w' v.ownBlock → (∀ k, v'.ownBlock = some k → v.ownBlock = some k ∨ w.heap.size ≤ k) → v' ≠ .slice none 0 0 → Sq P N ops Q rest ((d, v') :: l) w') :
    Sq P N ops Q (⟨some d, .call ⟨.builtin .append, #[s, x], #[t, t]⟩, ty, pos, after, g⟩ :: rest) l w :=
  Sq.appS (SlW.of hs) (Wid.of_own ho h1) hB (by simpa [ones] using hlen) hb ⟨rfl, by simpa using hu⟩ hg hN hsv hxv fun v' w' g1 g2 g3 g4 => h v' w' (Wid.to_own (by simpa [ones] using g1)) g2 g3 g4
end
end Go.Proofs.Ytdejmfkpohgamaa
set_option linter.unusedSimpArgs false
set_option linter.unusedVariables false
namespace Go.Proofs.Ytdejmfkpohgamaa
def InB (v : List Int) (b : Int) : Prop := ∀ x ∈ v, 0 ≤ x ∧ x ≤ b
theorem InB.at {v : List Int} {b : Int} (h : InB v b) (hb : 0 ≤ b) (k : Nat) : 0 ≤ v.getD k 0 ∧ v.getD k 0 ≤ b := by
  rcases Nat.lt_or_ge k v.length with hk | hk
  · exact h _ (getD_mem hk)
  · simp [hk, hb]
theorem InB.mono {v : List Int} {b b' : Int} (h : InB v b) (hb : b ≤ b') : InB v b' := fun x hx => ⟨(h x hx).1, Int.le_trans (h x hx).2 hb⟩
theorem InB.add {v : List Int} {b c m : Int} (h : InB v b) (hb : 0 ≤ b) (hc : 0 ≤ c ∧ c ≤ m) (k : Nat) : InB (v.set k (v.getD k 0 + c)) (b + m) := by
  intro x hx
  have hv := h.at hb k
  rcases List.mem_or_eq_of_mem_set hx with h1 | h1
  · have := h x h1; omega
  · subst h1; omega
end Go.Proofs.Ytdejmfkpohgamaa
set_option linter.unusedSimpArgs false
set_option linter.unusedVariables false
namespace Go.Proofs.Ytdejmfkpohgamaa
def lts (s : ByteArray) : List Int := s.data.toList.map fun b => (b.toNat : Int) - 97
def within (s : ByteArray) (al : Int) : Bool := decide (0 ≤ al ∧ al ≤ 63) && (decide ((s.size : Int) ≤ 50000) && (lts s).all (hs al))
theorem hs_small {al x : Int} (h : 0 ≤ al ∧ al ≤ 63) (hx : hs al x = true) : 0 ≤ x ∧ x < 6 := by
  unfold hs at hx
  simp only [Bool.and_eq_true, decide_eq_true_eq] at hx
  refine ⟨hx.1, ?_⟩
  rcases Int.lt_or_le x 6 with h1 | h1
  · exact h1
  · have h2 : al.toNat < 2 ^ 6 := by omega
    have h3 : al.toNat < 2 ^ x.toNat := Nat.lt_of_lt_of_le h2 (Nat.pow_le_pow_right (by decide) (by omega))
    rw [Nat.testBit_lt_two_pow h3] at hx
    cases hx.2
theorem hs63 (x : Int) : hs 63 x = decide (0 ≤ x ∧ x < 6) := by
  by_cases h : 0 ≤ x ∧ x < 6
  · rw [decide_eq_true h]
    obtain ⟨m, rfl⟩ := Int.eq_ofNat_of_zero_le h.1
    have : ∀ m : Fin 6, hs 63 (m.val : Int) = true := by decide
    exact this ⟨m, by omega⟩
  · rw [decide_eq_false h]
    cases hh : hs 63 x with
    | false => rfl
    | true => exact absurd (hs_small (by decide) hh) h
def runTo (a : A) (q : Int) (s : ByteArray) (k : Nat) : Int := ((lts s).take k).foldl (goA a) q
def after (a : A) (s : ByteArray) : Int := if validA a = true ∧ within s a.al = true then runTo a 0 s s.size else -1
end Go.Proofs.Ytdejmfkpohgamaa
set_option linter.unusedSimpArgs false
set_option linter.unusedVariables false
namespace Go.Proofs.Ytdejmfkpohgamaa
def run (a : A) (q : Int) (w : List Int) : Int := w.foldl (goA a) q
theorem zero_in {a : A} (hv : validA a = true) : 0 ≤ (0 : Int) ∧ (0 : Int) < a.next.length := by have := (validA_spec.1 hv).2.1; omega
section
variable {P : Program} {N : Nat} {ops : Array Oper} {Q : Exit → Act → World → Prop} {S : World → Prop} {k fuel : Nat} {listed : Array Bool} {l : Slots} {w : World}
theorem Gq.beT {b : Bool} {d : Nat} (e : b = true) (h : Gq P N ops Q S k fuel listed ((d, .bool true) :: l) w) : Gq P N ops Q S k fuel listed ((d, .bool b) :: l) w := by rw [e]; exact h
theorem Gq.beF {b : Bool} {d : Nat} (e : b = false) (h : Gq P N ops Q S k fuel listed ((d, .bool false) :: l) w) : Gq P N ops Q S k fuel listed ((d, .bool b) :: l) w := by rw [e]; exact h
end
theorem Own.setU2 {w : World} {B : Nat} {e : TypeId} {v : Value} {ys : List UInt8} {x y : UInt8} {i j : Nat} (h : Own w B e v (((ys.map fun b => Value.int .u8 (b.toNat : Int)).set i (Value.int .u8 (x.toNat : Int))).set j (Value.int .u8 (y.toNat : Int)))) : Own w B e v (((ys.set i x).set j y).map fun b => Value.int .u8 (b.toNat : Int)) := by
  rw [List.map_set, List.map_set]; exact h
def RevAt (xs : List UInt8) (k : Nat) (ys : List UInt8) : Prop := ys.length = xs.length ∧ ∀ m, m < xs.length → ys.getD m 0 = if m < k ∨ xs.length - 1 - k < m then xs.getD (xs.length - 1 - m) 0 else xs.getD m 0
theorem RevAt.zero (xs : List UInt8) : RevAt xs 0 xs := ⟨rfl, fun m hm => by rw [if_neg (by omega)]⟩
theorem getD_setU (l : List UInt8) (k m : Nat) (x : UInt8) (hk : k < l.length) : (l.set k x).getD m 0 = if k = m then x else l.getD m 0 := by
  rw [List.getD_eq_getElem?_getD, List.getElem?_set]
  by_cases h : k = m
  · subst h; simp [hk]
  · simp [h]
theorem RevAt.step {xs ys : List UInt8} {k : Nat} (h : RevAt xs k ys) (hk : k < xs.length - 1 - k) : RevAt xs (k + 1) ((ys.set k (ys.getD (xs.length - 1 - k) 0)).set (xs.length - 1 - k) (ys.getD k 0)) := by
  obtain ⟨h1, h2⟩ := h
  refine ⟨by simp [h1], fun m hm => ?_⟩
  rw [getD_setU _ _ _ _ (by rw [List.length_set]; omega), getD_setU _ _ _ _ (by omega)]
  by_cases e1 : xs.length - 1 - k = m
  · subst e1
    rw [if_pos rfl, h2 k (by omega), if_neg (by omega), if_pos (by omega)]
    congr 1; omega
  · rw [if_neg e1]
    by_cases e2 : k = m
    · subst e2
      rw [if_pos rfl, h2 _ (by omega), if_neg (by omega), if_pos (by omega)]
    · rw [if_neg e2, h2 m hm]
      by_cases h3 : m < k ∨ xs.length - 1 - k < m
      · rw [if_pos h3, if_pos (by omega)]
      · rw [if_neg h3, if_neg (by omega)]
theorem RevAt.done {xs ys : List UInt8} {k : Nat} (h : RevAt xs k ys) (hk : xs.length - 1 ≤ k + k) : ys = xs.reverse := by
  obtain ⟨h1, h2⟩ := h
  refine List.ext_getElem (by rw [h1, List.length_reverse]) fun m m1 m2 => ?_
  have h3 := h2 m (by omega)
  rw [List.getD_eq_getElem?_getD, List.getElem?_eq_getElem m1] at h3
  rw [List.getElem_reverse]
  have h4 : xs.length - 1 - m < xs.length := by omega
  have e : xs.getD (xs.length - 1 - m) 0 = xs[xs.length - 1 - m] := by rw [List.getD_eq_getElem?_getD, List.getElem?_eq_getElem h4]; rfl
  rw [← e]
  by_cases h5 : m < k ∨ xs.length - 1 - k < m
  · rw [if_pos h5] at h3; exact h3
  · rw [if_neg h5] at h3
    have : xs.length - 1 - m = m := by omega
    rw [this]; exact h3
end Go.Proofs.Ytdejmfkpohgamaa
set_option linter.unusedSimpArgs false
set_option linter.unusedVariables false
namespace Go.Proofs.Ytdejmfkpohgamaa
def many (n : Nat) : Nat := if h : n = 0 then 200 else many (n - 1)
  termination_by n
theorem many_eq : many 0 = 200 := by rw [many]; simp
section bfs
variable {α : Type} [DecidableEq α]
def addNode (ns : List α) (x : α) : List α := if x ∈ ns then ns else ns ++ [x]
def addAll (ns : List α) (xs : List α) : List α := xs.foldl addNode ns
theorem addNode_T {ns : List α} {x : α} (h : x ∈ ns) : addNode ns x = ns := if_pos h
theorem addNode_F {ns : List α} {x : α} (h : x ∉ ns) : addNode ns x = ns ++ [x] := if_neg h
theorem addNode_prefix (ns : List α) (x : α) : ns <+: addNode ns x := by
  unfold addNode
  split
  · exact List.prefix_refl _
  · exact List.prefix_append _ _
theorem mem_addNode {ns : List α} {x y : α} : y ∈ addNode ns x ↔ y ∈ ns ∨ y = x := by
  unfold addNode
  split
  · exact ⟨.inl, fun h => h.elim id (fun h => h ▸ by assumption)⟩
  · simp
theorem nodup_addNode {ns : List α} (h : ns.Nodup) (x : α) : (addNode ns x).Nodup := by
  unfold addNode
  split
  · exact h
  · rename_i hx
    rw [List.nodup_append]
    exact ⟨h, by simp, fun a ha b hb hab => hx (by rw [List.mem_singleton.1 hb] at hab; exact hab ▸ ha)⟩
theorem addAll_snoc (ns xs : List α) (x : α) : addAll ns (xs ++ [x]) = addNode (addAll ns xs) x := by
  unfold addAll
  rw [List.foldl_append]
  rfl
theorem addAll_nil (ns : List α) : addAll ns [] = ns := rfl
theorem addAll_cons (ns : List α) (x : α) (xs : List α) : addAll ns (x :: xs) = addAll (addNode ns x) xs := rfl
theorem addAll_prefix : ∀ (xs ns : List α), ns <+: addAll ns xs
  | [], ns => List.prefix_refl _
  | x :: xs, ns => (addNode_prefix ns x).trans (addAll_prefix xs _)
theorem mem_addAll {y : α} : ∀ {xs ns : List α}, y ∈ addAll ns xs ↔ y ∈ ns ∨ y ∈ xs
  | [], ns => by simp [addAll_nil]
  | x :: xs, ns => by rw [addAll_cons, mem_addAll, mem_addNode, List.mem_cons, or_assoc]
theorem nodup_addAll : ∀ {xs ns : List α}, ns.Nodup → (addAll ns xs).Nodup
  | [], _, h => h
  | x :: xs, _, h => nodup_addAll (xs := xs) (nodup_addNode h x)
def bfs (f : α → Int → α) (s : α) (L : List Int) : Nat → List α
  | 0 => [s]
  | i + 1 => match (bfs f s L i)[i]? with
    | some q => addAll (bfs f s L i) (L.map (f q))
    | none => bfs f s L i
variable {f : α → Int → α} {s : α} {L : List Int}
theorem bfs_succ {i : Nat} {q : α} (h : (bfs f s L i)[i]? = some q) : bfs f s L (i + 1) = addAll (bfs f s L i) (L.map (f q)) := by rw [bfs, h]
theorem bfs_prefix1 (i : Nat) : bfs f s L i <+: bfs f s L (i + 1) := by
  rw [bfs]
  split
  · exact addAll_prefix _ _
  · exact List.prefix_refl _
theorem bfs_prefix {i j : Nat} (h : i ≤ j) : bfs f s L i <+: bfs f s L j := by
  induction j with
  | zero => rw [Nat.le_zero.1 h]; exact List.prefix_refl _
  | succ j ih =>
    rcases Nat.lt_or_ge j i with h1 | h1
    · rw [show i = j + 1 by omega]; exact List.prefix_refl _
    · exact (ih h1).trans (bfs_prefix1 j)
theorem bfs_nodup (i : Nat) : (bfs f s L i).Nodup := by
  induction i with
  | zero => simp [bfs]
  | succ i ih =>
    rw [bfs]
    split
    · exact nodup_addAll ih
    · exact ih
theorem bfs_stop {i : Nat} (h : (bfs f s L i).length ≤ i) {j : Nat} (hj : i ≤ j) : bfs f s L j = bfs f s L i := by
  induction j with
  | zero => rw [Nat.le_zero.1 hj]
  | succ j ih =>
    rcases Nat.lt_or_ge j i with h1 | h1
    · rw [show i = j + 1 by omega]
    · rw [bfs, ih h1, List.getElem?_eq_none (by omega)]
theorem bfs_all {P : α → Prop} (h0 : P s) (hs : ∀ q, P q → ∀ l ∈ L, P (f q l)) (i : Nat) : ∀ q ∈ bfs f s L i, P q := by
  induction i with
  | zero => simp [bfs, h0]
  | succ i ih =>
    rw [bfs]
    split
    · rename_i q hq
      have hq' : q ∈ bfs f s L i := List.mem_of_getElem? hq
      intro y hy
      rcases mem_addAll.1 hy with h | h
      · exact ih y h
      · obtain ⟨l, hl, rfl⟩ := List.mem_map.1 h
        exact hs q (ih q hq') l hl
    · exact ih
theorem bfs_closed {i j : Nat} {q : α} (hj : j < i) (h : (bfs f s L i)[j]? = some q) : ∀ l ∈ L, f q l ∈ bfs f s L i := by
  intro l hl
  have h1 : (bfs f s L (j + 1)) <+: bfs f s L i := bfs_prefix hj
  have h0 : (bfs f s L j) <+: bfs f s L i := bfs_prefix (by omega)
  rcases Nat.lt_or_ge j (bfs f s L j).length with h2 | h2
  · have h3 : (bfs f s L j)[j]? = some q := by
      obtain ⟨t, ht⟩ := h0
      rw [← ht, List.getElem?_append_left h2] at h
      exact h
    rw [bfs_succ h3] at h1
    exact h1.subset (mem_addAll.2 (.inr (List.mem_map.2 ⟨l, hl, rfl⟩)))
  · rw [bfs_stop h2 (by omega), List.getElem?_eq_none h2] at h
    cases h
theorem nodup_len : ∀ {xs U : List α}, xs.Nodup → (∀ q ∈ xs, q ∈ U) → xs.length ≤ U.length
  | [], _, _, _ => Nat.zero_le _
  | x :: xs, U, h, hs => by
    obtain ⟨h1, h2⟩ := List.nodup_cons.1 h
    have hx := hs x (by simp)
    have h3 := nodup_len (U := U.erase x) h2 (fun q hq => (List.mem_erase_of_ne (by rintro rfl; exact h1 hq)).2 (hs q (by simp [hq])))
    rw [List.length_erase_of_mem hx] at h3
    have := List.length_pos_of_mem hx
    simp only [List.length_cons]
    omega
theorem bfs_len {M : Nat} {U : List α} (h0 : s ∈ U) (hs : ∀ q ∈ U, ∀ l ∈ L, f q l ∈ U) (hU : U.length ≤ M) (i : Nat) : (bfs f s L i).length ≤ M :=
  Nat.le_trans (nodup_len (bfs_nodup i) (fun q hq => bfs_all (P := (· ∈ U)) h0 hs i q hq)) hU
def ord (f : α → Int → α) (s : α) (L : List Int) : List α := bfs f s L (many 0)
theorem ord_done {i : Nat} (h : (bfs f s L i).length ≤ i) (hi : i ≤ 200) : bfs f s L i = ord f s L := (bfs_stop h (by rw [many_eq]; exact hi)).symm
theorem ord_prefix {i : Nat} (hi : i ≤ 200) : bfs f s L i <+: ord f s L := bfs_prefix (by rw [many_eq]; exact hi)
theorem ord_mem0 : s ∈ ord f s L := (bfs_prefix (Nat.zero_le (many 0))).subset (by simp [bfs])
theorem ord_zero : (ord f s L)[0]? = some s := by
  obtain ⟨t, ht⟩ := bfs_prefix (f := f) (s := s) (L := L) (Nat.zero_le (many 0))
  unfold ord
  rw [← ht]; rfl
theorem ord_pos : 0 < (ord f s L).length := List.length_pos_of_mem ord_mem0
theorem ord_closed (h : (ord f s L).length ≤ 200) {q : α} (hq : q ∈ ord f s L) : ∀ l ∈ L, f q l ∈ ord f s L := by
  obtain ⟨j, hj, rfl⟩ := List.mem_iff_getElem.1 hq
  exact bfs_closed (Nat.lt_of_lt_of_le hj (by rw [many_eq]; exact h)) (List.getElem?_eq_getElem hj)
theorem ord_all {P : α → Prop} (h0 : P s) (hs : ∀ q, P q → ∀ l ∈ L, P (f q l)) : ∀ q ∈ ord f s L, P q := bfs_all h0 hs _
theorem ord_zero' (h : (ord f s L).length ≤ 200) : (ord f s L).idxOf s = 0 := by
  have h0 := ord_zero (f := f) (s := s) (L := L)
  cases hl : ord f s L with
  | nil => rw [hl] at h0; cases h0
  | cons x r => rw [hl] at h0; simp at h0; subst h0; simp
theorem idx_prefix {xs ys : List α} (h : xs <+: ys) {x : α} (hx : x ∈ xs) : ys.idxOf x = xs.idxOf x := by
  obtain ⟨t, rfl⟩ := h
  rw [List.idxOf_append, if_pos hx]
theorem idx_new {xs : List α} {x : α} (hx : x ∉ xs) : (addNode xs x).idxOf x = xs.length := by
  rw [addNode_F hx, List.idxOf_append, if_neg hx]
  simp
theorem getElem_idx {xs : List α} {x : α} (h : x ∈ xs) : xs[xs.idxOf x]? = some x := by
  rw [List.getElem?_eq_some_iff]
  exact ⟨List.idxOf_lt_length_iff.2 h, List.getElem_idxOf _⟩
def rowAt (f : α → Int → α) (L : List Int) (ns : List α) (q : α) : List Int := L.map fun l => (ns.idxOf (f q l) : Int)
def rowsAt (f : α → Int → α) (L : List Int) (ns : List α) (i : Nat) : List (List Int) := (ns.take i).map (rowAt f L ns)
theorem rowAt_prefix {ns ms : List α} {q : α} (h : ns <+: ms) (hm : ∀ l ∈ L, f q l ∈ ns) : rowAt f L ms q = rowAt f L ns q :=
  List.map_congr_left fun l hl => by rw [idx_prefix h (hm l hl)]
theorem rowsAt_step {i : Nat} {q : α} (h : (bfs f s L i)[i]? = some q) : rowsAt f L (bfs f s L (i + 1)) (i + 1) = rowsAt f L (bfs f s L i) i ++ [rowAt f L (bfs f s L (i + 1)) q] := by
  have hi := (List.getElem?_eq_some_iff.1 h).1
  have hp := bfs_prefix1 (f := f) (s := s) (L := L) i
  have e1 : (bfs f s L (i + 1)).take (i + 1) = (bfs f s L i).take i ++ [q] := by
    obtain ⟨t, ht⟩ := hp
    rw [← ht, List.take_append_of_le_length (by omega), List.take_succ_eq_append_getElem hi]
    congr 1
    simp only [List.cons.injEq, and_true]
    rw [List.getElem?_eq_getElem hi] at h
    exact Option.some.inj h
  unfold rowsAt
  rw [e1, List.map_append]
  congr 1
  refine List.map_congr_left fun p hp' => rowAt_prefix hp ?_
  obtain ⟨j, hj, rfl⟩ := List.mem_iff_getElem.1 hp'
  rw [List.length_take] at hj
  rw [List.getElem_take]
  exact bfs_closed (by omega) (List.getElem?_eq_getElem (by omega))
theorem rowsAt_length (ns : List α) (i : Nat) (h : i ≤ ns.length) : (rowsAt f L ns i).length = i := by simp [rowsAt]; omega
def rowTo (f : α → Int → α) (L : List Int) (ns : List α) (q : α) (k : Nat) : List Int := (L.take k).map fun l => (ns.idxOf (f q l) : Int)
theorem rowTo_step {ns : List α} {q : α} {k : Nat} (hk : k < L.length) (hm : ∀ l ∈ L.take k, f q l ∈ ns) : rowTo f L (addNode ns (f q (L.getD k 0))) q (k + 1) = rowTo f L ns q k ++ [((addNode ns (f q (L.getD k 0))).idxOf (f q (L.getD k 0)) : Int)] := by
  unfold rowTo
  rw [take_snoc 0 hk, List.map_append]
  congr 1
  exact List.map_congr_left fun l hl => by rw [idx_prefix (addNode_prefix _ _) (hm l hl)]
theorem rowTo_done {ns : List α} {q : α} {k : Nat} (h : L.length ≤ k) : rowTo f L ns q k = rowAt f L ns q := by unfold rowTo; rw [List.take_of_length_le h]; rfl
def mid (f : α → Int → α) (s : α) (L : List Int) (i : Nat) (q : α) (k : Nat) : List α := addAll (bfs f s L i) ((L.take k).map (f q))
theorem mid_succ {i : Nat} {q : α} {k : Nat} (hk : k < L.length) : mid f s L i q (k + 1) = addNode (mid f s L i q k) (f q (L.getD k 0)) := by
  unfold mid
  rw [take_snoc 0 hk, List.map_append]
  exact addAll_snoc _ _ _
theorem mid_done {i : Nat} {q : α} {k : Nat} (h : L.length ≤ k) (hq : (bfs f s L i)[i]? = some q) : mid f s L i q k = bfs f s L (i + 1) := by
  unfold mid
  rw [List.take_of_length_le h, bfs_succ hq]
theorem mid_mem {i : Nat} {q : α} {k : Nat} : ∀ l ∈ L.take k, f q l ∈ mid f s L i q k := fun l hl => mem_addAll.2 (.inr (List.mem_map.2 ⟨l, hl, rfl⟩))
theorem mid_prefix {i : Nat} {q : α} {k : Nat} (hq : (bfs f s L i)[i]? = some q) : mid f s L i q k <+: bfs f s L (i + 1) := by
  rw [bfs_succ hq]
  unfold mid
  have : L.map (f q) = (L.take k).map (f q) ++ (L.drop k).map (f q) := by rw [← List.map_append, List.take_append_drop]
  rw [this]
  unfold addAll
  rw [List.foldl_append]
  exact addAll_prefix _ _
theorem mid_prefix0 (i : Nat) (q : α) (k : Nat) : bfs f s L i <+: mid f s L i q k := addAll_prefix _ _
end bfs
section maps
variable {α β : Type} [DecidableEq α] [DecidableEq β] {f : α → Int → α} {s : α} {L : List Int} {f' : β → Int → β} {g : α → β} {P : α → Prop}
theorem addNode_map {ns : List α} {x : α} (hg : ∀ a b, P a → P b → g a = g b → a = b) (hn : ∀ a ∈ ns, P a) (hx : P x) : addNode (ns.map g) (g x) = (addNode ns x).map g := by
  by_cases h : x ∈ ns
  · rw [addNode_T h, addNode_T (List.mem_map_of_mem h)]
  · have : g x ∉ ns.map g := fun hc => by
      obtain ⟨y, hy, e⟩ := List.mem_map.1 hc
      exact h (hg y x (hn y hy) hx e ▸ hy)
    rw [addNode_F h, addNode_F this, List.map_append]; rfl
theorem addAll_map (hg : ∀ a b, P a → P b → g a = g b → a = b) : ∀ {xs ns : List α}, (∀ a ∈ ns, P a) → (∀ a ∈ xs, P a) → addAll (ns.map g) (xs.map g) = (addAll ns xs).map g
  | [], ns, _, _ => rfl
  | x :: xs, ns, hn, hx => by
    rw [List.map_cons, addAll_cons, addAll_cons, addNode_map hg hn (hx x (by simp))]
    refine addAll_map hg (fun a ha => ?_) (fun a ha => hx a (by simp [ha]))
    rcases mem_addNode.1 ha with h | h
    · exact hn a h
    · exact h ▸ hx x (by simp)
theorem bfs_map (hg : ∀ a b, P a → P b → g a = g b → a = b) (h0 : P s) (hs : ∀ q, P q → ∀ l ∈ L, P (f q l)) (hf : ∀ q, P q → ∀ l ∈ L, f' (g q) l = g (f q l)) (i : Nat) : bfs f' (g s) L i = (bfs f s L i).map g := by
  induction i with
  | zero => rfl
  | succ i ih =>
    rw [bfs, bfs, ih, List.getElem?_map]
    cases hq : (bfs f s L i)[i]? with
    | none => rfl
    | some q =>
      have hP := bfs_all h0 hs i
      have hPq := hP q (List.mem_of_getElem? hq)
      have e : L.map (f' (g q)) = (L.map (f q)).map g := by
        rw [List.map_map]
        exact List.map_congr_left fun l hl => hf q hPq l hl
      simp only [Option.map_some]
      rw [e]
      exact addAll_map hg hP (fun a ha => by obtain ⟨l, hl, rfl⟩ := List.mem_map.1 ha; exact hs q hPq l hl)
theorem ord_map (hg : ∀ a b, P a → P b → g a = g b → a = b) (h0 : P s) (hs : ∀ q, P q → ∀ l ∈ L, P (f q l)) (hf : ∀ q, P q → ∀ l ∈ L, f' (g q) l = g (f q l)) : ord f' (g s) L = (ord f s L).map g := bfs_map hg h0 hs hf _
theorem idx_map {xs : List α} {x : α} (hg : ∀ a b, P a → P b → g a = g b → a = b) (hn : ∀ a ∈ xs, P a) (hx : P x) : (xs.map g).idxOf (g x) = xs.idxOf x := by
  induction xs with
  | nil => rfl
  | cons y xs ih =>
    rw [List.map_cons, List.idxOf_cons, List.idxOf_cons, ih (fun a ha => hn a (by simp [ha]))]
    have : (g y == g x) = (y == x) := by
      rw [Bool.eq_iff_iff, beq_iff_eq, beq_iff_eq]
      exact ⟨hg y x (hn y (by simp)) hx, fun h => by rw [h]⟩
    rw [this]
end maps
def num {α : Type} [DecidableEq α] (al : Int) (f : α → Int → α) (s : α) (acc : α → Bool) : A :=
  ⟨al, (ord f s (letters al)).map (rowAt f (letters al) (ord f s (letters al))), (ord f s (letters al)).map acc⟩
section num
variable {α : Type} [DecidableEq α] {al : Int} {f : α → Int → α} {s : α} {acc : α → Bool}
theorem num_len : (num al f s acc).next.length = (ord f s (letters al)).length := by simp [num]
theorem num_accs : (num al f s acc).acc.length = (ord f s (letters al)).length := by simp [num]
theorem num_valid (hal : 0 ≤ al ∧ al ≤ 63) (h : (ord f s (letters al)).length ≤ 12) : validA (num al f s acc) = true := by
  have h0 := ord_pos (f := f) (s := s) (L := letters al)
  refine validA_spec.2 ⟨hal, by rw [num_len]; omega, by rw [num_accs, num_len], fun row hr => ?_⟩
  obtain ⟨q, hq, rfl⟩ := List.mem_map.1 hr
  refine ⟨by simp [rowAt, num], fun y hy => ?_⟩
  obtain ⟨l, hl, rfl⟩ := List.mem_map.1 hy
  rw [num_len]
  have := List.idxOf_lt_length_iff.2 (ord_closed (by omega) hq l hl)
  omega
theorem goA_num (hal : 0 ≤ al ∧ al ≤ 63) {q : α} (hq : q ∈ ord f s (letters al)) {l : Int} (hl : l ∈ letters al) : goA (num al f s acc) ((ord f s (letters al)).idxOf q : Int) l = ((ord f s (letters al)).idxOf (f q l) : Int) := by
  obtain ⟨hx0, hx6, hh⟩ := mem_letters hl
  obtain ⟨p1, p2⟩ := place_lt hal ⟨hx0, hx6⟩ hh
  have hlt := List.idxOf_lt_length_iff.2 hq
  have hh' : hs (num al f s acc).al l = true := hh
  have e0 : (num al f s acc).next = (ord f s (letters al)).map (rowAt f (letters al) (ord f s (letters al))) := rfl
  have e9 : place (num al f s acc).al l = place al l := rfl
  have e2 : ((ord f s (letters al)).map (rowAt f (letters al) (ord f s (letters al)))).getD ((ord f s (letters al)).idxOf q) [] = rowAt f (letters al) (ord f s (letters al)) q := by
    rw [List.getD_eq_getElem?_getD, List.getElem?_map, getElem_idx hq]; rfl
  have e3 : (letters al)[place al l]? = some l := by
    rw [List.getElem?_eq_getElem p1]
    rw [List.getD_eq_getElem?_getD, List.getElem?_eq_getElem p1] at p2
    exact congrArg some p2
  rw [goA_yes hh', e0, e9, Int.toNat_natCast, e2]
  unfold rowAt
  rw [List.getD_eq_getElem?_getD, List.getElem?_map, e3]
  rfl
theorem num_acc : (num al f s acc).acc = (ord f s (letters al)).map acc := rfl
theorem acc_num {q : α} (hq : q ∈ ord f s (letters al)) : (num al f s acc).acc.getD (((ord f s (letters al)).idxOf q : Int)).toNat false = acc q := by
  rw [num_acc, Int.toNat_natCast, List.getD_eq_getElem?_getD, List.getElem?_map, getElem_idx hq]
  rfl
theorem run_num (hal : 0 ≤ al ∧ al ≤ 63) (h : (ord f s (letters al)).length ≤ 200) : ∀ (w : List Int) {q : α}, q ∈ ord f s (letters al) → (∀ x ∈ w, x ∈ letters al) → run (num al f s acc) ((ord f s (letters al)).idxOf q : Int) w = ((ord f s (letters al)).idxOf (w.foldl f q) : Int) ∧ w.foldl f q ∈ ord f s (letters al)
  | [], q, hq, _ => ⟨rfl, hq⟩
  | x :: w, q, hq, hw => by
    have hx := hw x (by simp)
    have hn := ord_closed h hq x hx
    have := run_num hal h w hn (fun y hy => hw y (by simp [hy]))
    refine ⟨?_, this.2⟩
    have e : run (num al f s acc) ((ord f s (letters al)).idxOf q : Int) (x :: w) = run (num al f s acc) (goA (num al f s acc) ((ord f s (letters al)).idxOf q : Int) x) w := rfl
    rw [e, goA_num hal hq hx]
    exact this.1
theorem num_map {β : Type} [DecidableEq β] {f' : β → Int → β} {acc' : β → Bool} {g : α → β} {P : α → Prop} (hg : ∀ a b, P a → P b → g a = g b → a = b) (h0 : P s) (hs : ∀ q, P q → ∀ l ∈ letters al, P (f q l))
    (hf : ∀ q, P q → ∀ l ∈ letters al, f' (g q) l = g (f q l)) (ha : ∀ q, P q → acc' (g q) = acc q) : num al f' (g s) acc' = num al f s acc := by
  have hP := ord_all (f := f) (s := s) (L := letters al) h0 hs
  have e := ord_map (f := f) (s := s) (L := letters al) (f' := f') hg h0 hs hf
  unfold num
  rw [e]
  simp only [List.map_map, A.mk.injEq, true_and]
  refine ⟨List.map_congr_left fun q hq => ?_, List.map_congr_left fun q hq => ha q (hP q hq)⟩
  show rowAt f' (letters al) ((ord f s (letters al)).map g) (g q) = _
  refine List.map_congr_left fun l hl => ?_
  rw [hf q (hP q hq) l hl, idx_map hg hP (hs q (hP q hq) l hl)]
end num
def accA (a : A) (q : Int) : Bool := a.acc.getD q.toNat false
theorem inU {n : Nat} {q : Int} : q ∈ (List.range n).map (fun i : Nat => (i : Int)) ↔ 0 ≤ q ∧ q < n := by
  rw [List.mem_map]
  constructor
  · rintro ⟨i, hi, rfl⟩; have := List.mem_range.1 hi; omega
  · rintro ⟨h1, h2⟩; exact ⟨q.toNat, List.mem_range.2 (by omega), by omega⟩
def step2 (a b : A) (p : Int × Int) (l : Int) : Int × Int := (goA a p.1 l, goA b p.2 l)
def kindB (k : Int) (x y : Bool) : Bool := if k = 0 then x && y else if k = 1 then x || y else x && !y
def acc2 (a b : A) (k : Int) (p : Int × Int) : Bool := kindB k (accA a p.1) (accA b p.2)
def ord2 (a b : A) : List (Int × Int) := ord (step2 a b) (0, 0) (letters (orI a.al b.al))
def prodA (a b : A) (k : Int) : A := num (orI a.al b.al) (step2 a b) (0, 0) (acc2 a b k)
def prodOk (a b : A) (k : Int) : Bool := validA a && (validA b && (decide (0 ≤ k ∧ k ≤ 2) && decide ((ord2 a b).length ≤ 12)))
theorem prodOk_spec {a b : A} {k : Int} : prodOk a b k = true ↔ validA a = true ∧ validA b = true ∧ (0 ≤ k ∧ k ≤ 2) ∧ (ord2 a b).length ≤ 12 := by
  unfold prodOk
  simp only [Bool.and_eq_true, decide_eq_true_eq]
theorem in2 {a b : A} (hv : validA a = true) (hv' : validA b = true) {p : Int × Int} (hp : (0 ≤ p.1 ∧ p.1 < a.next.length) ∧ 0 ≤ p.2 ∧ p.2 < b.next.length) {l : Int} (hl : 0 ≤ l ∧ l < 6) : (0 ≤ (step2 a b p l).1 ∧ (step2 a b p l).1 < a.next.length) ∧ 0 ≤ (step2 a b p l).2 ∧ (step2 a b p l).2 < b.next.length :=
  ⟨goA_in hv hp.1 hl, goA_in hv' hp.2 hl⟩
end Go.Proofs.Ytdejmfkpohgamaa
