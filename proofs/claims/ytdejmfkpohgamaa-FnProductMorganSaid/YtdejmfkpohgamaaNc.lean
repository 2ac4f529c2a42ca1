/-
  Walks, printed by a program out of the translation and a contract for each function; each step is one law.
-/
import Derived.Test.YtdejmfkpohgamaaNb
set_option linter.unusedSimpArgs false
set_option linter.unusedVariables false
namespace Go.Proofs.Ytdejmfkpohgamaa
open Go.RowKit

set_option maxRecDepth 100000 in
theorem l5Trim_c (w0 : World) (a : A) (nx ac : Value) (hnx : Rows w0 56 3 nx a.next) (hac : Bools w0 4 ac a.acc) (hv : validA a = true) : Ret Try.prog 80 #[Value.agg #[Value.int .i64 a.al, nx, ac]] w0 (fun v w => OwnA w w0.heap.size v (trim a) ∧ Ext w0 w) := by
  have E := Ext.refl w0
  have hvs := validA_spec.1 hv
  have hvn := hvs.2.1
  have hlet := letters_len6 a.al
  have htl := trim_len hv
  have hall := ord_all (f := goA a) (s := 0) (L := letters a.al) (P := fun q => 0 ≤ q ∧ q < (a.next.length : Int)) (zero_in hv) (fun q hq x hx => goA_in hv hq ⟨(mem_letters hx).1, (mem_letters hx).2.1⟩)
  refine Ret.of (args := [Value.agg #[Value.int .i64 a.al, nx, ac]]) Try.func80 rfl rfl rfl ?_
  rintro _ rfl
  show Cq _ _ _ _ [(0, Value.agg #[Value.int .i64 a.al, nx, ac])] _
  refine Cq.seq ?_
  refine Cq.region ?_
  refine Sq.box .plain rfl rfl (fun b1 w2 e3 hB4 hlo5 => ?_)
  have hd6 := Nat.le_trans (Below.size E) hlo5
  have hs7 := Below.size e3
  replace E := E.trans e3
  refine Sq.alloc zero26 .plain rfl (fun b8 w9 e10 hB11 hlo12 => ?_)
  have hd13 := Nat.le_trans (Below.size E) hlo12
  have hd14 := Nat.lt_of_lt_of_le hB4.lt hlo12
  have hs15 := Below.size e10
  replace E := E.trans e10
  replace hB4 := hB4.ext e10
  refine Sq.nil ?_
  refine Eq.next ?_
  refine Cq.seq ?_
  refine Cq.region ?_
  refine Sq.loadAgg agg26 .plain rfl rfl hB4 rfl ?_
  have hd20 := hB4.lt
  have hd21 := hB11.lt
  refine Sq.call fn104 .plain rfl rfl (l5Order_c _ a _ _ (hnx.ext E) (hac.ext E) hv) ?_
  rintro v16 w17 ⟨ho19, e18⟩
  have hs22 := Below.size E
  have hs23 := Below.size e18
  replace E := E.trans e18
  replace hB4 := hB4.ext e18
  replace hB11 := hB11.ext e18
  refine Sq.assign .plain rfl rfl ?_
  refine Sq.nil ?_
  refine Eq.next ?_
  refine Cq.seq ?_
  refine Cq.region ?_
  refine Sq.fieldAddr fld26_0 .plain rfl rfl ?_
  refine Sq.loadB one3 .plain rfl rfl hB4 rfl ?_
  refine Sq.build st26 rfl rfl .plain rfl rfl (one_cons rfl one_nil) rfl ?_
  refine Sq.alloc zero26 .plain rfl (fun b24 w25 e26 hB27 hlo28 => ?_)
  have hd29 := Nat.le_trans (Below.size E) hlo28
  have hd30 := Nat.lt_of_lt_of_le hB4.lt hlo28
  have hd31 := Nat.lt_of_lt_of_le hB11.lt hlo28
  have hs32 := Below.size e26
  replace E := E.trans e26
  replace hB4 := hB4.ext e26
  replace hB11 := hB11.ext e26
  replace ho19 := ho19.ext e26
  refine Sq.storeAgg agg26 .plain rfl rfl (one_cons rfl (one_cons rfl (one_cons rfl one_nil))) hB27 rfl rfl (fun w33 g34 hB35 => ?_)
  have hs36 := World.grownBy.size g34
  replace E := E.grown g34 (fun k hk => by injection hk with hk; subst hk; omega)
  replace hB4 := hB4.grown g34 (by intro h; injection h with h; omega)
  replace hB11 := hB11.grown g34 (by intro h; injection h with h; omega)
  replace ho19 := ho19.stored g34 hB27 (by decide)
  replace hB27 := hB35
  refine Sq.nil ?_
  refine Eq.next ?_
  refine Cq.seq ?_
  refine Cq.seq ?_
  refine Cq.region ?_
  refine Sq.assign .plain rfl rfl ?_
  refine Sq.nil ?_
  refine Eq.next ?_
  refine Cq.block ?_
  refine Cq.loop (fun nn w ls => ∃ (i : Int), ∃ (nxv : Value), ∃ (acv : Value), ∃ (xss : List (List Int)), ∃ (ys : List Bool), ls = [(1, Value.pointer (some ⟨b1, 0, none⟩)), (2, Value.pointer (some ⟨b8, 0, none⟩)), (3, v16), (4, Value.pointer (some ⟨b24, 0, none⟩)), (5, Value.int .i64 i)] ∧ (0 ≤ i ∧ i ≤ (ord (goA a) 0 (letters a.al)).length) ∧ Blk w b24 26 [Value.int .i64 a.al, nxv, acv] ∧ OwnRows w w0.heap.size w.heap.size 56 3 nxv xss ∧ Own w w0.heap.size 4 acv (ys.map Value.bool) ∧ xss = ((ord (goA a) 0 (letters a.al)).take i.toNat).map (rowAt (goA a) (letters a.al) (ord (goA a) 0 (letters a.al))) ∧ ys = ((ord (goA a) 0 (letters a.al)).take i.toNat).map (accA a) ∧ Ext w0 w ∧ Blk w b1 26 [Value.int .i64 a.al, nx, ac] ∧ Blk w b8 26 [Value.int .i64 0, Value.slice none 0 0, Value.slice none 0 0] ∧ Own w w9.heap.size 3 v16 ((ord (goA a) 0 (letters a.al)).map (Value.int .i64)) ∧ nn = (((ord (goA a) 0 (letters a.al)).length : Int) - i).toNat) _ _ ⟨0, _, _, [], [], rfl, by omega, hB27, OwnRows.nil _ _ _ _ _, Own.nil _ _ _, rfl, rfl, E, hB4, hB11, ho19, rfl⟩ (.cons rfl (.cons rfl (.cons rfl (.cons rfl (.cons rfl (.nil)))))) ?_
  rintro nn wl1 ls ⟨i, nxv, acv, xss, ys, rfl, hi, hBr, hor, hoa, hxs, hys, E, hB4, hB11, ho19, rfl⟩
  have hs37 := Below.size E
  have hlow := Own.low ho19
  have hat : i < (ord (goA a) 0 (letters a.al)).length → 0 ≤ ((ord (goA a) 0 (letters a.al)).getD i.toNat 0) ∧ ((ord (goA a) 0 (letters a.al)).getD i.toNat 0) < a.next.length := fun h => hall _ (getD_mem (by omega))
  have hxl : xss.length ≤ 20 := by rw [hxs, List.length_map, List.length_take]; omega
  have hyl : ys.length ≤ 20 := by rw [hys, List.length_map, List.length_take]; omega
  refine Cq.seq ?_
  refine Cq.seq ?_
  refine Cq.region ?_
  refine Sq.move .plain rfl rfl ?_
  refine Sq.move .plain rfl rfl ?_
  refine Sq.lenInts (Own.row ho19) .plain rfl und56 rfl ?_
  refine Sq.lss .plain rfl rfl rfl ?_
  refine Sq.part (fun c38 => ?_) (fun c38 => ?_)
  · refine Sq.nil ?_
    refine Eq.next ?_
    refine Cq.thn rfl ?_
    refine Cq.skip ?_
    refine Eq.next ?_
    refine Cq.seq ?_
    refine Cq.block ?_
    refine Cq.seq ?_
    refine Cq.region ?_
    refine Sq.lit sl56 rfl rfl .plain rfl rfl one_nil (fun b39 w40 e41 hlo42 ho43 _ => ?_)
    replace ho43 := ho43 wl1.heap.size (Nat.le_refl _)
    have hs45 := Below.size e41
    replace E := E.trans e41
    replace hB4 := hB4.ext e41
    replace hB11 := hB11.ext e41
    replace ho19 := ho19.ext e41
    replace hBr := hBr.ext e41
    replace hor := hor.ext e41
    replace hoa := hoa.ext e41
    refine Sq.assign .plain rfl rfl ?_
    refine Sq.nil ?_
    refine Eq.next ?_
    refine Cq.seq ?_
    refine Cq.seq ?_
    refine Cq.region ?_
    refine Sq.assign .plain rfl rfl ?_
    refine Sq.nil ?_
    refine Eq.next ?_
    refine Cq.block ?_
    have hq0 := hat (by omega)
    have hvr := valid_row hv (k := ((ord (goA a) 0 (letters a.al)).getD i.toNat 0).toNat) (by omega)
    refine Cq.loop (fun nn w ls => ∃ (k : Int), ∃ (rv : Value), ∃ (row : List Int), ls = [(1, Value.pointer (some ⟨b1, 0, none⟩)), (2, Value.pointer (some ⟨b8, 0, none⟩)), (3, v16), (4, Value.pointer (some ⟨b24, 0, none⟩)), (5, Value.int .i64 i), (6, rv), (7, Value.int .i64 k)] ∧ (0 ≤ k ∧ k ≤ (letters a.al).length) ∧ wl1.heap.size ≤ w.heap.size ∧ Own w wl1.heap.size 3 rv (row.map (Value.int .i64)) ∧ row = rowTo (goA a) (letters a.al) (ord (goA a) 0 (letters a.al)) ((ord (goA a) 0 (letters a.al)).getD i.toNat 0) k.toNat ∧ Ext w0 w ∧ Blk w b1 26 [Value.int .i64 a.al, nx, ac] ∧ Blk w b8 26 [Value.int .i64 0, Value.slice none 0 0, Value.slice none 0 0] ∧ Own w w9.heap.size 3 v16 ((ord (goA a) 0 (letters a.al)).map (Value.int .i64)) ∧ Blk w b24 26 [Value.int .i64 a.al, nxv, acv] ∧ OwnRows w w0.heap.size wl1.heap.size 56 3 nxv xss ∧ Own w w0.heap.size 4 acv (ys.map Value.bool) ∧ nn = ((letters a.al).length - k).toNat) _ _ ⟨0, _, [], rfl, by omega, by omega, ho43, rfl, E, hB4, hB11, ho19, hBr, hor, hoa, rfl⟩ (.cons rfl (.cons rfl (.cons rfl (.cons rfl (.cons rfl (.cons rfl (.cons rfl (.nil)))))))) ?_
    rintro nn wl2 ls ⟨k, rv, row, rfl, hk, hsz, hro, hrow, E, hB4, hB11, ho19, hBr, hor, hoa, rfl⟩
    have hs46 := Below.size E
    have hrl : row.length ≤ 6 := by rw [hrow, rowTo, List.length_map, List.length_take]; omega
    refine Cq.seq ?_
    refine Cq.seq ?_
    refine Cq.draw 11 none mixed (fun w47 e48 => ?_)
    have hs49 := Below.size e48
    replace E := E.trans e48
    replace hB4 := hB4.ext e48
    replace hB11 := hB11.ext e48
    replace ho19 := ho19.ext e48
    replace hBr := hBr.ext e48
    replace hor := hor.ext e48
    replace hoa := hoa.ext e48
    replace hro := hro.ext e48
    have E_w47 := E
    have hB4_w47 := hB4
    have hB11_w47 := hB11
    have ho19_w47 := ho19
    have hBr_w47 := hBr
    have hor_w47 := hor
    have hoa_w47 := hoa
    have hro_w47 := hro
    refine Gq.st 0 rfl (by kernel_rfl) rfl .plain rfl (fun _ _ _ h => h) (World.grownBy.refl w47 _) (fun w' x => Still.move rfl) ?_
    refine Gq.st 1 rfl (by kernel_rfl) rfl .plain rfl (fun _ _ _ h => h) (World.grownBy.refl w47 _) (fun w' x => Still.fieldAddr fld26_1 rfl) ?_
    refine Gq.st 2 rfl (by kernel_rfl) rfl .plain rfl (fun _ _ _ h => h) (World.grownBy.refl w47 _) (fun w' x => Still.loadB one23 rfl (hB4_w47.ext (Ext.of_grown x)) rfl) ?_
    refine Gq.st 3 rfl (by kernel_rfl) rfl .plain rfl (fun _ _ _ h => h) (World.grownBy.refl w47 _) (fun w' x => Still.move rfl) ?_
    refine Gq.st 4 rfl (by kernel_rfl) rfl .plain rfl (fun _ _ _ h => h) (World.grownBy.refl w47 _) (fun w' x => Still.move rfl) ?_
    obtain ⟨p50, hp51_w47⟩ := Ints.at (Own.row ho19_w47) (i := i) (by omega) (by omega)
    have hp51o := AtO.of ho19_w47 hp51_w47
    refine Gq.st 5 rfl (by kernel_rfl) rfl .plain rfl (fun _ _ _ h => h) (World.grownBy.refl w47 _) (fun w' x => Still.at' sl56 hp51_w47 rfl rfl) ?_
    refine Gq.st 6 rfl (by kernel_rfl) rfl .plain rfl (fun _ _ _ h => h) (World.grownBy.refl w47 _) (fun w' x => Still.loadA one3 rfl (hp51_w47.ext (Ext.of_grown x)).1) ?_
    obtain ⟨p52, r54, hp53_w47, hr55⟩ := Rows.at hnx (i := (ord (goA a) 0 (letters a.al)).getD i.toNat 0) (by omega) (by omega)
    refine Gq.st 7 rfl (by kernel_rfl) rfl .plain rfl (fun _ _ _ h => h) (World.grownBy.refl w47 _) (fun w' x => Still.at' sl23 hp53_w47 rfl rfl) ?_
    refine Gq.st 8 rfl (by kernel_rfl) rfl .plain rfl (fun _ _ _ h => h) (World.grownBy.refl w47 _) (fun w' x => Still.loadA one56 rfl (hp53_w47.ext (E_w47.trans (Ext.of_grown x))).1) ?_
    refine Gq.st 9 rfl (by kernel_rfl) rfl .plain rfl (fun _ _ _ h => h) (World.grownBy.refl w47 _) (fun w' x => Still.lenInts (hr55.ext (E_w47.trans (Ext.of_grown x))) und56 rfl) ?_
    refine Gq.st 10 rfl (by kernel_rfl) rfl .plain rfl (fun _ _ _ h => h) (World.grownBy.refl w47 _) (fun w' x => Still.lss rfl rfl) ?_
    refine Gq.part (fun c56 => ?_) (fun c56 => ?_)
    · refine Gq.done (by kernel_rfl) ?_
      refine Eq.next ?_
      refine Cq.thn rfl ?_
      refine Cq.skip ?_
      refine Eq.next ?_
      refine Cq.seq ?_
      refine Cq.block ?_
      have hq0 := hat (by omega)
      obtain ⟨pO, hpO⟩ := Ints.at (Own.row ho19) (i := i) (by omega) (by omega)
      obtain ⟨pR, rR, hpR, hrR⟩ := Rows.at hnx (i := ((ord (goA a) 0 (letters a.al)).getD i.toNat 0)) (by omega) (by omega)
      obtain ⟨pK, hpK⟩ := Ints.at hrR (i := k) (by omega) (by omega)
      have hlowR := Ints.low hrR (by omega)
      replace hpR := hpR.ext E
      replace hpK := hpK.ext E
      have hrg := row_go hv (q := ((ord (goA a) 0 (letters a.al)).getD i.toNat 0).toNat) (k := k.toNat) (by omega) (by omega)
      rw [Int.toNat_of_nonneg hq0.1] at hrg
      have hisin : ((a.next.getD ((ord (goA a) 0 (letters a.al)).getD i.toNat 0).toNat []).getD k.toNat 0) ∈ (ord (goA a) 0 (letters a.al)) := by rw [hrg]; exact ord_closed (by omega) (getD_mem (by omega)) _ (getD_mem (by omega))
      refine Cq.drawS 16 (fun w' => Blk w' b1 26 [Value.int .i64 a.al, nx, ac] ∧ At w' 3 v16 i pO (.int .i64 ((ord (goA a) 0 (letters a.al)).getD i.toNat 0)) ∧ At w' 56 nx ((ord (goA a) 0 (letters a.al)).getD i.toNat 0) pR rR ∧ At w' 3 rR k pK (.int .i64 ((a.next.getD ((ord (goA a) 0 (letters a.al)).getD i.toNat 0).toNat []).getD k.toNat 0))) mixed (⟨hB4, hpO, hpR, hpK⟩) (fun w57 e58 hS => ?_)
      clear hS
      have hs59 := Below.size e58
      replace E := E.trans e58
      replace hB4 := hB4.ext e58
      replace hB11 := hB11.ext e58
      replace ho19 := ho19.ext e58
      replace hBr := hBr.ext e58
      replace hor := hor.ext e58
      replace hoa := hoa.ext e58
      replace hro := hro.ext e58
      replace hpO := hpO.ext e58
      replace hpR := hpR.ext e58
      replace hpK := hpK.ext e58
      have E_w57 := E
      have hB4_w57 := hB4
      have hB11_w57 := hB11
      have ho19_w57 := ho19
      have hBr_w57 := hBr
      have hor_w57 := hor
      have hoa_w57 := hoa
      have hro_w57 := hro
      have hpO_w57 := hpO
      have hpR_w57 := hpR
      have hpK_w57 := hpK
      refine Gq.st 0 rfl (by kernel_rfl) rfl .plain rfl (fun _ _ _ h => h) ⟨hB4, hpO, hpR, hpK⟩ (fun w' x => Still.move rfl) ?_
      refine Gq.st 1 rfl (by kernel_rfl) rfl .plain rfl (fun _ _ _ h => h) ⟨hB4, hpO, hpR, hpK⟩ (fun w' x => Still.move rfl) ?_
      refine Gq.st 2 rfl (by kernel_rfl) rfl .plain rfl (fun _ _ _ h => h) ⟨hB4, hpO, hpR, hpK⟩ (fun w' x => Still.fieldAddr fld26_1 rfl) ?_
      refine Gq.st 3 rfl (by kernel_rfl) rfl .plain rfl (fun _ _ _ h => h) ⟨hB4, hpO, hpR, hpK⟩ (fun w' x => Still.loadB one23 rfl x.1 rfl) ?_
      refine Gq.st 4 rfl (by kernel_rfl) rfl .plain rfl (fun _ _ _ h => h) ⟨hB4, hpO, hpR, hpK⟩ (fun w' x => Still.move rfl) ?_
      refine Gq.st 5 rfl (by kernel_rfl) rfl .plain rfl (fun _ _ _ h => h) ⟨hB4, hpO, hpR, hpK⟩ (fun w' x => Still.move rfl) ?_
      refine Gq.st 6 rfl (by kernel_rfl) rfl .plain rfl (fun _ _ _ h => h) ⟨hB4, hpO, hpR, hpK⟩ (fun w' x => Still.at' sl56 hpO rfl rfl) ?_
      refine Gq.st 7 rfl (by kernel_rfl) rfl .plain rfl (fun _ _ _ h => h) ⟨hB4, hpO, hpR, hpK⟩ (fun w' x => Still.loadA one3 rfl (x.2.1).1) ?_
      refine Gq.st 8 rfl (by kernel_rfl) rfl .plain rfl (fun _ _ _ h => h) ⟨hB4, hpO, hpR, hpK⟩ (fun w' x => Still.at' sl23 hpR rfl rfl) ?_
      refine Gq.st 9 rfl (by kernel_rfl) rfl .plain rfl (fun _ _ _ h => h) ⟨hB4, hpO, hpR, hpK⟩ (fun w' x => Still.loadA one56 rfl (x.2.2.1).1) ?_
      refine Gq.st 10 rfl (by kernel_rfl) rfl .plain rfl (fun _ _ _ h => h) ⟨hB4, hpO, hpR, hpK⟩ (fun w' x => Still.move rfl) ?_
      refine Gq.st 11 rfl (by kernel_rfl) rfl .plain rfl (fun _ _ _ h => h) ⟨hB4, hpO, hpR, hpK⟩ (fun w' x => Still.at' sl56 hpK rfl rfl) ?_
      refine Gq.st 12 rfl (by kernel_rfl) rfl .plain rfl (fun _ _ _ h => h) ⟨hB4, hpO, hpR, hpK⟩ (fun w' x => Still.loadA one3 rfl (x.2.2.2).1) ?_
      refine Gq.one 13 rfl (by kernel_rfl) ?_
      refine Sq.call fn105 .plain rfl rfl (l5Index_c _ ((ord (goA a) 0 (letters a.al))) _ (Own.row ho19) (((a.next.getD ((ord (goA a) 0 (letters a.al)).getD i.toNat 0).toNat []).getD k.toNat 0)) (by omega) (hisin)) ?_
      rintro _ _ ⟨rfl, rfl⟩
      refine Sq.nil ?_
      refine Eq.goes (fun _ => ⟨hB4, hpO, hpR, hpK⟩) ?_
      refine Gq.one 14 rfl (by kernel_rfl) ?_
      refine Sq.lit sl56 rfl rfl .plain rfl rfl (one_cons rfl one_nil) (fun b60 w61 e62 hlo63 ho64 _ => ?_)
      replace ho64 := ho64 w57.heap.size (Nat.le_refl _)
      have hs66 := Below.size e62
      replace E := E.trans e62
      replace hB4 := hB4.ext e62
      replace hB11 := hB11.ext e62
      replace ho19 := ho19.ext e62
      replace hBr := hBr.ext e62
      replace hor := hor.ext e62
      replace hoa := hoa.ext e62
      replace hro := hro.ext e62
      replace hpO := hpO.ext e62
      replace hpR := hpR.ext e62
      replace hpK := hpK.ext e62
      refine Sq.nil ?_
      refine Eq.goes (fun _ => ⟨hB4, hpO, hpR, hpK⟩) ?_
      refine Gq.one 15 rfl (by kernel_rfl) ?_
      refine Sq.app sl56 hro (by omega) (Own.row ho64) (one_cons rfl one_nil) (by first | omega | (simp; omega)) .plain rfl rfl rfl rfl (fun v67 w68 ho70 g69 => ?_)
      have hs71 := g69.size
      replace E := E.owned hro g69 (by omega)
      replace hB4 := hB4.owned hro g69 (by decide)
      replace hB11 := hB11.owned hro g69 (by decide)
      replace ho19 := ho19.apart hlow hro g69 (by omega)
      replace hBr := hBr.owned hro g69 (by decide)
      replace hor := hor.apart hro g69 (by omega) (by decide)
      replace hoa := hoa.owned hro g69 (by decide)
      replace hpO := hpO.apart hlow hro g69 (by omega)
      replace hpR := hpR.owned hro g69 (by decide)
      replace hpK := hpK.apart hlowR hro g69 (by omega)
      refine Sq.nil ?_
      refine Eq.goes (fun _ => ⟨hB4, hpO, hpR, hpK⟩) ?_
      refine Gq.one 16 rfl (by kernel_rfl) ?_
      refine Sq.assign .plain rfl rfl ?_
      refine Sq.nil ?_
      refine Eq.goes (fun h => absurd h (by decide)) ?_
      refine Gq.done (by kernel_rfl) ?_
      refine Eq.end ?_
      refine Eq.next ?_
      refine Cq.region ?_
      refine Sq.move .plain rfl rfl ?_
      refine Sq.add .plain rfl rfl rfl (by omega) ?_
      refine Sq.assign .plain rfl rfl ?_
      refine Sq.nil ?_
      have e2 := toNat_succ hk.1
      refine Eq.round _ _ ⟨k + 1, _, _, rfl, by omega, by omega, Own.snocI ho70, by rw [e2, rowTo_succ (by omega), ← hrow, hrg], E, hB4, hB11, ho19, hBr, hor, hoa, rfl⟩ (by omega) (.cons rfl (.cons rfl (.cons rfl (.cons rfl (.cons rfl (.cons rfl (.cons rfl (.nil))))))))
    · refine Gq.done (by kernel_rfl) ?_
      refine Eq.next ?_
      refine Cq.els rfl ?_
      refine Cq.exit ?_
      refine Eq.past ?_
      refine Eq.past ?_
      refine Eq.hit ?_
      refine Eq.next ?_
      refine Cq.seq ?_
      refine Cq.region ?_
      refine Sq.fieldAddr fld26_1 .plain rfl rfl ?_
      refine Sq.loadB one23 .plain rfl rfl hBr rfl ?_
      refine Sq.move .plain rfl rfl ?_
      obtain ⟨rs76, q77, q78, q79⟩ := OwnRows.open hor (by decide)
      have q79x := Ext.refl w47
      refine Sq.app1 sl23 q77 (by omega) (by rw [q78]; first | omega | (simp; omega)) .plain rfl rfl rfl rfl rfl rfl (Row.one (Own.row hro)) (fun v72 w73 ho75 g74 _ => ?_)
      have hs80 := g74.size
      have ho75r := q79 _ row _ _ _ (Ext.refl _) (Own.mono hro (by omega)) (by omega) ho75 g74
      replace E := E.owned q77 g74 (by omega)
      replace hB4 := hB4.owned q77 g74 (by decide)
      replace hB11 := hB11.owned q77 g74 (by decide)
      replace ho19 := ho19.owned q77 g74 (by decide)
      replace hBr := hBr.owned q77 g74 (by decide)
      replace hoa := hoa.owned q77 g74 (by decide)
      replace hro := hro.owned q77 g74 (by decide)
      refine Sq.fieldAddr fld26_1 .plain rfl rfl ?_
      refine Sq.store one23 .plain rfl rfl (Rows.one (OwnRows.rows ho75r)) hBr (by simp) (fun w81 g82 hB83 => ?_)
      have hs84 := World.grownBy.size g82
      replace E := E.grown g82 (fun k hk => by injection hk with hk; subst hk; omega)
      replace hB4 := hB4.grown g82 (by intro h; injection h with h; omega)
      replace hB11 := hB11.grown g82 (by intro h; injection h with h; omega)
      replace ho19 := ho19.stored g82 hBr (by decide)
      replace hoa := hoa.stored g82 hBr (by decide)
      replace hro := hro.stored g82 hBr (by decide)
      replace ho75r := ho75r.stored g82 hBr (by decide) (by decide)
      replace hBr := hB83
      refine Sq.nil ?_
      refine Eq.next ?_
      have hq0 := hat (by omega)
      obtain ⟨pO, hpO⟩ := Ints.at (Own.row ho19) (i := i) (by omega) (by omega)
      refine Cq.drawS 12 (fun w' => Blk w' b1 26 [Value.int .i64 a.al, nx, ac] ∧ Blk w' b24 26 [Value.int .i64 a.al, v72, acv] ∧ At w' 3 v16 i pO (.int .i64 ((ord (goA a) 0 (letters a.al)).getD i.toNat 0)) ∧ Ext w0 w') mixed (⟨hB4, hBr, hpO, E⟩) (fun w85 e86 hS => ?_)
      clear hS
      have hs87 := Below.size e86
      replace E := E.trans e86
      replace hB4 := hB4.ext e86
      replace hB11 := hB11.ext e86
      replace ho19 := ho19.ext e86
      replace hBr := hBr.ext e86
      replace hoa := hoa.ext e86
      replace hro := hro.ext e86
      replace ho75r := ho75r.ext e86
      replace hpO := hpO.ext e86
      have E_w85 := E
      have hB4_w85 := hB4
      have hB11_w85 := hB11
      have ho19_w85 := ho19
      have hBr_w85 := hBr
      have hoa_w85 := hoa
      have hro_w85 := hro
      have ho75r_w85 := ho75r
      have hpO_w85 := hpO
      refine Gq.st 0 rfl (by kernel_rfl) rfl .plain rfl (fun _ _ _ h => h) ⟨hB4, hBr, hpO, E⟩ (fun w' x => Still.fieldAddr fld26_2 rfl) ?_
      refine Gq.st 1 rfl (by kernel_rfl) rfl .plain rfl (fun _ _ _ h => h) ⟨hB4, hBr, hpO, E⟩ (fun w' x => Still.loadB one24 rfl x.2.1 rfl) ?_
      refine Gq.st 2 rfl (by kernel_rfl) rfl .plain rfl (fun _ _ _ h => h) ⟨hB4, hBr, hpO, E⟩ (fun w' x => Still.fieldAddr fld26_2 rfl) ?_
      refine Gq.st 3 rfl (by kernel_rfl) rfl .plain rfl (fun _ _ _ h => h) ⟨hB4, hBr, hpO, E⟩ (fun w' x => Still.loadB one24 rfl x.1 rfl) ?_
      refine Gq.st 4 rfl (by kernel_rfl) rfl .plain rfl (fun _ _ _ h => h) ⟨hB4, hBr, hpO, E⟩ (fun w' x => Still.move rfl) ?_
      refine Gq.st 5 rfl (by kernel_rfl) rfl .plain rfl (fun _ _ _ h => h) ⟨hB4, hBr, hpO, E⟩ (fun w' x => Still.move rfl) ?_
      refine Gq.st 6 rfl (by kernel_rfl) rfl .plain rfl (fun _ _ _ h => h) ⟨hB4, hBr, hpO, E⟩ (fun w' x => Still.at' sl56 hpO rfl rfl) ?_
      refine Gq.st 7 rfl (by kernel_rfl) rfl .plain rfl (fun _ _ _ h => h) ⟨hB4, hBr, hpO, E⟩ (fun w' x => Still.loadA one3 rfl (x.2.2.1).1) ?_
      obtain ⟨p88, hp89_w85⟩ := Bools.at hac (i := ((ord (goA a) 0 (letters a.al)).getD i.toNat 0)) (by omega) (by omega)
      refine Gq.st 8 rfl (by kernel_rfl) rfl .plain rfl (fun _ _ _ h => h) ⟨hB4, hBr, hpO, E⟩ (fun w' x => Still.at' sl24 hp89_w85 rfl rfl) ?_
      refine Gq.st 9 rfl (by kernel_rfl) rfl .plain rfl (fun _ _ _ h => h) ⟨hB4, hBr, hpO, E⟩ (fun w' x => Still.loadA one4 rfl (hp89_w85.ext (x.2.2.2)).1) ?_
      refine Gq.one 10 rfl (by kernel_rfl) ?_
      refine Sq.lit sl24 rfl rfl .plain rfl rfl (one_cons rfl one_nil) (fun b90 w91 e92 hlo93 ho94 _ => ?_)
      replace ho94 := ho94 w85.heap.size (Nat.le_refl _)
      have hs96 := Below.size e92
      replace E := E.trans e92
      replace hB4 := hB4.ext e92
      replace hB11 := hB11.ext e92
      replace ho19 := ho19.ext e92
      replace hBr := hBr.ext e92
      replace hoa := hoa.ext e92
      replace hro := hro.ext e92
      replace ho75r := ho75r.ext e92
      replace hpO := hpO.ext e92
      refine Sq.nil ?_
      refine Eq.goes (fun _ => ⟨hB4, hBr, hpO, E⟩) ?_
      refine Gq.one 11 rfl (by kernel_rfl) ?_
      refine Sq.app sl24 hoa (by omega) (Own.row ho94) (one_cons rfl one_nil) (by first | omega | (simp; omega)) .plain rfl rfl rfl rfl (fun v97 w98 ho100 g99 => ?_)
      have hs101 := g99.size
      replace E := E.owned hoa g99 (by omega)
      replace hB4 := hB4.owned hoa g99 (by decide)
      replace hB11 := hB11.owned hoa g99 (by decide)
      replace ho19 := ho19.owned hoa g99 (by decide)
      replace hBr := hBr.owned hoa g99 (by decide)
      replace hro := hro.owned hoa g99 (by decide)
      replace ho75r := ho75r.owned hoa g99 (by decide) (by decide)
      replace hpO := hpO.owned hoa g99 (by decide)
      refine Sq.nil ?_
      refine Eq.goes (fun _ => ⟨hB4, hBr, hpO, E⟩) ?_
      refine Gq.one 12 rfl (by kernel_rfl) ?_
      refine Sq.fieldAddr fld26_2 .plain rfl rfl ?_
      refine Sq.nil ?_
      refine Eq.goes (fun h => absurd h (by decide)) ?_
      refine Gq.one 13 rfl (by kernel_rfl) ?_
      refine Sq.store one24 .plain rfl rfl (Row.one (Own.row ho100)) hBr (by simp) (fun w102 g103 hB104 => ?_)
      have hs105 := World.grownBy.size g103
      replace E := E.grown g103 (fun k hk => by injection hk with hk; subst hk; omega)
      replace hB4 := hB4.grown g103 (by intro h; injection h with h; omega)
      replace hB11 := hB11.grown g103 (by intro h; injection h with h; omega)
      replace ho19 := ho19.stored g103 hBr (by decide)
      replace hro := hro.stored g103 hBr (by decide)
      replace ho75r := ho75r.stored g103 hBr (by decide) (by decide)
      replace hpO := hpO.stored g103 hBr (by decide)
      replace ho100 := ho100.stored g103 hBr (by decide)
      replace hBr := hB104
      refine Sq.nil ?_
      refine Eq.goes (fun h => absurd h (by decide)) ?_
      refine Gq.done (by kernel_rfl) ?_
      refine Eq.end ?_
      refine Eq.next ?_
      refine Cq.region ?_
      refine Sq.move .plain rfl rfl ?_
      refine Sq.add .plain rfl rfl rfl (by omega) ?_
      refine Sq.assign .plain rfl rfl ?_
      refine Sq.nil ?_
      have e1 := toNat_succ hi.1
      refine Eq.round _ _ ⟨i + 1, _, _, _, _, rfl, by omega, hBr, OwnRows.now ho75r, Own.snocB ho100, by rw [e1, take_snoc 0 (by omega), List.map_append, ← hxs, hrow, rowTo_done (k := k.toNat) (by omega)]; rfl, by rw [e1, take_snoc 0 (by omega), List.map_append, ← hys]; rfl, E, hB4, hB11, ho19, rfl⟩ (by omega) (.cons rfl (.cons rfl (.cons rfl (.cons rfl (.cons rfl (.nil))))))
  · refine Sq.nil ?_
    refine Eq.next ?_
    refine Cq.els rfl ?_
    refine Cq.exit ?_
    refine Eq.past ?_
    refine Eq.past ?_
    refine Eq.hit ?_
    refine Eq.next ?_
    refine Cq.seq ?_
    refine Cq.region ?_
    refine Sq.loadAgg agg26 .plain rfl rfl hBr rfl ?_
    refine Sq.storeAgg agg26 .plain rfl rfl (one_cons rfl (one_cons (Rows.one (OwnRows.rows hor)) (one_cons (Row.one (Own.row hoa)) one_nil))) hB11 rfl rfl (fun w106 g107 hB108 => ?_)
    have hs109 := World.grownBy.size g107
    replace E := E.grown g107 (fun k hk => by injection hk with hk; subst hk; omega)
    replace hB4 := hB4.grown g107 (by intro h; injection h with h; omega)
    replace ho19 := ho19.stored g107 hB11 (by decide)
    replace hBr := hBr.grown g107 (by intro h; injection h with h; omega)
    replace hor := hor.stored g107 hB11 (by decide) (by decide)
    replace hoa := hoa.stored g107 hB11 (by decide)
    replace hB11 := hB108
    refine Sq.nil ?_
    refine Eq.next ?_
    refine Cq.ret ?_
    refine Eq.retCell rfl rfl agg26 hB11 rfl ?_
    have e : ys = (trim a).acc := by rw [hys, List.take_of_length_le (by omega)]; rfl
    have e2 : xss = (trim a).next := by rw [hxs, List.take_of_length_le (by omega)]; rfl
    rw [e] at hoa
    rw [e2] at hor
    exact ⟨⟨_, _, rfl, OwnRows.now hor, hoa⟩, E⟩

set_option maxRecDepth 100000 in
theorem sTrimA_c (w0 : World) (a : A) (nx ac : Value) (hnx : Rows w0 56 3 nx a.next) (hac : Bools w0 4 ac a.acc) : Ret Try.prog 36 #[Value.agg #[Value.int .i64 a.al, nx, ac]] w0 (fun v w => (∃ u, v = .tuple #[u, .bool (validA a)] ∧ OwnA w w0.heap.size u (if validA a then trim a else zeroA)) ∧ Ext w0 w) := by
  have E := Ext.refl w0
  refine Ret.of (args := [Value.agg #[Value.int .i64 a.al, nx, ac]]) Try.func36 rfl rfl rfl ?_
  rintro _ rfl
  show Cq _ _ _ _ [(0, Value.agg #[Value.int .i64 a.al, nx, ac])] _
  refine Cq.seq ?_
  refine Cq.region ?_
  refine Sq.box .plain rfl rfl (fun b1 w2 e3 hB4 hlo5 => ?_)
  have hd6 := Nat.le_trans (Below.size E) hlo5
  have hs7 := Below.size e3
  replace E := E.trans e3
  refine Sq.alloc zero26 .plain rfl (fun b8 w9 e10 hB11 hlo12 => ?_)
  have hd13 := Nat.le_trans (Below.size E) hlo12
  have hd14 := Nat.lt_of_lt_of_le hB4.lt hlo12
  have hs15 := Below.size e10
  replace E := E.trans e10
  replace hB4 := hB4.ext e10
  refine Sq.assign .plain rfl rfl ?_
  refine Sq.nil ?_
  refine Eq.next ?_
  refine Cq.seq ?_
  refine Cq.seq ?_
  refine Cq.region ?_
  refine Sq.loadAgg agg26 .plain rfl rfl hB4 rfl ?_
  have hd19 := hB4.lt
  have hd20 := hB11.lt
  refine Sq.call fn52 .plain rfl rfl (sValid_c _ a _ _ (hnx.ext E) (hac.ext E)) ?_
  rintro _ w17 ⟨rfl, e18⟩
  have hs21 := Below.size E
  have hs22 := Below.size e18
  replace E := E.trans e18
  replace hB4 := hB4.ext e18
  replace hB11 := hB11.ext e18
  refine Sq.partB (fun hv => ?_) (fun hv => ?_)
  · refine Sq.notT .plain rfl rfl ?_
    refine Sq.nil ?_
    refine Eq.next ?_
    refine Cq.els rfl ?_
    refine Cq.skip ?_
    refine Eq.next ?_
    refine Cq.seq ?_
    refine Cq.region ?_
    refine Sq.loadAgg agg26 .plain rfl rfl hB4 rfl ?_
    have hd30 := hB4.lt
    have hd31 := hB11.lt
    refine Sq.call fn80 .plain rfl rfl (l5Trim_c _ a _ _ (hnx.ext E) (hac.ext E) hv) ?_
    rintro _ w24 ⟨⟨nx26, ac27, rfl, hn28, ha29⟩, e25⟩
    have hs32 := Below.size E
    have hs33 := Below.size e25
    replace E := E.trans e25
    replace hB4 := hB4.ext e25
    replace hB11 := hB11.ext e25
    refine Sq.storeAgg agg26 .plain rfl rfl (one_cons rfl (one_cons (Rows.one (OwnRows.rows hn28)) (one_cons (Row.one (Own.row ha29)) one_nil))) hB11 rfl rfl (fun w34 g35 hB36 => ?_)
    have hs37 := World.grownBy.size g35
    replace E := E.grown g35 (fun k hk => by injection hk with hk; subst hk; omega)
    replace hB4 := hB4.grown g35 (by intro h; injection h with h; omega)
    replace hn28 := hn28.stored g35 hB11 (by decide) (by decide)
    replace ha29 := ha29.stored g35 hB11 (by decide)
    replace hB11 := hB36
    refine Sq.assign .plain rfl rfl ?_
    refine Sq.nil ?_
    refine Eq.next ?_
    refine Cq.ret ?_
    refine Eq.retCell2 rfl rfl agg26 hB11 rfl rfl ?_
    exact ⟨⟨_, by rw [hv], by rw [if_pos hv]; exact ⟨_, _, rfl, OwnRows.now (OwnRows.mono hn28 (by omega)), Own.mono ha29 (by omega)⟩⟩, E⟩
  · refine Sq.notF .plain rfl rfl ?_
    refine Sq.nil ?_
    refine Eq.next ?_
    refine Cq.thn rfl ?_
    refine Cq.seq ?_
    refine Cq.region ?_
    refine Sq.build st26 rfl rfl .plain rfl rfl one_nil rfl ?_
    refine Sq.storeAgg agg26 .plain rfl rfl (one_cons rfl (one_cons rfl (one_cons rfl one_nil))) hB11 rfl rfl (fun w38 g39 hB40 => ?_)
    have hs41 := World.grownBy.size g39
    replace E := E.grown g39 (fun k hk => by injection hk with hk; subst hk; omega)
    replace hB4 := hB4.grown g39 (by intro h; injection h with h; omega)
    replace hB11 := hB40
    refine Sq.assign .plain rfl rfl ?_
    refine Sq.nil ?_
    refine Eq.next ?_
    refine Cq.ret ?_
    refine Eq.pastRet ?_
    refine Eq.retCell2 rfl rfl agg26 hB11 rfl rfl ?_
    exact ⟨⟨_, by rw [hv], by rw [if_neg (by simp [hv])]; exact ⟨_, _, rfl, OwnRows.nil _ _ _ _ _, Own.nil _ _ _⟩⟩, E⟩

theorem sTrimA_c_T (w0 : World) (a : A) (nx ac : Value) (hnx : Rows w0 56 3 nx a.next) (hac : Bools w0 4 ac a.acc) (hC : (validA a) = true) : Ret Try.prog 36 #[Value.agg #[Value.int .i64 a.al, nx, ac]] w0 (fun v w => (∃ u, v = .tuple #[u, .bool true] ∧ OwnA w w0.heap.size u (trim a)) ∧ Ext w0 w) :=
  (sTrimA_c w0 a nx ac hnx hac).mono fun v w h => by rw [hC, if_pos rfl] at h; exact h
theorem sTrimA_c_F (w0 : World) (a : A) (nx ac : Value) (hnx : Rows w0 56 3 nx a.next) (hac : Bools w0 4 ac a.acc) (hC : (validA a) = false) : Ret Try.prog 36 #[Value.agg #[Value.int .i64 a.al, nx, ac]] w0 (fun v w => (∃ u, v = .tuple #[u, .bool false] ∧ OwnA w w0.heap.size u (zeroA)) ∧ Ext w0 w) :=
  (sTrimA_c w0 a nx ac hnx hac).mono fun v w h => by rw [hC, if_neg (by decide)] at h; exact h

end Go.Proofs.Ytdejmfkpohgamaa
