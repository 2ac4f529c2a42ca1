/-
  The texts of this proof, joined (wip/merge.py): the calculus of slots, plain mathematics, walks.
-/
import Derived.Test.YtnckpafknojdhaaDoorGa2
set_option linter.unusedSimpArgs false
set_option linter.unusedVariables false
namespace Go.Proofs.YtnckpafknojdhaaDoor
open Go.RowKit
set_option maxRecDepth 100000 in
theorem l5Minimal_c (w0 : World) (a : A) (nx ac : Value) (hnx : Rows w0 41 3 nx a.next) (hac : Bools w0 4 ac a.acc) (hv0 : validA a = true) : Ret Tryd.prog 40 #[Value.agg #[Value.int .i64 a.al, nx, ac]] w0 (fun v w => OwnA w w0.heap.size v (minS a) ∧ Ext w0 w) := by
  have E := Ext.refl w0
  have hv := hv0
  refine Ret.of (args := [Value.agg #[Value.int .i64 a.al, nx, ac]]) Tryd.func40 rfl rfl rfl ?_
  rintro _ rfl
  show Cq _ _ _ _ [(0, Value.agg #[Value.int .i64 a.al, nx, ac])] _
  refine Cq.seq ?_
  refine Cq.region ?_
  refine Sq.box .plain rfl rfl (fun b1 w2 e3 hB4 hlo5 => ?_)
  have hd6 := Nat.le_trans (Below.size E) hlo5
  have hs7 := Below.size e3
  replace E := E.trans e3
  refine Sq.alloc zero25 .plain rfl (fun b8 w9 e10 hB11 hlo12 => ?_)
  have hd13 := Nat.le_trans (Below.size E) hlo12
  have hd14 := Nat.lt_of_lt_of_le hB4.lt hlo12
  have hs15 := Below.size e10
  replace E := E.trans e10
  replace hB4 := hB4.ext e10
  refine Sq.nil ?_
  refine Eq.next ?_
  refine Cq.seq ?_
  refine Cq.region ?_
  refine Sq.loadAgg agg25 .plain rfl rfl hB4 rfl ?_
  have hd23 := hB4.lt
  have hd24 := hB11.lt
  refine Sq.call fn63 .plain rfl rfl (l5Trim_c _ a _ _ (hnx.ext E) (hac.ext E) hv0) ?_
  rintro _ w17 ⟨⟨nx19, ac20, rfl, hn21, ha22⟩, e18⟩
  have hs25 := Below.size E
  have hs26 := Below.size e18
  replace E := E.trans e18
  replace hB4 := hB4.ext e18
  replace hB11 := hB11.ext e18
  refine Sq.alloc zero25 .plain rfl (fun b27 w28 e29 hB30 hlo31 => ?_)
  have hd32 := Nat.le_trans (Below.size E) hlo31
  have hd33 := Nat.lt_of_lt_of_le hB4.lt hlo31
  have hd34 := Nat.lt_of_lt_of_le hB11.lt hlo31
  have hs35 := Below.size e29
  replace E := E.trans e29
  replace hB4 := hB4.ext e29
  replace hB11 := hB11.ext e29
  replace hn21 := hn21.ext e29
  replace ha22 := ha22.ext e29
  refine Sq.storeAgg agg25 .plain rfl rfl (one_cons rfl (one_cons (Rows.one (OwnRows.rows hn21)) (one_cons (Row.one (Own.row ha22)) one_nil))) hB30 rfl rfl (fun w36 g37 hB38 => ?_)
  have hs39 := World.grownBy.size g37
  replace E := E.grown g37 (fun k hk => by injection hk with hk; subst hk; omega)
  replace hB4 := hB4.grown g37 (by intro h; injection h with h; omega)
  replace hB11 := hB11.grown g37 (by intro h; injection h with h; omega)
  replace hn21 := hn21.stored g37 hB30 (by decide) (by decide)
  replace ha22 := ha22.stored g37 hB30 (by decide)
  replace hB30 := hB38
  refine Sq.nil ?_
  refine Eq.next ?_
  refine Cq.seq ?_
  refine Cq.region ?_
  replace hv := trim_valid hv0
  have hvs := validA_spec.1 hv
  have hv1 := hvs.2.1
  have hv2 := hvs.2.2.1
  have hcl := classes_length hv
  have hnc := nCls_le hv
  have hl6 := letters_len6 (trim a).al
  refine Sq.loadAgg agg25 .plain rfl rfl hB30 rfl ?_
  have hd45 := hB4.lt
  have hd46 := hB11.lt
  have hd47 := hB30.lt
  refine Sq.call fn64 .plain rfl rfl (l5Classes_c _ (trim a) _ _ (OwnRows.rows hn21) (Own.row ha22) hv) ?_
  rintro _ w41 ⟨⟨nv43, rfl, hl44⟩, e42⟩
  have hs48 := Below.size E
  have hs49 := Below.size e42
  replace E := E.trans e42
  replace hB4 := hB4.ext e42
  replace hB11 := hB11.ext e42
  replace hn21 := hn21.ext e42
  replace ha22 := ha22.ext e42
  replace hB30 := hB30.ext e42
  refine Sq.move .plain rfl rfl ?_
  refine Sq.extract .plain rfl rfl rfl ?_
  refine Sq.extract .plain rfl rfl rfl ?_
  refine Sq.assign .plain rfl rfl ?_
  refine Sq.assign .plain rfl rfl ?_
  refine Sq.nil ?_
  refine Eq.next ?_
  refine Cq.seq ?_
  refine Cq.region ?_
  replace hn21 := OwnRows.rows hn21
  replace ha22 := Own.row ha22
  replace hl44 := Own.row hl44
  have Ew := Ext.refl w41
  refine Sq.fieldAddr fld25_0 .plain rfl rfl ?_
  refine Sq.loadB one3 .plain rfl rfl hB4 rfl ?_
  refine Sq.build st25 rfl rfl .plain rfl rfl (one_cons rfl one_nil) rfl ?_
  refine Sq.alloc zero25 .plain rfl (fun b50 w51 e52 hB53 hlo54 => ?_)
  have hd55 := Nat.le_trans (Below.size E) hlo54
  have hd56 := Nat.lt_of_lt_of_le hB4.lt hlo54
  have hd57 := Nat.lt_of_lt_of_le hB11.lt hlo54
  have hd58 := Nat.lt_of_lt_of_le hB30.lt hlo54
  have hd59 := Nat.le_trans (Below.size Ew) hlo54
  have hs60 := Below.size e52
  replace E := E.trans e52
  replace hB4 := hB4.ext e52
  replace hB11 := hB11.ext e52
  replace hB30 := hB30.ext e52
  replace Ew := Ew.trans e52
  refine Sq.storeAgg agg25 .plain rfl rfl (one_cons rfl (one_cons rfl (one_cons rfl one_nil))) hB53 rfl rfl (fun w61 g62 hB63 => ?_)
  have hs64 := World.grownBy.size g62
  replace E := E.grown g62 (fun k hk => by injection hk with hk; subst hk; omega)
  replace hB4 := hB4.grown g62 (by intro h; injection h with h; omega)
  replace hB11 := hB11.grown g62 (by intro h; injection h with h; omega)
  replace hB30 := hB30.grown g62 (by intro h; injection h with h; omega)
  replace Ew := Ew.grown g62 (fun k hk => by injection hk with hk; subst hk; omega)
  replace hB53 := hB63
  refine Sq.nil ?_
  refine Eq.next ?_
  refine Cq.seq ?_
  refine Cq.seq ?_
  refine Cq.region ?_
  refine Sq.assign .plain rfl rfl ?_
  refine Sq.nil ?_
  refine Eq.next ?_
  refine Cq.block ?_
  refine Cq.loop (fun nn w ls => ∃ (c : Int), ∃ (nxv : Value), ∃ (acv : Value), ∃ (xss : List (List Int)), ∃ (ys : List Bool), ls = [(1, Value.pointer (some ⟨b1, 0, none⟩)), (2, Value.pointer (some ⟨b8, 0, none⟩)), (3, Value.pointer (some ⟨b27, 0, none⟩)), (4, nv43), (5, Value.int .i64 ((nCls (trim a) : Int))), (6, Value.pointer (some ⟨b50, 0, none⟩)), (7, Value.int .i64 c)] ∧ (0 ≤ c ∧ c ≤ nCls (trim a)) ∧ Blk w b50 25 [Value.int .i64 a.al, nxv, acv] ∧ OwnRows w w41.heap.size w.heap.size 41 3 nxv xss ∧ Own w w41.heap.size 4 acv (ys.map Value.bool) ∧ xss = (qRows (trim a) c.toNat) ∧ ys = (qAccs (trim a) c.toNat) ∧ Ext w0 w ∧ Ext w41 w ∧ Blk w b1 25 [Value.int .i64 a.al, nx, ac] ∧ Blk w b8 25 [Value.int .i64 0, Value.slice none 0 0, Value.slice none 0 0] ∧ Blk w b27 25 [Value.int .i64 ((trim a).al), nx19, ac20] ∧ nn = ((nCls (trim a) : Int) - c).toNat) _ _ ⟨0, _, _, [], [], rfl, by omega, hB53, OwnRows.nil _ _ _ _ _, Own.nil _ _ _, rfl, rfl, E, Ew, hB4, hB11, hB30, rfl⟩ (.cons rfl (.cons rfl (.cons rfl (.cons rfl (.cons rfl (.cons rfl (.cons rfl (.nil)))))))) ?_
  rintro nn wl1 ls ⟨c, nxv, acv, xss, ys, rfl, hc, hBr, hor, hoa, hxs, hys, E, Ew, hB4, hB11, hB30, rfl⟩
  have hs65 := Below.size E
  have hs66 := Below.size Ew
  have hxl : xss.length = c.toNat := by rw [hxs]; exact qRows_length _
  have hyl : ys.length = c.toNat := by rw [hys]; exact qAccs_length _
  refine Cq.seq ?_
  refine Cq.seq ?_
  refine Cq.region ?_
  refine Sq.move .plain rfl rfl ?_
  refine Sq.move .plain rfl rfl ?_
  refine Sq.lss .plain rfl rfl rfl ?_
  refine Sq.part (fun c67 => ?_) (fun c67 => ?_)
  · refine Sq.nil ?_
    refine Eq.next ?_
    refine Cq.thn rfl ?_
    refine Cq.skip ?_
    refine Eq.next ?_
    refine Cq.seq ?_
    refine Cq.block ?_
    refine Cq.seq ?_
    refine Cq.region ?_
    obtain ⟨hcm, q, hqe, hqb, hqc⟩ := rep_get hv (c := c) (by omega)
    refine Sq.move .plain rfl rfl ?_
    refine Sq.move .plain rfl rfl ?_
    refine Sq.call fn65 .plain rfl rfl (l5Index_c _ ((classes (trim a))) _ (hl44.ext Ew) c (by omega) (hcm)) ?_
    rintro _ _ ⟨rfl, rfl⟩
    rw [hqe]
    refine Sq.assign .plain rfl rfl ?_
    refine Sq.nil ?_
    refine Eq.next ?_
    refine Cq.seq ?_
    refine Cq.region ?_
    refine Sq.lit sl41 rfl rfl .plain rfl rfl one_nil (fun b68 w69 e70 hlo71 ho72 _ => ?_)
    replace ho72 := ho72 wl1.heap.size (Nat.le_refl _)
    have hs74 := Below.size e70
    replace E := E.trans e70
    replace Ew := Ew.trans e70
    replace hB4 := hB4.ext e70
    replace hB11 := hB11.ext e70
    replace hB30 := hB30.ext e70
    replace hBr := hBr.ext e70
    replace hor := hor.ext e70
    replace hoa := hoa.ext e70
    refine Sq.assign .plain rfl rfl ?_
    refine Sq.nil ?_
    refine Eq.next ?_
    refine Cq.seq ?_
    refine Cq.seq ?_
    refine Cq.region ?_
    refine Sq.assign .plain rfl rfl ?_
    refine Sq.nil ?_
    refine Eq.next ?_
    refine Cq.block ?_
    have hvr := valid_row hv (k := q.toNat) (by omega)
    refine Cq.loop (fun nn w ls => ∃ (k : Int), ∃ (rv : Value), ∃ (row : List Int), ls = [(1, Value.pointer (some ⟨b1, 0, none⟩)), (2, Value.pointer (some ⟨b8, 0, none⟩)), (3, Value.pointer (some ⟨b27, 0, none⟩)), (4, nv43), (5, Value.int .i64 ((nCls (trim a) : Int))), (6, Value.pointer (some ⟨b50, 0, none⟩)), (7, Value.int .i64 c), (8, Value.int .i64 q), (9, rv), (10, Value.int .i64 k)] ∧ (0 ≤ k ∧ k ≤ ((trim a).next.getD q.toNat []).length) ∧ wl1.heap.size ≤ w.heap.size ∧ Own w wl1.heap.size 3 rv (row.map (Value.int .i64)) ∧ row = rowQTo (trim a) (classes (trim a)) q.toNat k.toNat ∧ Ext w0 w ∧ Ext w41 w ∧ Blk w b1 25 [Value.int .i64 a.al, nx, ac] ∧ Blk w b8 25 [Value.int .i64 0, Value.slice none 0 0, Value.slice none 0 0] ∧ Blk w b27 25 [Value.int .i64 ((trim a).al), nx19, ac20] ∧ Blk w b50 25 [Value.int .i64 a.al, nxv, acv] ∧ OwnRows w w41.heap.size wl1.heap.size 41 3 nxv xss ∧ Own w w41.heap.size 4 acv (ys.map Value.bool) ∧ nn = ((((trim a).next.getD q.toNat []).length : Int) - k).toNat) _ _ ⟨0, _, [], rfl, by omega, by omega, Own.mono ho72 (by omega), rfl, E, Ew, hB4, hB11, hB30, hBr, hor, hoa, rfl⟩ (.cons rfl (.cons rfl (.cons rfl (.cons rfl (.cons rfl (.cons rfl (.cons rfl (.cons rfl (.cons rfl (.cons rfl (.nil))))))))))) ?_
    rintro nn wl2 ls ⟨k, rv, row, rfl, hk, hsz, hro, hrow, E, Ew, hB4, hB11, hB30, hBr, hor, hoa, rfl⟩
    have hs75 := Below.size E
    have hs76 := Below.size Ew
    have hrl : row.length ≤ 6 := by rw [hrow]; exact rowQTo_len hv _ (by omega) _
    have hvt := valid_at hv (k := q.toNat) (j := k.toNat)
    refine Cq.seq ?_
    refine Cq.seq ?_
    refine Cq.region ?_
    refine Sq.move .plain rfl rfl ?_
    refine Sq.fieldAddr fld25_1 .plain rfl rfl ?_
    refine Sq.loadB one22 .plain rfl rfl hB30 rfl ?_
    refine Sq.move .plain rfl rfl ?_
    refine Sq.idxRows sl22 one41 (hn21.ext Ew) .plain rfl rfl rfl .plain rfl rfl (by omega) (by omega) (fun r77 hr78 => ?_)
    refine Sq.lenInts hr78 .plain rfl und41 rfl ?_
    refine Sq.lss .plain rfl rfl rfl ?_
    refine Sq.part (fun c79 => ?_) (fun c79 => ?_)
    · refine Sq.nil ?_
      refine Eq.next ?_
      refine Cq.thn rfl ?_
      refine Cq.skip ?_
      refine Eq.next ?_
      refine Cq.seq ?_
      refine Cq.block ?_
      refine Cq.region ?_
      refine Sq.move .plain rfl rfl ?_
      refine Sq.move .plain rfl rfl ?_
      refine Sq.fieldAddr fld25_1 .plain rfl rfl ?_
      refine Sq.loadB one22 .plain rfl rfl hB30 rfl ?_
      refine Sq.move .plain rfl rfl ?_
      refine Sq.idxRows sl22 one41 (hn21.ext Ew) .plain rfl rfl rfl .plain rfl rfl (by omega) (by omega) (fun r80 hr81 => ?_)
      refine Sq.move .plain rfl rfl ?_
      refine Sq.idxInts sl41 one3 hr81 .plain rfl rfl rfl .plain rfl rfl (by omega) (by omega) ?_
      refine Sq.idxInts sl41 one3 (hl44.ext Ew) .plain rfl rfl rfl .plain rfl rfl (by have := hvt (by omega) (by omega); omega) (by have := hvt (by omega) (by omega); omega) ?_
      refine Sq.app1 sl41 hro (by omega) (by first | omega | (simp; omega)) .plain rfl rfl rfl rfl rfl rfl rfl (fun v82 w83 ho85 g84 _ => ?_)
      have hs86 := g84.size
      replace E := E.owned hro g84 (by omega)
      replace Ew := Ew.owned hro g84 (by omega)
      replace hB4 := hB4.owned hro g84 (by decide)
      replace hB11 := hB11.owned hro g84 (by decide)
      replace hB30 := hB30.owned hro g84 (by decide)
      replace hBr := hBr.owned hro g84 (by decide)
      replace hor := hor.apart hro g84 (by omega) (by decide)
      replace hoa := hoa.owned hro g84 (by decide)
      refine Sq.assign .plain rfl rfl ?_
      refine Sq.nil ?_
      refine Eq.end ?_
      refine Eq.next ?_
      refine Cq.region ?_
      refine Sq.move .plain rfl rfl ?_
      refine Sq.add .plain rfl rfl rfl (by omega) ?_
      refine Sq.assign .plain rfl rfl ?_
      refine Sq.nil ?_
      have e2 := toNat_succ hk.1
      refine Eq.round _ _ ⟨k + 1, _, _, rfl, by omega, by omega, Own.snocI ho85, by rw [e2, rowQTo_succ (by omega), ← hrow], E, Ew, hB4, hB11, hB30, hBr, hor, hoa, rfl⟩ (by omega) (.cons rfl (.cons rfl (.cons rfl (.cons rfl (.cons rfl (.cons rfl (.cons rfl (.cons rfl (.cons rfl (.cons rfl (.nil)))))))))))
    refine Sq.nil ?_
    refine Eq.next ?_
    refine Cq.els rfl ?_
    refine Cq.exit ?_
    refine Eq.past ?_
    refine Eq.past ?_
    refine Eq.hit ?_
    refine Eq.next ?_
    refine Cq.seq ?_
    refine Cq.region ?_
    refine Sq.fieldAddr fld25_1 .plain rfl rfl ?_
    refine Sq.loadB one22 .plain rfl rfl hBr rfl ?_
    refine Sq.move .plain rfl rfl ?_
    obtain ⟨rs91, q92, q93, q94⟩ := OwnRows.open hor (by decide)
    have q94x := Ext.refl wl2
    refine Sq.app1 sl22 q92 (by omega) (by rw [q93]; first | omega | (simp; omega)) .plain rfl rfl rfl rfl rfl rfl (Row.one (Own.row hro)) (fun v87 w88 ho90 g89 _ => ?_)
    have hs95 := g89.size
    have ho90r := q94 _ row _ _ _ (Ext.refl _) (Own.mono hro (by omega)) (by omega) ho90 g89
    replace E := E.owned q92 g89 (by omega)
    replace Ew := Ew.owned q92 g89 (by omega)
    replace hB4 := hB4.owned q92 g89 (by decide)
    replace hB11 := hB11.owned q92 g89 (by decide)
    replace hB30 := hB30.owned q92 g89 (by decide)
    replace hBr := hBr.owned q92 g89 (by decide)
    replace hoa := hoa.owned q92 g89 (by decide)
    refine Sq.fieldAddr fld25_1 .plain rfl rfl ?_
    refine Sq.store one22 .plain rfl rfl (Rows.one (OwnRows.rows ho90r)) hBr (by simp) (fun w96 g97 hB98 => ?_)
    have hs99 := World.grownBy.size g97
    replace E := E.grown g97 (fun k hk => by injection hk with hk; subst hk; omega)
    replace Ew := Ew.grown g97 (fun k hk => by injection hk with hk; subst hk; omega)
    replace hB4 := hB4.grown g97 (by intro h; injection h with h; omega)
    replace hB11 := hB11.grown g97 (by intro h; injection h with h; omega)
    replace hB30 := hB30.grown g97 (by intro h; injection h with h; omega)
    replace hoa := hoa.stored g97 hBr (by decide)
    replace ho90r := ho90r.stored g97 hBr (by decide) (by decide)
    replace hBr := hB98
    refine Sq.nil ?_
    refine Eq.next ?_
    refine Cq.drawS 9 (fun w' => Blk w' b27 25 [Value.int .i64 ((trim a).al), nx19, ac20] ∧ Blk w' b50 25 [Value.int .i64 a.al, v87, acv] ∧ Ext w41 w') mixed (⟨hB30, hBr, Ew⟩) (fun w100 e101 hS => ?_)
    clear hS
    have hs102 := Below.size e101
    replace E := E.trans e101
    replace Ew := Ew.trans e101
    replace hB4 := hB4.ext e101
    replace hB11 := hB11.ext e101
    replace hB30 := hB30.ext e101
    replace hBr := hBr.ext e101
    replace hoa := hoa.ext e101
    replace ho90r := ho90r.ext e101
    refine Gq.st 0 rfl (by kernel_rfl) rfl .plain rfl (fun _ _ _ h => h) ⟨hB30, hBr, Ew⟩ (fun w' x => Still.fieldAddr fld25_2 rfl) ?_
    refine Gq.st 1 rfl (by kernel_rfl) rfl .plain rfl (fun _ _ _ h => h) ⟨hB30, hBr, Ew⟩ (fun w' x => Still.loadB one23 rfl x.2.1 rfl) ?_
    refine Gq.st 2 rfl (by kernel_rfl) rfl .plain rfl (fun _ _ _ h => h) ⟨hB30, hBr, Ew⟩ (fun w' x => Still.fieldAddr fld25_2 rfl) ?_
    refine Gq.st 3 rfl (by kernel_rfl) rfl .plain rfl (fun _ _ _ h => h) ⟨hB30, hBr, Ew⟩ (fun w' x => Still.loadB one23 rfl x.1 rfl) ?_
    refine Gq.st 4 rfl (by kernel_rfl) rfl .plain rfl (fun _ _ _ h => h) ⟨hB30, hBr, Ew⟩ (fun w' x => Still.move rfl) ?_
    obtain ⟨p103, hp104_w100⟩ := Bools.at ha22 (i := q) (by omega) (by omega)
    refine Gq.st 5 rfl (by kernel_rfl) rfl .plain rfl (fun _ _ _ h => h) ⟨hB30, hBr, Ew⟩ (fun w' x => Still.at' sl23 hp104_w100 rfl rfl) ?_
    refine Gq.st 6 rfl (by kernel_rfl) rfl .plain rfl (fun _ _ _ h => h) ⟨hB30, hBr, Ew⟩ (fun w' x => Still.loadA one4 rfl (hp104_w100.ext (x.2.2)).1) ?_
    refine Gq.one 7 rfl (by kernel_rfl) ?_
    refine Sq.lit sl23 rfl rfl .plain rfl rfl (one_cons rfl one_nil) (fun b105 w106 e107 hlo108 ho109 _ => ?_)
    replace ho109 := ho109 w100.heap.size (Nat.le_refl _)
    have hs111 := Below.size e107
    replace E := E.trans e107
    replace Ew := Ew.trans e107
    replace hB4 := hB4.ext e107
    replace hB11 := hB11.ext e107
    replace hB30 := hB30.ext e107
    replace hBr := hBr.ext e107
    replace hoa := hoa.ext e107
    replace ho90r := ho90r.ext e107
    refine Sq.nil ?_
    refine Eq.goes (fun _ => ⟨hB30, hBr, Ew⟩) ?_
    refine Gq.one 8 rfl (by kernel_rfl) ?_
    refine Sq.app sl23 hoa (by omega) (Own.row ho109) (one_cons rfl one_nil) (by first | omega | (simp; omega)) .plain rfl rfl rfl rfl (fun v112 w113 ho115 g114 => ?_)
    have hs116 := g114.size
    replace E := E.owned hoa g114 (by omega)
    replace Ew := Ew.owned hoa g114 (by omega)
    replace hB4 := hB4.owned hoa g114 (by decide)
    replace hB11 := hB11.owned hoa g114 (by decide)
    replace hB30 := hB30.owned hoa g114 (by decide)
    replace hBr := hBr.owned hoa g114 (by decide)
    replace ho90r := ho90r.owned hoa g114 (by decide) (by decide)
    refine Sq.nil ?_
    refine Eq.goes (fun _ => ⟨hB30, hBr, Ew⟩) ?_
    refine Gq.one 9 rfl (by kernel_rfl) ?_
    refine Sq.fieldAddr fld25_2 .plain rfl rfl ?_
    refine Sq.nil ?_
    refine Eq.goes (fun h => absurd h (by decide)) ?_
    refine Gq.one 10 rfl (by kernel_rfl) ?_
    refine Sq.store one23 .plain rfl rfl (Row.one (Own.row ho115)) hBr (by simp) (fun w117 g118 hB119 => ?_)
    have hs120 := World.grownBy.size g118
    replace E := E.grown g118 (fun k hk => by injection hk with hk; subst hk; omega)
    replace Ew := Ew.grown g118 (fun k hk => by injection hk with hk; subst hk; omega)
    replace hB4 := hB4.grown g118 (by intro h; injection h with h; omega)
    replace hB11 := hB11.grown g118 (by intro h; injection h with h; omega)
    replace hB30 := hB30.grown g118 (by intro h; injection h with h; omega)
    replace ho90r := ho90r.stored g118 hBr (by decide) (by decide)
    replace ho115 := ho115.stored g118 hBr (by decide)
    replace hBr := hB119
    refine Sq.nil ?_
    refine Eq.goes (fun h => absurd h (by decide)) ?_
    refine Gq.done (by kernel_rfl) ?_
    refine Eq.end ?_
    refine Eq.next ?_
    refine Cq.region ?_
    refine Sq.move .plain rfl rfl ?_
    refine Sq.add .plain rfl rfl rfl (by omega) ?_
    refine Sq.assign .plain rfl rfl ?_
    refine Sq.nil ?_
    have e1 := toNat_succ hc.1
    refine Eq.round _ _ ⟨c + 1, _, _, _, _, rfl, by omega, hBr, OwnRows.now ho90r, Own.snocB ho115, by rw [e1, qRows_succ, ← hqc, ← rowQTo_done (j := k.toNat) (by omega), ← hrow, ← hxs], by rw [e1, qAccs_succ, ← hqc, ← hys], E, Ew, hB4, hB11, hB30, rfl⟩ (by omega) (.cons rfl (.cons rfl (.cons rfl (.cons rfl (.cons rfl (.cons rfl (.cons rfl (.nil))))))))
  refine Sq.nil ?_
  refine Eq.next ?_
  refine Cq.els rfl ?_
  refine Cq.exit ?_
  refine Eq.past ?_
  refine Eq.past ?_
  refine Eq.hit ?_
  refine Eq.next ?_
  refine Cq.seq ?_
  refine Cq.region ?_
  refine Sq.loadAgg agg25 .plain rfl rfl hBr rfl ?_
  refine Sq.storeAgg agg25 .plain rfl rfl (one_cons rfl (one_cons (Rows.one (OwnRows.rows hor)) (one_cons (Row.one (Own.row hoa)) one_nil))) hB11 rfl rfl (fun w121 g122 hB123 => ?_)
  have hs124 := World.grownBy.size g122
  replace E := E.grown g122 (fun k hk => by injection hk with hk; subst hk; omega)
  replace hor := hor.stored g122 hB11 (by decide) (by decide)
  replace hoa := hoa.stored g122 hB11 (by decide)
  replace hB11 := hB123
  refine Sq.nil ?_
  refine Eq.next ?_
  refine Cq.ret ?_
  refine Eq.retCell rfl rfl agg25 hB11 rfl ?_
  have hnn : c.toNat = nCls (trim a) := by omega
  rw [hxs, hnn, qRows_all hv] at hor
  rw [hys, hnn, qAccs_all hv] at hoa
  exact ⟨⟨_, _, rfl, OwnRows.now (OwnRows.mono hor (by omega)), Own.mono hoa (by omega)⟩, E⟩
end Go.Proofs.YtnckpafknojdhaaDoor
set_option linter.unusedSimpArgs false
set_option linter.unusedVariables false
namespace Go.Proofs.YtnckpafknojdhaaDoor
open Go.RowKit
set_option maxRecDepth 100000 in
theorem minAut_c (w0 : World) (a : A) (nx ac : Value) (hnx : Rows w0 41 3 nx a.next) (hac : Bools w0 4 ac a.acc) : Ret Tryd.prog 16 #[Value.agg #[Value.int .i64 a.al, nx, ac]] w0 (fun v w => (∃ u, v = .tuple #[u, .bool (validA a)] ∧ OwnA w w0.heap.size u (if validA a then minA a else zeroA)) ∧ Ext w0 w) := by
  have E := Ext.refl w0
  refine Ret.of (args := [Value.agg #[Value.int .i64 a.al, nx, ac]]) Tryd.func16 rfl rfl rfl ?_
  rintro _ rfl
  show Cq _ _ _ _ [(0, Value.agg #[Value.int .i64 a.al, nx, ac])] _
  refine Cq.seq ?_
  refine Cq.region ?_
  refine Sq.box .plain rfl rfl (fun b1 w2 e3 hB4 hlo5 => ?_)
  have hd6 := Nat.le_trans (Below.size E) hlo5
  have hs7 := Below.size e3
  replace E := E.trans e3
  refine Sq.alloc zero25 .plain rfl (fun b8 w9 e10 hB11 hlo12 => ?_)
  have hd13 := Nat.le_trans (Below.size E) hlo12
  have hd14 := Nat.lt_of_lt_of_le hB4.lt hlo12
  have hs15 := Below.size e10
  replace E := E.trans e10
  replace hB4 := hB4.ext e10
  refine Sq.assign .plain rfl rfl ?_
  refine Sq.nil ?_
  refine Eq.next ?_
  refine Cq.seq ?_
  refine Cq.seq ?_
  refine Cq.region ?_
  refine Sq.loadAgg agg25 .plain rfl rfl hB4 rfl ?_
  have hd19 := hB4.lt
  have hd20 := hB11.lt
  refine Sq.call fn36 .plain rfl rfl (valid_c _ a _ _ (hnx.ext E) (hac.ext E)) ?_
  rintro _ w17 ⟨rfl, e18⟩
  have hs21 := Below.size E
  have hs22 := Below.size e18
  replace E := E.trans e18
  replace hB4 := hB4.ext e18
  replace hB11 := hB11.ext e18
  refine Sq.partB (fun hv => ?_) (fun hv => ?_)
  · refine Sq.notT .plain rfl rfl ?_
    refine Sq.nil ?_
    refine Eq.next ?_
    refine Cq.els rfl ?_
    refine Cq.skip ?_
    refine Eq.next ?_
    refine Cq.seq ?_
    refine Cq.region ?_
    refine Sq.loadAgg agg25 .plain rfl rfl hB4 rfl ?_
    have hd30 := hB4.lt
    have hd31 := hB11.lt
    refine Sq.call fn41 .plain rfl rfl (minimize_c _ a _ _ (hnx.ext E) (hac.ext E) hv) ?_
    rintro _ w24 ⟨⟨nx26, ac27, rfl, hn28, ha29⟩, e25⟩
    have hs32 := Below.size E
    have hs33 := Below.size e25
    replace E := E.trans e25
    replace hB11 := hB11.ext e25
    refine Sq.storeAgg agg25 .plain rfl rfl (one_cons rfl (one_cons (Rows.one (OwnRows.rows hn28)) (one_cons (Row.one (Own.row ha29)) one_nil))) hB11 rfl rfl (fun w34 g35 hB36 => ?_)
    have hs37 := World.grownBy.size g35
    replace E := E.grown g35 (fun k hk => by injection hk with hk; subst hk; omega)
    replace hn28 := hn28.stored g35 hB11 (by decide) (by decide)
    replace ha29 := ha29.stored g35 hB11 (by decide)
    replace hB11 := hB36
    refine Sq.assign .plain rfl rfl ?_
    refine Sq.nil ?_
    refine Eq.next ?_
    refine Cq.ret ?_
    refine Eq.retCell2 rfl rfl agg25 hB11 rfl rfl ?_
    exact ⟨⟨_, by rw [hv], by rw [if_pos hv]; exact ⟨_, _, rfl, OwnRows.now (OwnRows.mono hn28 (by omega)), Own.mono ha29 (by omega)⟩⟩, E⟩
  refine Sq.notF .plain rfl rfl ?_
  refine Sq.nil ?_
  refine Eq.next ?_
  refine Cq.thn rfl ?_
  refine Cq.seq ?_
  refine Cq.region ?_
  refine Sq.build st25 rfl rfl .plain rfl rfl one_nil rfl ?_
  refine Sq.storeAgg agg25 .plain rfl rfl (one_cons rfl (one_cons rfl (one_cons rfl one_nil))) hB11 rfl rfl (fun w38 g39 hB40 => ?_)
  have hs41 := World.grownBy.size g39
  replace E := E.grown g39 (fun k hk => by injection hk with hk; subst hk; omega)
  replace hB11 := hB40
  refine Sq.assign .plain rfl rfl ?_
  refine Sq.nil ?_
  refine Eq.next ?_
  refine Cq.ret ?_
  refine Eq.pastRet ?_
  refine Eq.retCell2 rfl rfl agg25 hB11 rfl rfl ?_
  exact ⟨⟨_, by rw [hv], by rw [if_neg (by simp [hv])]; exact ⟨_, _, rfl, OwnRows.nil _ _ _ _ _, Own.nil _ _ _⟩⟩, E⟩
theorem minAut_c_T (w0 : World) (a : A) (nx ac : Value) (hnx : Rows w0 41 3 nx a.next) (hac : Bools w0 4 ac a.acc) (hC : (validA a) = true) : Ret Tryd.prog 16 #[Value.agg #[Value.int .i64 a.al, nx, ac]] w0 (fun v w => (∃ u, v = .tuple #[u, .bool true] ∧ OwnA w w0.heap.size u (minA a)) ∧ Ext w0 w) :=
  (minAut_c w0 a nx ac hnx hac).mono fun v w h => by rw [hC, if_pos rfl] at h; exact h
theorem minAut_c_F (w0 : World) (a : A) (nx ac : Value) (hnx : Rows w0 41 3 nx a.next) (hac : Bools w0 4 ac a.acc) (hC : (validA a) = false) : Ret Tryd.prog 16 #[Value.agg #[Value.int .i64 a.al, nx, ac]] w0 (fun v w => (∃ u, v = .tuple #[u, .bool false] ∧ OwnA w w0.heap.size u (zeroA)) ∧ Ext w0 w) :=
  (minAut_c w0 a nx ac hnx hac).mono fun v w h => by rw [hC, if_neg (by decide)] at h; exact h
set_option maxRecDepth 100000 in
theorem sMinAut_c (w0 : World) (a : A) (nx ac : Value) (hnx : Rows w0 41 3 nx a.next) (hac : Bools w0 4 ac a.acc) : Ret Tryd.prog 15 #[Value.agg #[Value.int .i64 a.al, nx, ac]] w0 (fun v w => (∃ u, v = .tuple #[u, .bool (validA a)] ∧ OwnA w w0.heap.size u (if validA a then minA a else zeroA)) ∧ Ext w0 w) := by
  have E := Ext.refl w0
  refine Ret.of (args := [Value.agg #[Value.int .i64 a.al, nx, ac]]) Tryd.func15 rfl rfl rfl ?_
  rintro _ rfl
  show Cq _ _ _ _ [(0, Value.agg #[Value.int .i64 a.al, nx, ac])] _
  refine Cq.seq ?_
  refine Cq.region ?_
  refine Sq.box .plain rfl rfl (fun b1 w2 e3 hB4 hlo5 => ?_)
  have hd6 := Nat.le_trans (Below.size E) hlo5
  have hs7 := Below.size e3
  replace E := E.trans e3
  refine Sq.alloc zero25 .plain rfl (fun b8 w9 e10 hB11 hlo12 => ?_)
  have hd13 := Nat.le_trans (Below.size E) hlo12
  have hd14 := Nat.lt_of_lt_of_le hB4.lt hlo12
  have hs15 := Below.size e10
  replace E := E.trans e10
  replace hB4 := hB4.ext e10
  refine Sq.assign .plain rfl rfl ?_
  refine Sq.nil ?_
  refine Eq.next ?_
  refine Cq.seq ?_
  refine Cq.seq ?_
  refine Cq.region ?_
  refine Sq.loadAgg agg25 .plain rfl rfl hB4 rfl ?_
  have hd19 := hB4.lt
  have hd20 := hB11.lt
  refine Sq.call fn31 .plain rfl rfl (sValid_c _ a _ _ (hnx.ext E) (hac.ext E)) ?_
  rintro _ w17 ⟨rfl, e18⟩
  have hs21 := Below.size E
  have hs22 := Below.size e18
  replace E := E.trans e18
  replace hB4 := hB4.ext e18
  replace hB11 := hB11.ext e18
  refine Sq.partB (fun hv => ?_) (fun hv => ?_)
  · refine Sq.notT .plain rfl rfl ?_
    refine Sq.nil ?_
    refine Eq.next ?_
    refine Cq.els rfl ?_
    refine Cq.skip ?_
    refine Eq.next ?_
    refine Cq.seq ?_
    refine Cq.region ?_
    refine Sq.loadAgg agg25 .plain rfl rfl hB4 rfl ?_
    have hd30 := hB4.lt
    have hd31 := hB11.lt
    refine Sq.call fn40 .plain rfl rfl (l5Minimal_c _ a _ _ (hnx.ext E) (hac.ext E) hv) ?_
    rintro _ w24 ⟨⟨nx26, ac27, rfl, hn28, ha29⟩, e25⟩
    have hs32 := Below.size E
    have hs33 := Below.size e25
    replace E := E.trans e25
    replace hB11 := hB11.ext e25
    refine Sq.storeAgg agg25 .plain rfl rfl (one_cons rfl (one_cons (Rows.one (OwnRows.rows hn28)) (one_cons (Row.one (Own.row ha29)) one_nil))) hB11 rfl rfl (fun w34 g35 hB36 => ?_)
    have hs37 := World.grownBy.size g35
    replace E := E.grown g35 (fun k hk => by injection hk with hk; subst hk; omega)
    replace hn28 := hn28.stored g35 hB11 (by decide) (by decide)
    replace ha29 := ha29.stored g35 hB11 (by decide)
    replace hB11 := hB36
    refine Sq.assign .plain rfl rfl ?_
    refine Sq.nil ?_
    refine Eq.next ?_
    refine Cq.ret ?_
    refine Eq.retCell2 rfl rfl agg25 hB11 rfl rfl ?_
    rw [min_same hv] at hn28 ha29
    exact ⟨⟨_, by rw [hv], by rw [if_pos hv]; exact ⟨_, _, rfl, OwnRows.now (OwnRows.mono hn28 (by omega)), Own.mono ha29 (by omega)⟩⟩, E⟩
  refine Sq.notF .plain rfl rfl ?_
  refine Sq.nil ?_
  refine Eq.next ?_
  refine Cq.thn rfl ?_
  refine Cq.seq ?_
  refine Cq.region ?_
  refine Sq.build st25 rfl rfl .plain rfl rfl one_nil rfl ?_
  refine Sq.storeAgg agg25 .plain rfl rfl (one_cons rfl (one_cons rfl (one_cons rfl one_nil))) hB11 rfl rfl (fun w38 g39 hB40 => ?_)
  have hs41 := World.grownBy.size g39
  replace E := E.grown g39 (fun k hk => by injection hk with hk; subst hk; omega)
  replace hB11 := hB40
  refine Sq.assign .plain rfl rfl ?_
  refine Sq.nil ?_
  refine Eq.next ?_
  refine Cq.ret ?_
  refine Eq.pastRet ?_
  refine Eq.retCell2 rfl rfl agg25 hB11 rfl rfl ?_
  exact ⟨⟨_, by rw [hv], by rw [if_neg (by simp [hv])]; exact ⟨_, _, rfl, OwnRows.nil _ _ _ _ _, Own.nil _ _ _⟩⟩, E⟩
theorem sMinAut_c_T (w0 : World) (a : A) (nx ac : Value) (hnx : Rows w0 41 3 nx a.next) (hac : Bools w0 4 ac a.acc) (hC : (validA a) = true) : Ret Tryd.prog 15 #[Value.agg #[Value.int .i64 a.al, nx, ac]] w0 (fun v w => (∃ u, v = .tuple #[u, .bool true] ∧ OwnA w w0.heap.size u (minA a)) ∧ Ext w0 w) :=
  (sMinAut_c w0 a nx ac hnx hac).mono fun v w h => by rw [hC, if_pos rfl] at h; exact h
theorem sMinAut_c_F (w0 : World) (a : A) (nx ac : Value) (hnx : Rows w0 41 3 nx a.next) (hac : Bools w0 4 ac a.acc) (hC : (validA a) = false) : Ret Tryd.prog 15 #[Value.agg #[Value.int .i64 a.al, nx, ac]] w0 (fun v w => (∃ u, v = .tuple #[u, .bool false] ∧ OwnA w w0.heap.size u (zeroA)) ∧ Ext w0 w) :=
  (sMinAut_c w0 a nx ac hnx hac).mono fun v w h => by rw [hC, if_neg (by decide)] at h; exact h
end Go.Proofs.YtnckpafknojdhaaDoor
set_option linter.unusedSimpArgs false
set_option linter.unusedVariables false
namespace Go.Proofs.YtnckpafknojdhaaDoor
open Go.RowKit
def LenOk (n : Nat) : Prop := n ≤ 9223372036854775807
def IntsX (w : World) (v : Value) (xs : List Int) : Prop := LenOk xs.length ∧ ∃ e, Ints w e v xs
def BoolsX (w : World) (v : Value) (xs : List Bool) : Prop := LenOk xs.length ∧ ∃ e, Bools w e v xs
def RowsX (w : World) (v : Value) (xss : List (List Int)) : Prop := LenOk xss.length ∧ ∃ e rs, Row w e v rs ∧ rs.length = xss.length ∧ ∀ (i : Nat) (r : Value), rs[i]? = some r → IntsX w r (xss.getD i [])
section
variable {w w' : World} {v : Value} {xs : List Int} {ys : List Bool} {xss : List (List Int)}
theorem IntsX.ext (h : IntsX w v xs) (x : Ext w w') : IntsX w' v xs := ⟨h.1, h.2.elim fun e h => ⟨e, h.ext x⟩⟩
theorem BoolsX.ext (h : BoolsX w v ys) (x : Ext w w') : BoolsX w' v ys := ⟨h.1, h.2.elim fun e h => ⟨e, h.ext x⟩⟩
theorem RowsX.ext (h : RowsX w v xss) (x : Ext w w') : RowsX w' v xss := by
  obtain ⟨hl, e, rs, h1, h2, h3⟩ := h
  exact ⟨hl, e, rs, h1.ext x, h2, fun i r hr => (h3 i r hr).ext x⟩
theorem RowsX.at (h : RowsX w v xss) {i : Int} (hi : 0 ≤ i) (hlt : i.toNat < xss.length) : ∃ e p r, At w e v i p r ∧ IntsX w r (xss.getD i.toNat []) := by
  obtain ⟨hl, e, rs, h1, h2, h3⟩ := h
  have hl : i.toNat < rs.length := by omega
  obtain ⟨p, hp⟩ := h1.at hi hl
  exact ⟨e, p, rs[i.toNat], hp, h3 _ _ (List.getElem?_eq_getElem hl)⟩
theorem RowsX.len (h : RowsX w v xss) : ∃ e rs, Row w e v rs ∧ rs.length = xss.length := by
  obtain ⟨hl, e, rs, h1, h2, _⟩ := h
  exact ⟨e, rs, h1, h2⟩
end
def SmX (a : A) : Prop := a.next.length ≤ 1048576 ∧ (∀ r ∈ a.next, r.length ≤ 1048576) ∧ a.acc.length ≤ 1048576
theorem fill_step {α : Type} {xs : List α} {d : α} {k : Nat} (hk : k < xs.length) : (xs.take k ++ List.replicate (xs.length - k) d).set k (xs.getD k d) = xs.take (k + 1) ++ List.replicate (xs.length - (k + 1)) d := by
  apply List.ext_getElem?
  intro i
  have e1 : (xs.take k).length = k := by rw [List.length_take]; omega
  have e2 : (xs.take (k + 1)).length = k + 1 := by rw [List.length_take]; omega
  rw [List.getElem?_set]
  by_cases h : k = i
  · subst h
    rw [if_pos rfl, if_pos (by simp; omega), List.getElem?_append_left (by omega), List.getElem?_take, if_pos (by omega), List.getD_eq_getElem?_getD, List.getElem?_eq_getElem hk]
    rfl
  · rw [if_neg h]
    rcases Nat.lt_or_ge i k with h1 | h1
    · rw [List.getElem?_append_left (by omega), List.getElem?_append_left (by omega), List.getElem?_take, List.getElem?_take, if_pos h1, if_pos (by omega)]
    · rw [List.getElem?_append_right (by omega), List.getElem?_append_right (by omega), e1, e2, List.getElem?_replicate, List.getElem?_replicate]
      by_cases h2 : i < xs.length
      · rw [if_pos (by omega), if_pos (by omega)]
      · rw [if_neg (by omega), if_neg (by omega)]
def fillTo {α : Type} (xs : List α) (d : α) (k : Nat) : List α := xs.take k ++ List.replicate (xs.length - k) d
theorem fillTo_zero {α : Type} (xs : List α) (d : α) : fillTo xs d 0 = List.replicate xs.length d := by simp [fillTo]
theorem fillTo_succ {α : Type} {xs : List α} {d : α} {k : Nat} (hk : k < xs.length) : (fillTo xs d k).set k (xs.getD k d) = fillTo xs d (k + 1) := fill_step hk
theorem fillTo_all {α : Type} {xs : List α} {d : α} {k : Nat} (hk : xs.length ≤ k) : fillTo xs d k = xs := by
  unfold fillTo
  rw [List.take_of_length_le hk, Nat.sub_eq_zero_of_le hk]
  simp
theorem fillTo_length {α : Type} (xs : List α) (d : α) {k : Nat} (hk : k ≤ xs.length) : (fillTo xs d k).length = xs.length := by
  unfold fillTo
  simp
  omega
section
variable {w w' : World} {B U : Nat} {e e' : TypeId} {v : Value} {xss : List (List Int)}
theorem OwnRows.made {n : Nat} (h : Own w B e v (List.replicate n (Value.slice Option.none 0 0))) : OwnRows w B U e e' v (List.replicate n []) :=
  ⟨_, h, by simp, fun i r hr => by
    have h1 := List.mem_of_getElem? hr
    obtain rfl := (List.mem_replicate.1 h1).2
    have e1 : (List.replicate n ([] : List Int)).getD i [] = [] := by
      rw [List.getD_eq_getElem?_getD, List.getElem?_replicate]
      split <;> rfl
    rw [e1]
    exact ⟨Own.nil _ _ _, fun k hk => by cases hk⟩, fun i j r r' hr hr' _ k hk => by
    have h1 := List.mem_of_getElem? hr
    obtain rfl := (List.mem_replicate.1 h1).2
    cases hk⟩
theorem OwnRows.put (h : OwnRows w B U e e' v xss) (hne : e ≠ e') : ∃ rs, Own w B e v rs ∧ rs.length = xss.length ∧
    ∀ i r ys w', i < xss.length → Own w U e' r (ys.map (Value.int .i64)) → B ≤ U → Own w' B e v (rs.set i r) → w.grownBy w' v.ownBlock → OwnRows w' B w'.heap.size e e' v (xss.set i ys) := by
  obtain ⟨rs, h1, h2, h3, h4⟩ := h
  refine ⟨rs, h1, h2, fun i r ys w' hi hr hBU hv hg => ?_⟩
  have hr' := hr.owned h1 hg hne
  have hrow : ∀ j q, (rs.set i r)[j]? = some q → (j = i ∧ q = r) ∨ (j ≠ i ∧ rs[j]? = some q) := by
    intro j q hq
    rw [List.getElem?_set] at hq
    split at hq
    · rename_i hij
      rw [if_pos (by omega)] at hq
      exact .inl ⟨hij.symm, (Option.some.inj hq).symm⟩
    · rename_i hij
      exact .inr ⟨fun h => hij h.symm, hq⟩
  refine ⟨rs.set i r, hv, by simp [h2], fun j q hq => ?_, fun j k q q' hq hq' hjk b hb hb' => ?_⟩
  · rcases hrow j q hq with ⟨rfl, rfl⟩ | ⟨hji, hq2⟩
    · have e1 : (xss.set j ys).getD j [] = ys := by simp [hi]
      rw [e1]
      exact ⟨hr'.mono hBU, fun b hb => (hr'.lt b hb).2⟩
    · have e1 : (xss.set i ys).getD j [] = xss.getD j [] := by simp [List.getElem?_set_ne (fun h => hji h.symm)]
      rw [e1]
      have ho := (h3 j q hq2).1.owned h1 hg hne
      exact ⟨ho, fun b hb => (ho.lt b hb).2⟩
  · rcases hrow j q hq with ⟨rfl, rfl⟩ | ⟨hji, hq2⟩ <;> rcases hrow k q' hq' with ⟨rfl, rfl⟩ | ⟨hki, hq2'⟩
    · exact hjk rfl
    · have a1 := ((h3 k q' hq2').2 b hb')
      have a2 := (hr.lt b hb).1
      omega
    · have a1 := ((h3 j q hq2).2 b hb)
      have a2 := (hr.lt b hb').1
      omega
    · exact h4 j k q q' hq2 hq2' hjk b hb hb'
end
section
variable {H : Type} {enc : TypeId × Value → H} {P : Program} {w : World} {base : Nat} {sp : Nat → Bool} {held : Bool}
theorem row_of {x : Addr} {cap : Nat} {vs : List Value} (h : ∀ (i : Nat) (u : Value), vs[i]? = some u → w.cell? (x.add i) = some u) : ∃ e, Row w e (.slice (some x) vs.length cap) vs := by
  cases vs with
  | nil => exact ⟨0, .inl ⟨rfl, some x, cap, rfl, fun h => by cases h⟩⟩
  | cons v0 vs =>
    obtain ⟨b, o, s⟩ := x
    have hc := h 0 v0 rfl
    have hs : s = none := by simpa [Addr.add] using World.cell?_spot hc
    subst hs
    have hb : ∃ cur e fr, w.heap[b]? = some (.cells cur e fr) := by
      rw [addr_add] at hc
      unfold World.cell? at hc
      simp only at hc
      cases hw : w.heap[b]? with
      | none => rw [hw] at hc; simp at hc
      | some ob =>
        rw [hw] at hc
        cases ob <;> simp at hc
        rename_i cur e fr
        exact ⟨cur, e, fr, rfl⟩
    obtain ⟨cur, e, fr, hb⟩ := hb
    refine ⟨e, .inr ⟨b, o, cap, cur, fr, rfl, hb, fun i y hy => ?_⟩⟩
    have h1 := h i y hy
    rw [addr_add] at h1
    simpa [World.cell?, hb] using h1
theorem elems_of {t e : TypeId} {fuel : Nat} {v : Value} {x : DataW H × List MemPlace} (ht : P.underlying t = some (.slice e)) (hc : P.cellsOf e = 1) (h : DataW.trod enc P w base sp held fuel t [v] = some x) :
    ∃ vs : List Value, LenOk vs.length ∧ (∃ e', Row w e' v vs) ∧ ∀ (i : Nat) (u : Value), vs[i]? = some u → ∃ n y, DataW.trod enc P w base sp held n e [u] = some y := by
  rcases DataW.trod_slice ht h with ⟨h0, _⟩ | ⟨a, len, cap, elems, rest, n, _, hcs, _, _, hl, hm, hlen, hel, _, _⟩
  · obtain rfl : v = .slice none 0 0 := by simpa using h0
    exact ⟨[], by unfold LenOk; decide, ⟨0, Row.nil _ _⟩, by simp⟩
  · obtain rfl : v = .slice (some a) len cap := by simpa using hcs
    have each : ∀ i, i < len → ∃ u, w.cell? (a.add i) = some u ∧ ∃ y, DataW.trod enc P w base sp held n e [u] = some y := fun i hi => by
      have h1 := hel i hi
      rw [List.getElem?_eq_getElem (by omega), hc, Nat.mul_one, Option.bind_eq_some_iff] at h1
      obtain ⟨cs', h2, h3⟩ := h1
      have hsz := (World.cells?_some h2).2.1
      match cs', hsz with
      | [u], _ => exact ⟨u, ChangeShapes.cell_of_cells?_one h2, _, h3⟩
    let vs := (List.range len).map fun i => (w.cell? (a.add i)).getD (.bool false)
    have hvs : vs.length = len := by simp [vs]
    have hat : ∀ (i : Nat) (u : Value), vs[i]? = some u → i < len ∧ w.cell? (a.add i) = some u := fun i u hu => by
      have hi : i < len := by have := (List.getElem?_eq_some_iff.1 hu).1; omega
      obtain ⟨u', h1, _⟩ := each i hi
      simp [vs, hi, h1] at hu
      exact ⟨hi, by rw [h1, hu]⟩
    refine ⟨vs, ?_, ?_, fun i u hu => ?_⟩
    · unfold LenOk
      simp only [maxLen] at hm
      omega
    · have := row_of (w := w) (x := a) (cap := cap) (vs := vs) fun i u hu => (hat i u hu).2
      rw [hvs] at this
      exact this
    · obtain ⟨h1, h2⟩ := hat i u hu
      obtain ⟨u', h3, y, h4⟩ := each i h1
      rw [h2] at h3
      obtain rfl := Option.some.inj h3
      exact ⟨n, y, h4⟩
theorem choose_list {α : Type} {p : Value → α → Prop} : ∀ {vs : List Value}, (∀ u ∈ vs, ∃ a, p u a) → ∃ aas : List α, aas.length = vs.length ∧ ∀ (i : Nat) (u : Value), vs[i]? = some u → ∃ a, aas[i]? = some a ∧ p u a
  | [], _ => ⟨[], rfl, by simp⟩
  | v :: vs, h => by
    obtain ⟨a, ha⟩ := h v (by simp)
    obtain ⟨aas, h1, h2⟩ := choose_list (vs := vs) fun u hu => h u (by simp [hu])
    refine ⟨a :: aas, by simp [h1], fun i u hu => ?_⟩
    cases i with
    | zero => obtain rfl : v = u := by simpa using hu
              exact ⟨a, rfl, ha⟩
    | succ i => exact h2 i u (by simpa using hu)
theorem map_of {α : Type} {g : α → Value} {vs : List Value} (h : ∀ u ∈ vs, ∃ a, u = g a) : ∃ aas : List α, vs = aas.map g := by
  obtain ⟨aas, h1, h2⟩ := choose_list h
  refine ⟨aas, ?_⟩
  apply List.ext_getElem?
  intro i
  rcases Nat.lt_or_ge i vs.length with hi | hi
  · obtain ⟨a, ha, hu⟩ := h2 i _ (List.getElem?_eq_getElem hi)
    rw [List.getElem?_eq_getElem hi, List.getElem?_map, ha, hu]
    rfl
  · rw [List.getElem?_eq_none hi, List.getElem?_eq_none (by simp; omega)]
theorem ints_came {t e : TypeId} {fuel : Nat} {v : Value} {x : DataW H × List MemPlace} (ht : P.underlying t = some (.slice e)) (he : P.underlying e = some (.int .i64)) (hc : P.cellsOf e = 1) (h : DataW.trod enc P w base sp held fuel t [v] = some x) : ∃ xs, IntsX w v xs := by
  obtain ⟨vs, hl, ⟨e', hr⟩, hat⟩ := elems_of ht hc h
  obtain ⟨xs, rfl⟩ := map_of (g := Value.int .i64) (vs := vs) fun u hu => by
    obtain ⟨i, hi⟩ := List.getElem?_of_mem hu
    obtain ⟨n, y, hy⟩ := hat i u hi
    obtain ⟨m, hm, _⟩ := DataW.trod_int he hy
    exact ⟨m, by simpa using hm⟩
  exact ⟨xs, by simpa using hl, e', hr⟩
theorem bools_came {t e : TypeId} {fuel : Nat} {v : Value} {x : DataW H × List MemPlace} (ht : P.underlying t = some (.slice e)) (he : P.underlying e = some .bool) (hc : P.cellsOf e = 1) (h : DataW.trod enc P w base sp held fuel t [v] = some x) : ∃ xs, BoolsX w v xs := by
  obtain ⟨vs, hl, ⟨e', hr⟩, hat⟩ := elems_of ht hc h
  obtain ⟨xs, rfl⟩ := map_of (g := Value.bool) (vs := vs) fun u hu => by
    obtain ⟨i, hi⟩ := List.getElem?_of_mem hu
    obtain ⟨n, y, hy⟩ := hat i u hi
    obtain ⟨m, hm, _⟩ := DataW.trod_bool he hy
    exact ⟨m, by simpa using hm⟩
  exact ⟨xs, by simpa using hl, e', hr⟩
theorem rows_came {t s e : TypeId} {fuel : Nat} {v : Value} {x : DataW H × List MemPlace} (ht : P.underlying t = some (.slice s)) (hs : P.underlying s = some (.slice e)) (he : P.underlying e = some (.int .i64)) (hcs : P.cellsOf s = 1) (hc : P.cellsOf e = 1) (h : DataW.trod enc P w base sp held fuel t [v] = some x) : ∃ xss, RowsX w v xss := by
  obtain ⟨vs, hl, ⟨e', hr⟩, hat⟩ := elems_of ht hcs h
  obtain ⟨xss, h1, h2⟩ := choose_list (p := fun u xs => IntsX w u xs) (vs := vs) fun u hu => by
    obtain ⟨i, hi⟩ := List.getElem?_of_mem hu
    obtain ⟨n, y, hy⟩ := hat i u hi
    exact ints_came hs he hc hy
  refine ⟨xss, by rw [h1]; exact hl, e', vs, hr, h1.symm, fun i r hi => ?_⟩
  obtain ⟨a, ha, hp⟩ := h2 i r hi
  rw [List.getD_eq_getElem?_getD, ha]
  exact hp
end
end Go.Proofs.YtnckpafknojdhaaDoor
set_option linter.unusedSimpArgs false
set_option linter.unusedVariables false
namespace Go.Proofs.YtnckpafknojdhaaDoor
open Go.RowKit
structure Wrote (w w' : World) (B U : Nat) : Prop where
  os : w'.os = w.os
  tape : w'.tape = w.tape
  output : w'.output = w.output
  size : w.heap.size ≤ w'.heap.size
  block : ∀ k, k < w.heap.size → ¬ (B ≤ k ∧ k < U) → w'.heap[k]? = w.heap[k]?
section
variable {w w' w'' w0 : World} {B U B' U' b : Nat} {e e' t : TypeId} {v : Value} {vs cs : List Value} {xss : List (List Int)}
theorem Wrote.refl (w : World) (B U : Nat) : Wrote w w B U := ⟨rfl, rfl, rfl, Nat.le_refl _, fun _ _ _ => rfl⟩
theorem Wrote.trans (h : Wrote w w' B U) (k : Wrote w' w'' B U) : Wrote w w'' B U :=
  ⟨k.os.trans h.os, k.tape.trans h.tape, k.output.trans h.output, Nat.le_trans h.size k.size, fun i hi hn => (k.block i (Nat.lt_of_lt_of_le hi h.size) hn).trans (h.block i hi hn)⟩
theorem Wrote.of {r : Option Nat} (h : w.grownBy w' r) (hr : ∀ k, r = some k → B ≤ k ∧ k < U) : Wrote w w' B U :=
  ⟨h.os, h.tape, h.output, h.size, fun k hk hn => h.block k hk fun hc => hn (hr k hc.symm)⟩
theorem Wrote.ofExt (h : Ext w w') (B U : Nat) : Wrote w w' B U := ⟨h.os, h.tape, h.output, h.size, fun k hk _ => h.block k hk⟩
theorem Ext.wrote (h : Ext w0 w) (k : Wrote w w' B U) (hB : w0.heap.size ≤ B) : Ext w0 w' :=
  ⟨k.os.trans h.os, k.tape.trans h.tape, k.output.trans h.output, Nat.le_trans h.size k.size, fun i hi => (k.block i (Nat.lt_of_lt_of_le hi h.size) (by omega)).trans (h.block i hi)⟩
theorem Blk.wrote (h : Blk w b t cs) (k : Wrote w w' B U) (hb : ¬ (B ≤ b ∧ b < U)) : Blk w' b t cs := by
  simp only [Blk] at *
  rw [k.block b (lt_of_block h) hb]; exact h
theorem Own.wrote (h : Own w B' e v vs) (k : Wrote w w' B U) (hU : U ≤ B') : Own w' B' e v vs := by
  rcases h.cases with ⟨rfl, rfl⟩ | ⟨g, cap, cs, rfl, hg', hb, h3, h4, h5, h6⟩
  · exact Own.nil _ _ _
  · exact Own.mk hg' (hb.wrote k (by omega)) h3 h4 h5 h6
theorem OwnRows.wrote (h : OwnRows w B' U' e e' v xss) (k : Wrote w w' B U) (hU : U ≤ B') : OwnRows w' B' U' e e' v xss := by
  obtain ⟨rs, h1, h2, h3, h4⟩ := h
  exact ⟨rs, h1.wrote k hU, h2, fun i r hr => ⟨(h3 i r hr).1.wrote k hU, (h3 i r hr).2⟩, h4⟩
theorem OwnRows.rowLt (h : OwnRows w B U e e' v xss) {i : Int} {p : Addr} {r : Value} (ha : At w e v i p r) : ∀ k, r.ownBlock = some k → B ≤ k ∧ k < U := by
  have h0 := (h.rowAt ha).1
  obtain ⟨rs, h1, h2, h3, h4⟩ := h
  intro k hk
  refine ⟨(h0.lt k hk).1, ?_⟩
  obtain ⟨hc, ⟨b, o, c, n, rfl, rfl, h0, hn⟩, hty⟩ := ha
  rcases h1.cases with ⟨hv, _⟩ | ⟨g, cap, cs, hv, hB, hb, h5, h6, h7, h8⟩
  · simp at hv
  · simp only [Value.slice.injEq, Option.some.injEq, Addr.mk.injEq] at hv
    obtain ⟨⟨rfl, rfl, _⟩, rfl, rfl⟩ := hv
    rw [hb.cell] at hc
    have hlt : i.toNat < rs.length := by omega
    have : rs[i.toNat]? = some r := by
      rw [← h8, List.getElem?_take, if_pos hlt]
      simpa using hc
    exact (h3 _ _ this).2 k hk
end
def KeepT (w w' : World) (e : TypeId) : Prop := ∀ b t cs, Blk w b t cs → t ≠ e → Blk w' b t cs
theorem KeepT.refl (w : World) (e : TypeId) : KeepT w w e := fun _ _ _ h _ => h
theorem KeepT.next {w w' w'' : World} {e : TypeId} {B : Nat} {u : Value} {us : List Value} (h : KeepT w w' e) (ho : Own w' B e u us) (hg : w'.grownBy w'' u.ownBlock) : KeepT w w'' e := fun b t cs hb hne => (h b t cs hb hne).owned ho hg (fun hc => hne hc.symm)
theorem Own.kept {w w' : World} {e t : TypeId} {B : Nat} {v : Value} {vs : List Value} (h : Own w B t v vs) (k : KeepT w w' e) (hne : t ≠ e) : Own w' B t v vs := by
  rcases h.cases with ⟨rfl, rfl⟩ | ⟨g, cap, cs, rfl, hg', hb, h3, h4, h5, h6⟩
  · exact Own.nil _ _ _
  · exact Own.mk hg' (k _ _ _ hb hne) h3 h4 h5 h6
def upI (k : Int) (n : Nat) : List Int := (List.range n).map fun (i : Nat) => k + i
def upTo (k : Int) (xs : List Int) (m : Nat) : List Int := (List.range xs.length).map fun (i : Nat) => if i < m then k + i else xs.getD i 0
theorem upTo_zero (k : Int) (xs : List Int) : upTo k xs 0 = xs := by
  unfold upTo
  apply List.ext_getElem?
  intro i
  rw [List.getElem?_map]
  rcases Nat.lt_or_ge i xs.length with h | h
  · rw [List.getElem?_range h, List.getElem?_eq_getElem h]
    simp [h]
  · rw [List.getElem?_eq_none (by simpa using h), List.getElem?_eq_none h]; rfl
theorem upTo_length (k : Int) (xs : List Int) (m : Nat) : (upTo k xs m).length = xs.length := by simp [upTo]
theorem upTo_step {k : Int} {xs : List Int} {m : Nat} (h : m < xs.length) : (upTo k xs m).set m (k + m) = upTo k xs (m + 1) := by
  apply List.ext_getElem?
  intro i
  unfold upTo
  rw [List.getElem?_set]
  rcases Nat.lt_or_ge i xs.length with hi | hi
  · by_cases e : m = i
    · subst e
      rw [if_pos rfl, if_pos (by simpa using h), List.getElem?_map, List.getElem?_range hi]
      simp
    · rw [if_neg e, List.getElem?_map, List.getElem?_map, List.getElem?_range hi]
      simp only [Option.map_some]
      by_cases h1 : i < m
      · rw [if_pos h1, if_pos (by omega)]
      · rw [if_neg h1, if_neg (by omega)]
  · rw [if_neg (by omega), List.getElem?_eq_none (by simpa using hi), List.getElem?_eq_none (by simpa using hi)]
theorem upTo_all {k : Int} {xs : List Int} {m : Nat} (h : xs.length ≤ m) : upTo k xs m = upI k xs.length := by
  unfold upTo upI
  refine List.map_congr_left fun i hi => ?_
  rw [if_pos (by have := List.mem_range.1 hi; omega)]
theorem upI_at {k : Int} {n i : Nat} (h : i < n) : (upI k n).getD i 0 = k + i := by
  unfold upI
  rw [List.getD_eq_getElem?_getD, List.getElem?_map, List.getElem?_range h]; rfl
theorem upI_length (k : Int) (n : Nat) : (upI k n).length = n := by simp [upI]
def upB (k : Int) (n : Nat) : List Bool := (List.range n).map fun (i : Nat) => decide ((k + i) % 3 = 0)
def upBTo (k : Int) (xs : List Bool) (m : Nat) : List Bool := (List.range xs.length).map fun (i : Nat) => if i < m then decide ((k + i) % 3 = 0) else xs.getD i false
theorem upBTo_zero (k : Int) (xs : List Bool) : upBTo k xs 0 = xs := by
  unfold upBTo
  apply List.ext_getElem?
  intro i
  rw [List.getElem?_map]
  rcases Nat.lt_or_ge i xs.length with h | h
  · rw [List.getElem?_range h, List.getElem?_eq_getElem h]
    simp [h]
  · rw [List.getElem?_eq_none (by simpa using h), List.getElem?_eq_none h]; rfl
theorem upBTo_length (k : Int) (xs : List Bool) (m : Nat) : (upBTo k xs m).length = xs.length := by simp [upBTo]
theorem upBTo_step {k : Int} {xs : List Bool} {m : Nat} (h : m < xs.length) : (upBTo k xs m).set m (decide ((k + m) % 3 = 0)) = upBTo k xs (m + 1) := by
  apply List.ext_getElem?
  intro i
  unfold upBTo
  rw [List.getElem?_set]
  rcases Nat.lt_or_ge i xs.length with hi | hi
  · by_cases e : m = i
    · subst e
      rw [if_pos rfl, if_pos (by simpa using h), List.getElem?_map, List.getElem?_range hi]
      simp
    · rw [if_neg e, List.getElem?_map, List.getElem?_map, List.getElem?_range hi]
      simp only [Option.map_some]
      by_cases h1 : i < m
      · rw [if_pos h1, if_pos (by omega)]
      · rw [if_neg h1, if_neg (by omega)]
  · rw [if_neg (by omega), List.getElem?_eq_none (by simpa using hi), List.getElem?_eq_none (by simpa using hi)]
theorem upBTo_all {k : Int} {xs : List Bool} {m : Nat} (h : xs.length ≤ m) : upBTo k xs m = upB k xs.length := by
  unfold upBTo upB
  refine List.map_congr_left fun i hi => ?_
  rw [if_pos (by have := List.mem_range.1 hi; omega)]
theorem upB_at {k : Int} {n i : Nat} (h : i < n) : (upB k n).getD i false = decide ((k + i) % 3 = 0) := by
  unfold upB
  rw [List.getD_eq_getElem?_getD, List.getElem?_map, List.getElem?_range h]; rfl
theorem upB_length (k : Int) (n : Nat) : (upB k n).length = n := by simp [upB]
def offR (xss : List (List Int)) : Nat → Int
  | 0 => 0
  | i + 1 => offR xss i + ((xss.getD i []).length : Int)
theorem offR_nonneg (xss : List (List Int)) : ∀ i, 0 ≤ offR xss i
  | 0 => Int.le_refl _
  | i + 1 => by have := offR_nonneg xss i; rw [offR]; omega
theorem offR_le {xss : List (List Int)} (h : ∀ r ∈ xss, r.length ≤ 1048576) : ∀ i, offR xss i ≤ (i : Int) * 1048576
  | 0 => by simp [offR]
  | i + 1 => by
    have h1 := offR_le h i
    have h2 : (xss.getD i []).length ≤ 1048576 := by
      rcases Nat.lt_or_ge i xss.length with hi | hi
      · exact h _ (getD_mem hi)
      · rw [List.getD_eq_getElem?_getD, List.getElem?_eq_none hi]; exact Nat.zero_le _
    rw [offR]
    have : ((i + 1 : Nat) : Int) * 1048576 = (i : Int) * 1048576 + 1048576 := by rw [Int.natCast_add, Int.add_mul]; omega
    omega
def rowsTo (xss : List (List Int)) (k : Int) (m : Nat) : List (List Int) := (List.range xss.length).map fun (i : Nat) => if i < m then upI (k + offR xss i) (xss.getD i []).length else xss.getD i []
def markR (xss : List (List Int)) (k : Int) : List (List Int) := (List.range xss.length).map fun (i : Nat) => upI (k + offR xss i) (xss.getD i []).length
theorem rowsTo_zero (xss : List (List Int)) (k : Int) : rowsTo xss k 0 = xss := by
  unfold rowsTo
  apply List.ext_getElem?
  intro i
  rw [List.getElem?_map]
  rcases Nat.lt_or_ge i xss.length with h | h
  · rw [List.getElem?_range h, List.getElem?_eq_getElem h]
    simp [h]
  · rw [List.getElem?_eq_none (by simpa using h), List.getElem?_eq_none h]; rfl
theorem rowsTo_length (xss : List (List Int)) (k : Int) (m : Nat) : (rowsTo xss k m).length = xss.length := by simp [rowsTo]
theorem markR_length (xss : List (List Int)) (k : Int) : (markR xss k).length = xss.length := by simp [markR]
theorem rowsTo_at {xss : List (List Int)} {k : Int} {m : Nat} (h : m < xss.length) : (rowsTo xss k m).getD m [] = xss.getD m [] := by
  unfold rowsTo
  rw [List.getD_eq_getElem?_getD, List.getElem?_map, List.getElem?_range h]
  simp
theorem markR_at {xss : List (List Int)} {k : Int} {m : Nat} (h : m < xss.length) : (markR xss k).getD m [] = upI (k + offR xss m) (xss.getD m []).length := by
  unfold markR
  rw [List.getD_eq_getElem?_getD, List.getElem?_map, List.getElem?_range h]; rfl
theorem rowsTo_step {xss : List (List Int)} {k : Int} {m : Nat} (h : m < xss.length) : (rowsTo xss k m).set m (upI (k + offR xss m) (xss.getD m []).length) = rowsTo xss k (m + 1) := by
  apply List.ext_getElem?
  intro i
  unfold rowsTo
  rw [List.getElem?_set]
  rcases Nat.lt_or_ge i xss.length with hi | hi
  · by_cases e : m = i
    · subst e
      rw [if_pos rfl, if_pos (by simpa using h), List.getElem?_map, List.getElem?_range hi]
      simp
    · rw [if_neg e, List.getElem?_map, List.getElem?_map, List.getElem?_range hi]
      simp only [Option.map_some]
      by_cases h1 : i < m
      · rw [if_pos h1, if_pos (by omega)]
      · rw [if_neg h1, if_neg (by omega)]
  · rw [if_neg (by omega), List.getElem?_eq_none (by simpa using hi), List.getElem?_eq_none (by simpa using hi)]
theorem rowsTo_all {xss : List (List Int)} {k : Int} {m : Nat} (h : xss.length ≤ m) : rowsTo xss k m = markR xss k := by
  unfold rowsTo markR
  refine List.map_congr_left fun i hi => ?_
  rw [if_pos (by have := List.mem_range.1 hi; omega)]
def sumR (xss : List (List Int)) : Int := offR xss xss.length
def cntA (a : A) : Int := sumR a.next + (a.acc.length : Int)
theorem cntA_nonneg (a : A) : 0 ≤ cntA a := by have := offR_nonneg a.next a.next.length; unfold cntA sumR; omega
theorem cntA_le {a : A} (h : SmX a) : 0 ≤ sumR a.next ∧ sumR a.next ≤ 1099511627776 ∧ cntA a ≤ 1099512676352 := by
  have h1 := offR_le h.2.1 a.next.length
  have h0 := offR_nonneg a.next a.next.length
  have h2 : (a.next.length : Int) * 1048576 ≤ 1048576 * 1048576 := Int.mul_le_mul_of_nonneg_right (by have := h.1; omega) (by decide)
  have h3 := h.2.2
  unfold cntA sumR
  omega
theorem smx_valid {a : A} (h : validA a = true) : SmX a := by
  have hs := validA_spec.1 h
  refine ⟨by omega, fun r hr => ?_, by omega⟩
  have := (hs.2.2.2 r hr).1
  have := letters_len6 a.al
  omega
theorem smx_zero : SmX zeroA := ⟨by decide, by simp [zeroA], by decide⟩
end Go.Proofs.YtnckpafknojdhaaDoor
set_option linter.unusedSimpArgs false
set_option linter.unusedVariables false
namespace Go.Proofs.YtnckpafknojdhaaDoor
open Go.RowKit
set_option maxRecDepth 100000 in
theorem markI_c (w0 : World) (B : Nat) (r : Value) (xs : List Int) (k : Int) (ho : Own w0 B 3 r (xs.map (Value.int .i64))) (hl : xs.length ≤ 1048576) (hk : 0 ≤ k ∧ k ≤ 4611686018427387904) : Ret Tryd.prog 48 #[r, Value.int .i64 k] w0 (fun v w => v = .int .i64 (k + xs.length) ∧ Own w B 3 r ((upI k xs.length).map (Value.int .i64)) ∧ w0.grownBy w r.ownBlock) := by
  have hgo := World.grownBy.refl w0 r.ownBlock
  refine Ret.of (args := [r, Value.int .i64 k]) Tryd.func48 rfl rfl rfl ?_
  rintro _ rfl
  show Cq _ _ _ _ [(0, r), (1, Value.int .i64 k)] _
  refine Cq.seq ?_
  refine Cq.region ?_
  refine Sq.assign .plain rfl rfl ?_
  refine Sq.nil ?_
  refine Eq.next ?_
  refine Cq.seq ?_
  refine Cq.seq ?_
  refine Cq.region ?_
  refine Sq.assign .plain rfl rfl ?_
  refine Sq.nil ?_
  refine Eq.next ?_
  refine Cq.block ?_
  refine Cq.loop (fun nn w ls => ∃ (i : Int), ∃ (p : Int), ls = [(0, r), (1, Value.int .i64 p), (5, Value.int .i64 i)] ∧ (0 ≤ i ∧ i ≤ xs.length) ∧ p = k + i ∧ Own w B 3 r ((upTo k xs i.toNat).map (Value.int .i64)) ∧ World.grownBy w0 w r.ownBlock ∧ nn = ((xs.length : Int) - i).toNat) _ _ ⟨0, _, rfl, by omega, by omega, by rw [show (0 : Int).toNat = 0 from rfl, upTo_zero]; exact ho, hgo, rfl⟩ (.cons rfl (.cons rfl (.cons rfl (.nil)))) ?_
  rintro nn wl1 ls ⟨i, p, rfl, hi, hp, ho, hgo, rfl⟩
  have hul := upTo_length k xs i.toNat
  refine Cq.seq ?_
  refine Cq.seq ?_
  refine Cq.region ?_
  refine Sq.move .plain rfl rfl ?_
  refine Sq.move .plain rfl rfl ?_
  refine Sq.lenInts (Own.row ho) .plain rfl und41 rfl ?_
  refine Sq.lss .plain rfl rfl rfl ?_
  refine Sq.part (fun c1 => ?_) (fun c1 => ?_)
  · refine Sq.nil ?_
    refine Eq.next ?_
    refine Cq.thn rfl ?_
    refine Cq.skip ?_
    refine Eq.next ?_
    refine Cq.seq ?_
    refine Cq.block ?_
    refine Cq.seq ?_
    refine Cq.region ?_
    refine Sq.move .plain rfl rfl ?_
    refine Sq.move .plain rfl rfl ?_
    refine Sq.move .plain rfl rfl ?_
    obtain ⟨p2, hp3o⟩ := Own.at ho (i := i) (by omega) (by first | (simp only [List.length_map]; omega) | (simp; omega))
    refine Sq.atO sl41 hp3o .plain rfl rfl rfl ?_
    refine Sq.storeO one3 ho hp3o .plain rfl rfl rfl (fun w4 g5 ho6 => ?_)
    have hs7 := World.grownBy.size g5
    replace hgo := grown_trans hgo g5
    replace ho := ho6
    refine Sq.nil ?_
    refine Eq.next ?_
    refine Cq.region ?_
    refine Sq.move .plain rfl rfl ?_
    refine Sq.add .plain rfl rfl rfl (by omega) ?_
    refine Sq.assign .plain rfl rfl ?_
    refine Sq.nil ?_
    refine Eq.end ?_
    refine Eq.next ?_
    refine Cq.region ?_
    refine Sq.move .plain rfl rfl ?_
    refine Sq.add .plain rfl rfl rfl (by omega) ?_
    refine Sq.assign .plain rfl rfl ?_
    refine Sq.nil ?_
    have e1 := toNat_succ hi.1
    have e3 : ((i.toNat : Nat) : Int) = i := Int.toNat_of_nonneg hi.1
    refine Eq.round _ _ ⟨i + 1, _, rfl, by omega, by omega, by rw [e1, ← upTo_step (by omega), List.map_set, e3, ← hp]; exact ho, hgo, rfl⟩ (by omega) (.cons rfl (.cons rfl (.cons rfl (.nil))))
  refine Sq.nil ?_
  refine Eq.next ?_
  refine Cq.els rfl ?_
  refine Cq.exit ?_
  refine Eq.past ?_
  refine Eq.past ?_
  refine Eq.hit ?_
  refine Eq.next ?_
  refine Cq.seq ?_
  refine Cq.region ?_
  refine Sq.move .plain rfl rfl ?_
  refine Sq.assign .plain rfl rfl ?_
  refine Sq.nil ?_
  refine Eq.next ?_
  refine Cq.ret ?_
  refine Eq.ret1 rfl rfl ?_
  rw [upTo_all (by omega)] at ho
  exact ⟨by rw [hp, show i = xs.length by omega], ho, hgo⟩
set_option maxRecDepth 100000 in
theorem markB_c (w0 : World) (B : Nat) (r : Value) (xs : List Bool) (k : Int) (ho : Own w0 B 4 r (xs.map (Value.bool))) (hl : xs.length ≤ 1048576) (hk : 0 ≤ k ∧ k ≤ 4611686018427387904) : Ret Tryd.prog 26 #[r, Value.int .i64 k] w0 (fun v w => v = .int .i64 (k + xs.length) ∧ Own w B 4 r ((upB k xs.length).map (Value.bool)) ∧ w0.grownBy w r.ownBlock) := by
  have hgo := World.grownBy.refl w0 r.ownBlock
  refine Ret.of (args := [r, Value.int .i64 k]) Tryd.func26 rfl rfl rfl ?_
  rintro _ rfl
  show Cq _ _ _ _ [(0, r), (1, Value.int .i64 k)] _
  refine Cq.seq ?_
  refine Cq.region ?_
  refine Sq.assign .plain rfl rfl ?_
  refine Sq.nil ?_
  refine Eq.next ?_
  refine Cq.seq ?_
  refine Cq.seq ?_
  refine Cq.region ?_
  refine Sq.assign .plain rfl rfl ?_
  refine Sq.nil ?_
  refine Eq.next ?_
  refine Cq.block ?_
  refine Cq.loop (fun nn w ls => ∃ (i : Int), ∃ (p : Int), ls = [(0, r), (1, Value.int .i64 p), (5, Value.int .i64 i)] ∧ (0 ≤ i ∧ i ≤ xs.length) ∧ p = k + i ∧ Own w B 4 r ((upBTo k xs i.toNat).map (Value.bool)) ∧ World.grownBy w0 w r.ownBlock ∧ nn = ((xs.length : Int) - i).toNat) _ _ ⟨0, _, rfl, by omega, by omega, by rw [show (0 : Int).toNat = 0 from rfl, upBTo_zero]; exact ho, hgo, rfl⟩ (.cons rfl (.cons rfl (.cons rfl (.nil)))) ?_
  rintro nn wl1 ls ⟨i, p, rfl, hi, hp, ho, hgo, rfl⟩
  have hul := upBTo_length k xs i.toNat
  refine Cq.seq ?_
  refine Cq.seq ?_
  refine Cq.region ?_
  refine Sq.move .plain rfl rfl ?_
  refine Sq.move .plain rfl rfl ?_
  refine Sq.lenBools (Own.row ho) .plain rfl und23 rfl ?_
  refine Sq.lss .plain rfl rfl rfl ?_
  refine Sq.part (fun c1 => ?_) (fun c1 => ?_)
  · refine Sq.nil ?_
    refine Eq.next ?_
    refine Cq.thn rfl ?_
    refine Cq.skip ?_
    refine Eq.next ?_
    refine Cq.seq ?_
    refine Cq.block ?_
    refine Cq.seq ?_
    refine Cq.region ?_
    refine Sq.move .plain rfl rfl ?_
    refine Sq.move .plain rfl rfl ?_
    refine Sq.move .plain rfl rfl ?_
    refine Sq.rem .plain rfl rfl rfl (by omega) ?_
    refine Sq.eql .plain rfl rfl rfl ?_
    obtain ⟨p2, hp3o⟩ := Own.at ho (i := i) (by omega) (by first | (simp only [List.length_map]; omega) | (simp; omega))
    refine Sq.atO sl23 hp3o .plain rfl rfl rfl ?_
    refine Sq.storeO one4 ho hp3o .plain rfl rfl rfl (fun w4 g5 ho6 => ?_)
    have hs7 := World.grownBy.size g5
    replace hgo := grown_trans hgo g5
    replace ho := ho6
    refine Sq.nil ?_
    refine Eq.next ?_
    refine Cq.region ?_
    refine Sq.move .plain rfl rfl ?_
    refine Sq.add .plain rfl rfl rfl (by omega) ?_
    refine Sq.assign .plain rfl rfl ?_
    refine Sq.nil ?_
    refine Eq.end ?_
    refine Eq.next ?_
    refine Cq.region ?_
    refine Sq.move .plain rfl rfl ?_
    refine Sq.add .plain rfl rfl rfl (by omega) ?_
    refine Sq.assign .plain rfl rfl ?_
    refine Sq.nil ?_
    have e1 := toNat_succ hi.1
    have e3 : ((i.toNat : Nat) : Int) = i := Int.toNat_of_nonneg hi.1
    refine Eq.round _ _ ⟨i + 1, _, rfl, by omega, by omega, by rw [e1, ← upBTo_step (by omega), List.map_set, e3, ← hp]; exact ho, hgo, rfl⟩ (by omega) (.cons rfl (.cons rfl (.cons rfl (.nil))))
  refine Sq.nil ?_
  refine Eq.next ?_
  refine Cq.els rfl ?_
  refine Cq.exit ?_
  refine Eq.past ?_
  refine Eq.past ?_
  refine Eq.hit ?_
  refine Eq.next ?_
  refine Cq.seq ?_
  refine Cq.region ?_
  refine Sq.move .plain rfl rfl ?_
  refine Sq.assign .plain rfl rfl ?_
  refine Sq.nil ?_
  refine Eq.next ?_
  refine Cq.ret ?_
  refine Eq.ret1 rfl rfl ?_
  rw [upBTo_all (by omega)] at ho
  exact ⟨by rw [hp, show i = xs.length by omega], ho, hgo⟩
set_option maxRecDepth 100000 in
theorem heldI_c (w0 : World) (r : Value) (k : Int) (n : Nat) (hr : Ints w0 3 r (upI k n)) (hl : n ≤ 1048576) (hk : 0 ≤ k ∧ k ≤ 4611686018427387904) : Ret Tryd.prog 49 #[r, Value.int .i64 k] w0 (fun v w => v = .int .i64 (k + n) ∧ Ext w0 w) := by
  have E := Ext.refl w0
  refine Ret.of (args := [r, Value.int .i64 k]) Tryd.func49 rfl rfl rfl ?_
  rintro _ rfl
  show Cq _ _ _ _ [(0, r), (1, Value.int .i64 k)] _
  refine Cq.seq ?_
  refine Cq.region ?_
  refine Sq.assign .plain rfl rfl ?_
  refine Sq.nil ?_
  refine Eq.next ?_
  refine Cq.seq ?_
  refine Cq.seq ?_
  refine Cq.region ?_
  refine Sq.assign .plain rfl rfl ?_
  refine Sq.nil ?_
  refine Eq.next ?_
  refine Cq.block ?_
  refine Cq.loop (fun nn w ls => ∃ (i : Int), ∃ (p : Int), ls = [(0, r), (1, Value.int .i64 p), (5, Value.int .i64 i)] ∧ (0 ≤ i ∧ i ≤ n) ∧ p = k + i ∧ Ext w0 w ∧ nn = ((n : Int) - i).toNat) _ _ ⟨0, _, rfl, by omega, by omega, E, rfl⟩ (.cons rfl (.cons rfl (.cons rfl (.nil)))) ?_
  rintro nn wl1 ls ⟨i, p, rfl, hi, hp, E, rfl⟩
  have hs1 := Below.size E
  have hul := upI_length k n
  have hat := upI_at (k := k) (n := n) (i := i.toNat)
  have e3 : ((i.toNat : Nat) : Int) = i := Int.toNat_of_nonneg hi.1
  refine Cq.seq ?_
  refine Cq.seq ?_
  refine Cq.region ?_
  refine Sq.move .plain rfl rfl ?_
  refine Sq.move .plain rfl rfl ?_
  refine Sq.lenInts (hr.ext E) .plain rfl und41 rfl ?_
  refine Sq.lss .plain rfl rfl rfl ?_
  refine Sq.part (fun c2 => ?_) (fun c2 => ?_)
  · refine Sq.nil ?_
    refine Eq.next ?_
    refine Cq.thn rfl ?_
    refine Cq.skip ?_
    refine Eq.next ?_
    refine Cq.seq ?_
    refine Cq.block ?_
    refine Cq.seq ?_
    refine Cq.seq ?_
    refine Cq.region ?_
    refine Sq.move .plain rfl rfl ?_
    refine Sq.move .plain rfl rfl ?_
    refine Sq.idxInts sl41 one3 (hr.ext E) .plain rfl rfl rfl .plain rfl rfl (by omega) (by omega) ?_
    refine Sq.move .plain rfl rfl ?_
    refine Sq.neq .plain rfl rfl rfl ?_
    refine Sq.isF (by rw [hat (by omega), e3, hp]; exact fun h => h rfl) ?_
    refine Sq.nil ?_
    refine Eq.next ?_
    refine Cq.els rfl ?_
    refine Cq.skip ?_
    refine Eq.next ?_
    refine Cq.region ?_
    refine Sq.move .plain rfl rfl ?_
    refine Sq.add .plain rfl rfl rfl (by omega) ?_
    refine Sq.assign .plain rfl rfl ?_
    refine Sq.nil ?_
    refine Eq.end ?_
    refine Eq.next ?_
    refine Cq.region ?_
    refine Sq.move .plain rfl rfl ?_
    refine Sq.add .plain rfl rfl rfl (by omega) ?_
    refine Sq.assign .plain rfl rfl ?_
    refine Sq.nil ?_
    refine Eq.round _ _ ⟨i + 1, _, rfl, by omega, by omega, E, rfl⟩ (by omega) (.cons rfl (.cons rfl (.cons rfl (.nil))))
  refine Sq.nil ?_
  refine Eq.next ?_
  refine Cq.els rfl ?_
  refine Cq.exit ?_
  refine Eq.past ?_
  refine Eq.past ?_
  refine Eq.hit ?_
  refine Eq.next ?_
  refine Cq.seq ?_
  refine Cq.region ?_
  refine Sq.move .plain rfl rfl ?_
  refine Sq.assign .plain rfl rfl ?_
  refine Sq.nil ?_
  refine Eq.next ?_
  refine Cq.ret ?_
  refine Eq.ret1 rfl rfl ?_
  exact ⟨by rw [hp, show i = n by omega], E⟩
set_option maxRecDepth 100000 in
theorem heldB_c (w0 : World) (r : Value) (k : Int) (n : Nat) (hr : Bools w0 4 r (upB k n)) (hl : n ≤ 1048576) (hk : 0 ≤ k ∧ k ≤ 4611686018427387904) : Ret Tryd.prog 28 #[r, Value.int .i64 k] w0 (fun v w => v = .int .i64 (k + n) ∧ Ext w0 w) := by
  have E := Ext.refl w0
  refine Ret.of (args := [r, Value.int .i64 k]) Tryd.func28 rfl rfl rfl ?_
  rintro _ rfl
  show Cq _ _ _ _ [(0, r), (1, Value.int .i64 k)] _
  refine Cq.seq ?_
  refine Cq.region ?_
  refine Sq.assign .plain rfl rfl ?_
  refine Sq.nil ?_
  refine Eq.next ?_
  refine Cq.seq ?_
  refine Cq.seq ?_
  refine Cq.region ?_
  refine Sq.assign .plain rfl rfl ?_
  refine Sq.nil ?_
  refine Eq.next ?_
  refine Cq.block ?_
  refine Cq.loop (fun nn w ls => ∃ (i : Int), ∃ (p : Int), ls = [(0, r), (1, Value.int .i64 p), (5, Value.int .i64 i)] ∧ (0 ≤ i ∧ i ≤ n) ∧ p = k + i ∧ Ext w0 w ∧ nn = ((n : Int) - i).toNat) _ _ ⟨0, _, rfl, by omega, by omega, E, rfl⟩ (.cons rfl (.cons rfl (.cons rfl (.nil)))) ?_
  rintro nn wl1 ls ⟨i, p, rfl, hi, hp, E, rfl⟩
  have hs1 := Below.size E
  have hul := upB_length k n
  have hat := upB_at (k := k) (n := n) (i := i.toNat)
  have e3 : ((i.toNat : Nat) : Int) = i := Int.toNat_of_nonneg hi.1
  refine Cq.seq ?_
  refine Cq.seq ?_
  refine Cq.region ?_
  refine Sq.move .plain rfl rfl ?_
  refine Sq.move .plain rfl rfl ?_
  refine Sq.lenBools (hr.ext E) .plain rfl und23 rfl ?_
  refine Sq.lss .plain rfl rfl rfl ?_
  refine Sq.part (fun c2 => ?_) (fun c2 => ?_)
  · refine Sq.nil ?_
    refine Eq.next ?_
    refine Cq.thn rfl ?_
    refine Cq.skip ?_
    refine Eq.next ?_
    refine Cq.seq ?_
    refine Cq.block ?_
    refine Cq.seq ?_
    refine Cq.seq ?_
    refine Cq.region ?_
    refine Sq.move .plain rfl rfl ?_
    refine Sq.move .plain rfl rfl ?_
    refine Sq.idxBools sl23 one4 (hr.ext E) .plain rfl rfl rfl .plain rfl rfl (by omega) (by omega) ?_
    refine Sq.move .plain rfl rfl ?_
    refine Sq.rem .plain rfl rfl rfl (by omega) ?_
    refine Sq.eql .plain rfl rfl rfl ?_
    refine Sq.neqB und4 .plain rfl rfl rfl ?_
    refine Sq.beF (by rw [hat (by omega), e3, hp]; simp) ?_
    refine Sq.nil ?_
    refine Eq.next ?_
    refine Cq.els rfl ?_
    refine Cq.skip ?_
    refine Eq.next ?_
    refine Cq.region ?_
    refine Sq.move .plain rfl rfl ?_
    refine Sq.add .plain rfl rfl rfl (by omega) ?_
    refine Sq.assign .plain rfl rfl ?_
    refine Sq.nil ?_
    refine Eq.end ?_
    refine Eq.next ?_
    refine Cq.region ?_
    refine Sq.move .plain rfl rfl ?_
    refine Sq.add .plain rfl rfl rfl (by omega) ?_
    refine Sq.assign .plain rfl rfl ?_
    refine Sq.nil ?_
    refine Eq.round _ _ ⟨i + 1, _, rfl, by omega, by omega, E, rfl⟩ (by omega) (.cons rfl (.cons rfl (.cons rfl (.nil))))
  refine Sq.nil ?_
  refine Eq.next ?_
  refine Cq.els rfl ?_
  refine Cq.exit ?_
  refine Eq.past ?_
  refine Eq.past ?_
  refine Eq.hit ?_
  refine Eq.next ?_
  refine Cq.seq ?_
  refine Cq.region ?_
  refine Sq.move .plain rfl rfl ?_
  refine Sq.assign .plain rfl rfl ?_
  refine Sq.nil ?_
  refine Eq.next ?_
  refine Cq.ret ?_
  refine Eq.ret1 rfl rfl ?_
  exact ⟨by rw [hp, show i = n by omega], E⟩
set_option maxRecDepth 100000 in
theorem markSS_c (w0 : World) (B U : Nat) (r : Value) (xss : List (List Int)) (k : Int) (hor : OwnRows w0 B U 41 3 r xss) (hx : xss.length ≤ 1048576) (hxx : ∀ r ∈ xss, r.length ≤ 1048576) (hk : 0 ≤ k ∧ k ≤ 2305843009213693952) : Ret Tryd.prog 25 #[r, Value.int .i64 k] w0 (fun v w => v = .int .i64 (k + sumR xss) ∧ OwnRows w B U 41 3 r (markR xss k) ∧ Wrote w0 w B U ∧ KeepT w0 w 3) := by
  have hwr := Wrote.refl w0 B U
  have hkp := KeepT.refl w0 3
  refine Ret.of (args := [r, Value.int .i64 k]) Tryd.func25 rfl rfl rfl ?_
  rintro _ rfl
  show Cq _ _ _ _ [(0, r), (1, Value.int .i64 k)] _
  refine Cq.seq ?_
  refine Cq.region ?_
  refine Sq.assign .plain rfl rfl ?_
  refine Sq.nil ?_
  refine Eq.next ?_
  refine Cq.seq ?_
  refine Cq.seq ?_
  refine Cq.region ?_
  refine Sq.assign .plain rfl rfl ?_
  refine Sq.nil ?_
  refine Eq.next ?_
  refine Cq.block ?_
  refine Cq.loop (fun nn w ls => ∃ (i : Int), ∃ (p : Int), ls = [(0, r), (1, Value.int .i64 p), (5, Value.int .i64 i)] ∧ (0 ≤ i ∧ i ≤ xss.length) ∧ p = k + offR xss i.toNat ∧ OwnRows w B U 41 3 r (rowsTo xss k i.toNat) ∧ Wrote w0 w B U ∧ KeepT w0 w 3 ∧ nn = ((xss.length : Int) - i).toNat) _ _ ⟨0, _, rfl, by omega, by simp [offR], by rw [show (0 : Int).toNat = 0 from rfl, rowsTo_zero]; exact hor, hwr, hkp, rfl⟩ (.cons rfl (.cons rfl (.cons rfl (.nil)))) ?_
  rintro nn wl1 ls ⟨i, p, rfl, hi, hp, hor, hwr, hkp, rfl⟩
  have hul := rowsTo_length xss k i.toNat
  refine Cq.seq ?_
  refine Cq.seq ?_
  refine Cq.region ?_
  refine Sq.move .plain rfl rfl ?_
  refine Sq.move .plain rfl rfl ?_
  refine Sq.lenRows (OwnRows.rows hor) .plain rfl und22 rfl ?_
  refine Sq.lss .plain rfl rfl rfl ?_
  refine Sq.part (fun c1 => ?_) (fun c1 => ?_)
  · refine Sq.nil ?_
    refine Eq.next ?_
    refine Cq.thn rfl ?_
    refine Cq.skip ?_
    refine Eq.next ?_
    refine Cq.seq ?_
    refine Cq.block ?_
    refine Cq.region ?_
    refine Sq.move .plain rfl rfl ?_
    refine Sq.move .plain rfl rfl ?_
    obtain ⟨pA, rA, hpA, _⟩ := Rows.at (OwnRows.rows hor) (i := i) (by omega) (by rw [rowsTo_length]; omega)
    refine Sq.val .plain rfl rfl (Still.at' sl22 hpA rfl rfl) ?_
    refine Sq.val .plain rfl rfl (Still.loadA one41 rfl hpA.1) ?_
    refine Sq.move .plain rfl rfl ?_
    have hrA := (OwnRows.rowAt hor hpA).1
    have hltA := OwnRows.rowLt hor hpA
    rw [rowsTo_at (by omega)] at hrA
    have hof := offR_le hxx i.toNat
    have hof0 := offR_nonneg xss i.toNat
    refine Sq.call fn48 .plain rfl rfl (markI_c _ B rA (xss.getD i.toNat []) p hrA (hxx _ (getD_mem (by omega))) (by omega)) ?_
    rintro _ w2 ⟨rfl, hr3, g4⟩
    have hkp := KeepT.next hkp hrA g4
    replace hor := (OwnRows.set hor (by decide) hpA hr3 g4).1
    replace hwr := hwr.trans (Wrote.of g4 hltA)
    refine Sq.assign .plain rfl rfl ?_
    refine Sq.nil ?_
    refine Eq.end ?_
    refine Eq.next ?_
    refine Cq.region ?_
    refine Sq.move .plain rfl rfl ?_
    refine Sq.add .plain rfl rfl rfl (by omega) ?_
    refine Sq.assign .plain rfl rfl ?_
    refine Sq.nil ?_
    have e1 := toNat_succ hi.1
    refine Eq.round _ _ ⟨i + 1, _, rfl, by omega, by rw [e1, offR, hp]; omega, by rw [e1, ← rowsTo_step (by omega), ← hp]; exact hor, hwr, hkp, rfl⟩ (by omega) (.cons rfl (.cons rfl (.cons rfl (.nil))))
  refine Sq.nil ?_
  refine Eq.next ?_
  refine Cq.els rfl ?_
  refine Cq.exit ?_
  refine Eq.past ?_
  refine Eq.past ?_
  refine Eq.hit ?_
  refine Eq.next ?_
  refine Cq.seq ?_
  refine Cq.region ?_
  refine Sq.move .plain rfl rfl ?_
  refine Sq.assign .plain rfl rfl ?_
  refine Sq.nil ?_
  refine Eq.next ?_
  refine Cq.ret ?_
  refine Eq.ret1 rfl rfl ?_
  rw [rowsTo_all (by omega)] at hor
  exact ⟨by rw [hp, show i.toNat = xss.length by omega]; rfl, hor, hwr, hkp⟩
set_option maxRecDepth 100000 in
theorem heldSS_c (w0 : World) (r : Value) (xss : List (List Int)) (k : Int) (hr : Rows w0 41 3 r (markR xss k)) (hx : xss.length ≤ 1048576) (hxx : ∀ r ∈ xss, r.length ≤ 1048576) (hk : 0 ≤ k ∧ k ≤ 2305843009213693952) : Ret Tryd.prog 27 #[r, Value.int .i64 k] w0 (fun v w => v = .int .i64 (k + sumR xss) ∧ Ext w0 w) := by
  have E := Ext.refl w0
  refine Ret.of (args := [r, Value.int .i64 k]) Tryd.func27 rfl rfl rfl ?_
  rintro _ rfl
  show Cq _ _ _ _ [(0, r), (1, Value.int .i64 k)] _
  refine Cq.seq ?_
  refine Cq.region ?_
  refine Sq.assign .plain rfl rfl ?_
  refine Sq.nil ?_
  refine Eq.next ?_
  refine Cq.seq ?_
  refine Cq.seq ?_
  refine Cq.region ?_
  refine Sq.assign .plain rfl rfl ?_
  refine Sq.nil ?_
  refine Eq.next ?_
  refine Cq.block ?_
  refine Cq.loop (fun nn w ls => ∃ (i : Int), ∃ (p : Int), ls = [(0, r), (1, Value.int .i64 p), (5, Value.int .i64 i)] ∧ (0 ≤ i ∧ i ≤ xss.length) ∧ p = k + offR xss i.toNat ∧ Ext w0 w ∧ nn = ((xss.length : Int) - i).toNat) _ _ ⟨0, _, rfl, by omega, by simp [offR], E, rfl⟩ (.cons rfl (.cons rfl (.cons rfl (.nil)))) ?_
  rintro nn wl1 ls ⟨i, p, rfl, hi, hp, E, rfl⟩
  have hs1 := Below.size E
  have hul := markR_length xss k
  have hof := offR_le hxx i.toNat
  have hof0 := offR_nonneg xss i.toNat
  refine Cq.seq ?_
  refine Cq.seq ?_
  refine Cq.region ?_
  refine Sq.move .plain rfl rfl ?_
  refine Sq.move .plain rfl rfl ?_
  refine Sq.lenRows (hr.ext E) .plain rfl und22 rfl ?_
  refine Sq.lss .plain rfl rfl rfl ?_
  refine Sq.part (fun c2 => ?_) (fun c2 => ?_)
  · refine Sq.nil ?_
    refine Eq.next ?_
    refine Cq.thn rfl ?_
    refine Cq.skip ?_
    refine Eq.next ?_
    refine Cq.seq ?_
    refine Cq.block ?_
    refine Cq.seq ?_
    refine Cq.region ?_
    refine Sq.move .plain rfl rfl ?_
    refine Sq.move .plain rfl rfl ?_
    refine Sq.idxRows sl22 one41 (hr.ext E) .plain rfl rfl rfl .plain rfl rfl (by omega) (by omega) (fun r3 hr4 => ?_)
    refine Sq.move .plain rfl rfl ?_
    refine Sq.call fn49 .plain rfl rfl (heldI_c _ _ p _ (by rw [hp, ← markR_at (by omega)]; exact hr4) (hxx _ (getD_mem (by omega))) (by omega)) ?_
    rintro _ w6 ⟨rfl, e7⟩
    have hs8 := Below.size E
    have hs9 := Below.size e7
    replace E := E.trans e7
    refine Sq.assign .plain rfl rfl ?_
    refine Sq.nil ?_
    refine Eq.next ?_
    refine Cq.seq ?_
    refine Cq.region ?_
    refine Sq.move .plain rfl rfl ?_
    refine Sq.lss .plain rfl rfl rfl ?_
    refine Sq.isF (by omega) ?_
    refine Sq.nil ?_
    refine Eq.next ?_
    refine Cq.els rfl ?_
    refine Cq.skip ?_
    refine Eq.end ?_
    refine Eq.next ?_
    refine Cq.region ?_
    refine Sq.move .plain rfl rfl ?_
    refine Sq.add .plain rfl rfl rfl (by omega) ?_
    refine Sq.assign .plain rfl rfl ?_
    refine Sq.nil ?_
    have e1 := toNat_succ hi.1
    refine Eq.round _ _ ⟨i + 1, _, rfl, by omega, by rw [e1, offR, hp]; omega, E, rfl⟩ (by omega) (.cons rfl (.cons rfl (.cons rfl (.nil))))
  refine Sq.nil ?_
  refine Eq.next ?_
  refine Cq.els rfl ?_
  refine Cq.exit ?_
  refine Eq.past ?_
  refine Eq.past ?_
  refine Eq.hit ?_
  refine Eq.next ?_
  refine Cq.seq ?_
  refine Cq.region ?_
  refine Sq.move .plain rfl rfl ?_
  refine Sq.assign .plain rfl rfl ?_
  refine Sq.nil ?_
  refine Eq.next ?_
  refine Cq.ret ?_
  refine Eq.ret1 rfl rfl ?_
  exact ⟨by rw [hp, show i.toNat = xss.length by omega]; rfl, E⟩
set_option maxRecDepth 100000 in
theorem markA_c (w0 : World) (B U : Nat) (a : A) (nx ac : Value) (k : Int) (hor : OwnRows w0 B U 41 3 nx a.next) (hoc : Own w0 B 4 ac (a.acc.map Value.bool)) (hlw : ∀ k, ac.ownBlock = some k → k < U) (hsm : SmX a) (hk : 0 ≤ k ∧ k ≤ 1152921504606846976) : Ret Tryd.prog 9 #[Value.agg #[Value.int .i64 a.al, nx, ac], Value.int .i64 k] w0 (fun v w => v = .int .i64 (k + cntA a) ∧ OwnRows w B U 41 3 nx (markR a.next k) ∧ Own w B 4 ac ((upB (k + sumR a.next) a.acc.length).map Value.bool) ∧ Wrote w0 w B U) := by
  have hwr := Wrote.refl w0 B U
  refine Ret.of (args := [Value.agg #[Value.int .i64 a.al, nx, ac], Value.int .i64 k]) Tryd.func9 rfl rfl rfl ?_
  rintro _ rfl
  show Cq _ _ _ _ [(0, Value.agg #[Value.int .i64 a.al, nx, ac]), (1, Value.int .i64 k)] _
  refine Cq.seq ?_
  refine Cq.region ?_
  refine Sq.box .plain rfl rfl (fun b1 w2 e3 hB0 hlo4 => ?_)
  have hs0 := Below.size e3
  replace hor := hor.ext e3
  replace hoc := hoc.ext e3
  replace hwr := hwr.trans (Wrote.ofExt e3 _ _)
  refine Sq.assign .plain rfl rfl ?_
  refine Sq.nil ?_
  refine Eq.next ?_
  refine Cq.seq ?_
  refine Cq.region ?_
  refine Sq.fieldAddr fld25_1 .plain rfl rfl ?_
  refine Sq.loadB one22 .plain rfl rfl hB0 rfl ?_
  refine Sq.move .plain rfl rfl ?_
  refine Sq.call fn25 .plain rfl rfl (markSS_c _ B U nx a.next k hor hsm.1 hsm.2.1 (by omega)) ?_
  rintro _ w5 ⟨rfl, hor', hw1, hk1⟩
  replace hor := hor'
  clear hor'
  replace hoc := hoc.kept hk1 (by decide)
  replace hB0 := hk1 _ _ _ hB0 (by decide)
  replace hwr := hwr.trans hw1
  refine Sq.assign .plain rfl rfl ?_
  refine Sq.nil ?_
  refine Eq.next ?_
  refine Cq.seq ?_
  refine Cq.region ?_
  refine Sq.fieldAddr fld25_2 .plain rfl rfl ?_
  refine Sq.loadB one23 .plain rfl rfl hB0 rfl ?_
  refine Sq.move .plain rfl rfl ?_
  have hcl := cntA_le hsm
  refine Sq.call fn26 .plain rfl rfl (markB_c _ B ac a.acc (k + sumR a.next) hoc hsm.2.2 (by omega)) ?_
  rintro _ w6 ⟨rfl, hoc', hg⟩
  replace hor := hor.owned hoc hg (by decide) (by decide)
  replace hwr := hwr.trans (Wrote.of hg fun k hk => ⟨(hoc.lt k hk).1, hlw k hk⟩)
  replace hoc := hoc'
  refine Sq.assign .plain rfl rfl ?_
  refine Sq.nil ?_
  refine Eq.next ?_
  refine Cq.seq ?_
  refine Cq.region ?_
  refine Sq.move .plain rfl rfl ?_
  refine Sq.assign .plain rfl rfl ?_
  refine Sq.nil ?_
  refine Eq.next ?_
  refine Cq.ret ?_
  refine Eq.ret1 rfl rfl ?_
  exact ⟨by rw [Int.add_assoc]; rfl, hor, hoc, hwr⟩
set_option maxRecDepth 100000 in
theorem heldA_c (w0 : World) (a : A) (nx ac : Value) (k : Int) (hnx : Rows w0 41 3 nx (markR a.next k)) (hac : Bools w0 4 ac (upB (k + sumR a.next) a.acc.length)) (hsm : SmX a) (hk : 0 ≤ k ∧ k ≤ 1152921504606846976) : Ret Tryd.prog 10 #[Value.agg #[Value.int .i64 a.al, nx, ac], Value.int .i64 k] w0 (fun v w => v = .int .i64 (k + cntA a) ∧ Ext w0 w) := by
  have E := Ext.refl w0
  have hcl := cntA_le hsm
  refine Ret.of (args := [Value.agg #[Value.int .i64 a.al, nx, ac], Value.int .i64 k]) Tryd.func10 rfl rfl rfl ?_
  rintro _ rfl
  show Cq _ _ _ _ [(0, Value.agg #[Value.int .i64 a.al, nx, ac]), (1, Value.int .i64 k)] _
  refine Cq.seq ?_
  refine Cq.region ?_
  refine Sq.box .plain rfl rfl (fun b1 w2 e3 hB4 hlo5 => ?_)
  have hd6 := Nat.le_trans (Below.size E) hlo5
  have hs7 := Below.size e3
  replace E := E.trans e3
  refine Sq.assign .plain rfl rfl ?_
  refine Sq.nil ?_
  refine Eq.next ?_
  refine Cq.seq ?_
  refine Cq.region ?_
  refine Sq.fieldAddr fld25_1 .plain rfl rfl ?_
  refine Sq.loadB one22 .plain rfl rfl hB4 rfl ?_
  refine Sq.move .plain rfl rfl ?_
  have hd11 := hB4.lt
  refine Sq.call fn27 .plain rfl rfl (heldSS_c _ _ a.next k (hnx.ext E) hsm.1 hsm.2.1 (by omega)) ?_
  rintro _ w9 ⟨rfl, e10⟩
  have hs12 := Below.size E
  have hs13 := Below.size e10
  replace E := E.trans e10
  replace hB4 := hB4.ext e10
  refine Sq.assign .plain rfl rfl ?_
  refine Sq.nil ?_
  refine Eq.next ?_
  refine Cq.seq ?_
  refine Cq.seq ?_
  refine Cq.region ?_
  refine Sq.move .plain rfl rfl ?_
  refine Sq.lss .plain rfl rfl rfl ?_
  refine Sq.isF (by omega) ?_
  refine Sq.nil ?_
  refine Eq.next ?_
  refine Cq.els rfl ?_
  refine Cq.skip ?_
  refine Eq.next ?_
  refine Cq.seq ?_
  refine Cq.region ?_
  refine Sq.fieldAddr fld25_2 .plain rfl rfl ?_
  refine Sq.loadB one23 .plain rfl rfl hB4 rfl ?_
  refine Sq.move .plain rfl rfl ?_
  have hd17 := hB4.lt
  refine Sq.call fn28 .plain rfl rfl (heldB_c _ _ (k + sumR a.next) _ (hac.ext E) hsm.2.2 (by omega)) ?_
  rintro _ w15 ⟨rfl, e16⟩
  have hs18 := Below.size E
  have hs19 := Below.size e16
  replace E := E.trans e16
  refine Sq.assign .plain rfl rfl ?_
  refine Sq.nil ?_
  refine Eq.next ?_
  refine Cq.seq ?_
  refine Cq.seq ?_
  refine Cq.region ?_
  refine Sq.move .plain rfl rfl ?_
  refine Sq.lss .plain rfl rfl rfl ?_
  refine Sq.isF (by omega) ?_
  refine Sq.nil ?_
  refine Eq.next ?_
  refine Cq.els rfl ?_
  refine Cq.skip ?_
  refine Eq.next ?_
  refine Cq.seq ?_
  refine Cq.region ?_
  refine Sq.move .plain rfl rfl ?_
  refine Sq.assign .plain rfl rfl ?_
  refine Sq.nil ?_
  refine Eq.next ?_
  refine Cq.ret ?_
  refine Eq.ret1 rfl rfl ?_
  exact ⟨by rw [Int.add_assoc]; rfl, E⟩
end Go.Proofs.YtnckpafknojdhaaDoor
set_option linter.unusedSimpArgs false
set_option linter.unusedVariables false
namespace Go.Proofs.YtnckpafknojdhaaDoor
open Go.RowKit
set_option maxRecDepth 100000 in
theorem szIntS_c (w0 : World) (r : Value) (xs : List Int) (hr : IntsX w0 r xs) (left : Int) (hleft : 0 ≤ left ∧ left ≤ 1048576) : Ret Tryd.prog 50 #[r, Value.int .i64 left] w0 (fun v w => (∃ z, v = .int .i64 z ∧ -1 ≤ z ∧ (0 ≤ z → z ≤ left ∧ xs.length ≤ 1048576)) ∧ Ext w0 w) := by
  have E := Ext.refl w0
  have hlo : xs.length ≤ 9223372036854775807 := hr.1
  refine Ret.of (args := [r, Value.int .i64 left]) Tryd.func50 rfl rfl rfl ?_
  rintro _ rfl
  show Cq _ _ _ _ [(0, r), (1, Value.int .i64 left)] _
  refine Cq.seq ?_
  refine Cq.region ?_
  refine Sq.assign .plain rfl rfl ?_
  refine Sq.nil ?_
  refine Eq.next ?_
  refine Cq.seq ?_
  refine Cq.region ?_
  refine Sq.move .plain rfl rfl ?_
  refine Sq.move .plain rfl rfl ?_
  obtain ⟨eq1, heq1⟩ := hr.2
  refine Sq.lenInts (heq1.ext E) .plain rfl und41 rfl ?_
  refine Sq.sub .plain rfl rfl rfl (by omega) ?_
  refine Sq.assign .plain rfl rfl ?_
  refine Sq.nil ?_
  refine Eq.next ?_
  refine Cq.seq ?_
  refine Cq.seq ?_
  refine Cq.region ?_
  refine Sq.move .plain rfl rfl ?_
  refine Sq.lss .plain rfl rfl rfl ?_
  refine Sq.part (fun c2 => ?_) (fun c2 => ?_)
  · refine Sq.nil ?_
    refine Eq.next ?_
    refine Cq.thn rfl ?_
    refine Cq.seq ?_
    refine Cq.region ?_
    refine Sq.assign .plain rfl rfl ?_
    refine Sq.nil ?_
    refine Eq.next ?_
    refine Cq.ret ?_
    refine Eq.pastRet ?_
    refine Eq.ret1 rfl rfl ?_
    exact ⟨⟨_, rfl, by omega, fun h => by omega⟩, E⟩
  refine Sq.nil ?_
  refine Eq.next ?_
  refine Cq.els rfl ?_
  refine Cq.skip ?_
  refine Eq.next ?_
  refine Cq.seq ?_
  refine Cq.region ?_
  refine Sq.move .plain rfl rfl ?_
  refine Sq.assign .plain rfl rfl ?_
  refine Sq.nil ?_
  refine Eq.next ?_
  refine Cq.ret ?_
  refine Eq.ret1 rfl rfl ?_
  exact ⟨⟨_, rfl, by omega, fun h => by omega⟩, E⟩
set_option maxRecDepth 100000 in
theorem szBoolS_c (w0 : World) (r : Value) (xs : List Bool) (hr : BoolsX w0 r xs) (left : Int) (hleft : 0 ≤ left ∧ left ≤ 1048576) : Ret Tryd.prog 30 #[r, Value.int .i64 left] w0 (fun v w => (∃ z, v = .int .i64 z ∧ -1 ≤ z ∧ (0 ≤ z → z ≤ left ∧ xs.length ≤ 1048576)) ∧ Ext w0 w) := by
  have E := Ext.refl w0
  have hlo : xs.length ≤ 9223372036854775807 := hr.1
  refine Ret.of (args := [r, Value.int .i64 left]) Tryd.func30 rfl rfl rfl ?_
  rintro _ rfl
  show Cq _ _ _ _ [(0, r), (1, Value.int .i64 left)] _
  refine Cq.seq ?_
  refine Cq.region ?_
  refine Sq.assign .plain rfl rfl ?_
  refine Sq.nil ?_
  refine Eq.next ?_
  refine Cq.seq ?_
  refine Cq.region ?_
  refine Sq.move .plain rfl rfl ?_
  refine Sq.move .plain rfl rfl ?_
  obtain ⟨eq1, heq1⟩ := hr.2
  refine Sq.lenBools (heq1.ext E) .plain rfl und23 rfl ?_
  refine Sq.sub .plain rfl rfl rfl (by omega) ?_
  refine Sq.assign .plain rfl rfl ?_
  refine Sq.nil ?_
  refine Eq.next ?_
  refine Cq.seq ?_
  refine Cq.seq ?_
  refine Cq.region ?_
  refine Sq.move .plain rfl rfl ?_
  refine Sq.lss .plain rfl rfl rfl ?_
  refine Sq.part (fun c2 => ?_) (fun c2 => ?_)
  · refine Sq.nil ?_
    refine Eq.next ?_
    refine Cq.thn rfl ?_
    refine Cq.seq ?_
    refine Cq.region ?_
    refine Sq.assign .plain rfl rfl ?_
    refine Sq.nil ?_
    refine Eq.next ?_
    refine Cq.ret ?_
    refine Eq.pastRet ?_
    refine Eq.ret1 rfl rfl ?_
    exact ⟨⟨_, rfl, by omega, fun h => by omega⟩, E⟩
  refine Sq.nil ?_
  refine Eq.next ?_
  refine Cq.els rfl ?_
  refine Cq.skip ?_
  refine Eq.next ?_
  refine Cq.seq ?_
  refine Cq.region ?_
  refine Sq.move .plain rfl rfl ?_
  refine Sq.assign .plain rfl rfl ?_
  refine Sq.nil ?_
  refine Eq.next ?_
  refine Cq.ret ?_
  refine Eq.ret1 rfl rfl ?_
  exact ⟨⟨_, rfl, by omega, fun h => by omega⟩, E⟩
set_option maxRecDepth 100000 in
theorem szIntSS_c (w0 : World) (r : Value) (xss : List (List Int)) (hr : RowsX w0 r xss) (left : Int) (hleft : 0 ≤ left ∧ left ≤ 1048576) : Ret Tryd.prog 29 #[r, Value.int .i64 left] w0 (fun v w => (∃ z, v = .int .i64 z ∧ -1 ≤ z ∧ (0 ≤ z → z ≤ left ∧ xss.length ≤ 1048576 ∧ ∀ r ∈ xss, r.length ≤ 1048576)) ∧ Ext w0 w) := by
  have E := Ext.refl w0
  have hlo : xss.length ≤ 9223372036854775807 := hr.1
  refine Ret.of (args := [r, Value.int .i64 left]) Tryd.func29 rfl rfl rfl ?_
  rintro _ rfl
  show Cq _ _ _ _ [(0, r), (1, Value.int .i64 left)] _
  refine Cq.seq ?_
  refine Cq.region ?_
  refine Sq.assign .plain rfl rfl ?_
  refine Sq.nil ?_
  refine Eq.next ?_
  refine Cq.seq ?_
  refine Cq.region ?_
  refine Sq.move .plain rfl rfl ?_
  refine Sq.move .plain rfl rfl ?_
  obtain ⟨eq1, rsq1, heq1, hlq1⟩ := RowsX.len hr
  refine Sq.val .plain rfl rfl (Still.lenRow (heq1.ext E) und22 rfl) ?_
  rw [hlq1]
  refine Sq.sub .plain rfl rfl rfl (by omega) ?_
  refine Sq.assign .plain rfl rfl ?_
  refine Sq.nil ?_
  refine Eq.next ?_
  refine Cq.seq ?_
  refine Cq.seq ?_
  refine Cq.region ?_
  refine Sq.move .plain rfl rfl ?_
  refine Sq.lss .plain rfl rfl rfl ?_
  refine Sq.part (fun c2 => ?_) (fun c2 => ?_)
  · refine Sq.nil ?_
    refine Eq.next ?_
    refine Cq.thn rfl ?_
    refine Cq.seq ?_
    refine Cq.region ?_
    refine Sq.assign .plain rfl rfl ?_
    refine Sq.nil ?_
    refine Eq.next ?_
    refine Cq.ret ?_
    refine Eq.pastRet ?_
    refine Eq.ret1 rfl rfl ?_
    exact ⟨⟨_, rfl, by omega, fun h => absurd h (by omega)⟩, E⟩
  refine Sq.nil ?_
  refine Eq.next ?_
  refine Cq.els rfl ?_
  refine Cq.skip ?_
  refine Eq.next ?_
  refine Cq.seq ?_
  refine Cq.seq ?_
  refine Cq.region ?_
  refine Sq.assign .plain rfl rfl ?_
  refine Sq.nil ?_
  refine Eq.next ?_
  refine Cq.block ?_
  refine Cq.loop (fun nn w ls => ∃ (k : Int), ∃ (y : Int), ls = [(0, r), (1, Value.int .i64 y), (5, Value.int .i64 k)] ∧ (0 ≤ k ∧ k ≤ xss.length) ∧ (0 ≤ y ∧ y ≤ left) ∧ (∀ r ∈ xss.take k.toNat, r.length ≤ 1048576) ∧ Ext w0 w ∧ nn = ((xss.length : Int) - k).toNat) _ _ ⟨0, _, rfl, by omega, by omega, by simp, E, rfl⟩ (.cons rfl (.cons rfl (.cons rfl (.nil)))) ?_
  rintro nn wl1 ls ⟨k, y, rfl, hk, hy, hrl, E, rfl⟩
  have hs3 := Below.size E
  refine Cq.seq ?_
  refine Cq.seq ?_
  refine Cq.region ?_
  refine Sq.move .plain rfl rfl ?_
  refine Sq.move .plain rfl rfl ?_
  obtain ⟨eq4, rsq4, heq4, hlq4⟩ := RowsX.len hr
  refine Sq.val .plain rfl rfl (Still.lenRow (heq4.ext E) und22 rfl) ?_
  rw [hlq4]
  refine Sq.lss .plain rfl rfl rfl ?_
  refine Sq.part (fun c5 => ?_) (fun c5 => ?_)
  · refine Sq.nil ?_
    refine Eq.next ?_
    refine Cq.thn rfl ?_
    refine Cq.skip ?_
    refine Eq.next ?_
    refine Cq.seq ?_
    refine Cq.block ?_
    refine Cq.seq ?_
    refine Cq.region ?_
    refine Sq.move .plain rfl rfl ?_
    refine Sq.move .plain rfl rfl ?_
    obtain ⟨eq6, pq6, rq6, hpq6, hrq6⟩ := RowsX.at hr (i := k) (by omega) (by omega)
    refine Sq.val .plain rfl rfl (Still.at' sl22 (hpq6.ext E) rfl rfl) ?_
    refine Sq.val .plain rfl rfl (Still.loadA one41 rfl (hpq6.ext E).1) ?_
    refine Sq.move .plain rfl rfl ?_
    refine Sq.call fn50 .plain rfl rfl (szIntS_c _ _ _ (hrq6.ext E) y (by omega)) ?_
    rintro _ w8 ⟨⟨z10, rfl, hz11, hsm12⟩, e9⟩
    have hs13 := Below.size E
    have hs14 := Below.size e9
    replace E := E.trans e9
    refine Sq.assign .plain rfl rfl ?_
    refine Sq.nil ?_
    refine Eq.next ?_
    refine Cq.seq ?_
    refine Cq.region ?_
    refine Sq.move .plain rfl rfl ?_
    refine Sq.lss .plain rfl rfl rfl ?_
    refine Sq.part (fun c15 => ?_) (fun c15 => ?_)
    · refine Sq.nil ?_
      refine Eq.next ?_
      refine Cq.thn rfl ?_
      refine Cq.seq ?_
      refine Cq.region ?_
      refine Sq.assign .plain rfl rfl ?_
      refine Sq.nil ?_
      refine Eq.next ?_
      refine Cq.ret ?_
      refine Eq.outRet ?_
      refine Eq.pastRet ?_
      refine Eq.pastRet ?_
      refine Eq.outRet ?_
      refine Eq.pastRet ?_
      refine Eq.ret1 rfl rfl ?_
      exact ⟨⟨_, rfl, by omega, fun h => absurd h (by omega)⟩, E⟩
    refine Sq.nil ?_
    refine Eq.next ?_
    refine Cq.els rfl ?_
    refine Cq.skip ?_
    refine Eq.end ?_
    refine Eq.next ?_
    refine Cq.region ?_
    refine Sq.move .plain rfl rfl ?_
    refine Sq.add .plain rfl rfl rfl (by omega) ?_
    refine Sq.assign .plain rfl rfl ?_
    refine Sq.nil ?_
    have e1 := toNat_succ hk.1
    have hsx := (hsm12 (by omega))
    refine Eq.round _ _ ⟨k + 1, _, rfl, by omega, by omega, by rw [e1, take_snoc [] (by omega)]; intro r hr; rcases List.mem_append.1 hr with h | h; exact hrl r h; rw [List.mem_singleton.1 h]; exact hsx.2, E, rfl⟩ (by omega) (.cons rfl (.cons rfl (.cons rfl (.nil))))
  refine Sq.nil ?_
  refine Eq.next ?_
  refine Cq.els rfl ?_
  refine Cq.exit ?_
  refine Eq.past ?_
  refine Eq.past ?_
  refine Eq.hit ?_
  refine Eq.next ?_
  refine Cq.seq ?_
  refine Cq.region ?_
  refine Sq.move .plain rfl rfl ?_
  refine Sq.assign .plain rfl rfl ?_
  refine Sq.nil ?_
  refine Eq.next ?_
  refine Cq.ret ?_
  refine Eq.ret1 rfl rfl ?_
  exact ⟨⟨_, rfl, by omega, fun h => ⟨by omega, by omega, by rw [List.take_of_length_le (by omega)] at hrl; exact hrl⟩⟩, E⟩
set_option maxRecDepth 100000 in
theorem szA_c (w0 : World) (a : A) (nx ac : Value) (hnx : RowsX w0 nx a.next) (hac : BoolsX w0 ac a.acc) (left : Int) (hleft : 0 ≤ left ∧ left ≤ 1048576) : Ret Tryd.prog 11 #[Value.agg #[Value.int .i64 a.al, nx, ac], Value.int .i64 left] w0 (fun v w => (∃ z, v = .int .i64 z ∧ -1 ≤ z ∧ (0 ≤ z → z ≤ left ∧ SmX a)) ∧ Ext w0 w) := by
  have E := Ext.refl w0
  refine Ret.of (args := [Value.agg #[Value.int .i64 a.al, nx, ac], Value.int .i64 left]) Tryd.func11 rfl rfl rfl ?_
  rintro _ rfl
  show Cq _ _ _ _ [(0, Value.agg #[Value.int .i64 a.al, nx, ac]), (1, Value.int .i64 left)] _
  refine Cq.seq ?_
  refine Cq.region ?_
  refine Sq.box .plain rfl rfl (fun b1 w2 e3 hB4 hlo5 => ?_)
  have hd6 := Nat.le_trans (Below.size E) hlo5
  have hs7 := Below.size e3
  replace E := E.trans e3
  refine Sq.assign .plain rfl rfl ?_
  refine Sq.nil ?_
  refine Eq.next ?_
  refine Cq.seq ?_
  refine Cq.region ?_
  refine Sq.fieldAddr fld31_1 .plain rfl rfl ?_
  refine Sq.loadB one22 .plain rfl rfl hB4 rfl ?_
  refine Sq.move .plain rfl rfl ?_
  have hd14 := hB4.lt
  refine Sq.call fn29 .plain rfl rfl (szIntSS_c _ _ _ (hnx.ext E) left (by omega)) ?_
  rintro _ w9 ⟨⟨z11, rfl, hz12, hsm13⟩, e10⟩
  have hs15 := Below.size E
  have hs16 := Below.size e10
  replace E := E.trans e10
  replace hB4 := hB4.ext e10
  refine Sq.assign .plain rfl rfl ?_
  refine Sq.nil ?_
  refine Eq.next ?_
  refine Cq.seq ?_
  refine Cq.seq ?_
  refine Cq.region ?_
  refine Sq.move .plain rfl rfl ?_
  refine Sq.lss .plain rfl rfl rfl ?_
  refine Sq.part (fun c17 => ?_) (fun c17 => ?_)
  · refine Sq.nil ?_
    refine Eq.next ?_
    refine Cq.thn rfl ?_
    refine Cq.seq ?_
    refine Cq.region ?_
    refine Sq.assign .plain rfl rfl ?_
    refine Sq.nil ?_
    refine Eq.next ?_
    refine Cq.ret ?_
    refine Eq.pastRet ?_
    refine Eq.ret1 rfl rfl ?_
    exact ⟨⟨_, rfl, by omega, fun h => absurd h (by decide)⟩, E⟩
  refine Sq.nil ?_
  refine Eq.next ?_
  refine Cq.els rfl ?_
  refine Cq.skip ?_
  refine Eq.next ?_
  refine Cq.seq ?_
  refine Cq.region ?_
  refine Sq.fieldAddr fld31_2 .plain rfl rfl ?_
  refine Sq.loadB one23 .plain rfl rfl hB4 rfl ?_
  refine Sq.move .plain rfl rfl ?_
  have hd24 := hB4.lt
  refine Sq.call fn30 .plain rfl rfl (szBoolS_c _ _ _ (hac.ext E) z11 (by omega)) ?_
  rintro _ w19 ⟨⟨z21, rfl, hz22, hsm23⟩, e20⟩
  have hs25 := Below.size E
  have hs26 := Below.size e20
  replace E := E.trans e20
  refine Sq.assign .plain rfl rfl ?_
  refine Sq.nil ?_
  refine Eq.next ?_
  refine Cq.seq ?_
  refine Cq.seq ?_
  refine Cq.region ?_
  refine Sq.move .plain rfl rfl ?_
  refine Sq.lss .plain rfl rfl rfl ?_
  refine Sq.part (fun c27 => ?_) (fun c27 => ?_)
  · refine Sq.nil ?_
    refine Eq.next ?_
    refine Cq.thn rfl ?_
    refine Cq.seq ?_
    refine Cq.region ?_
    refine Sq.assign .plain rfl rfl ?_
    refine Sq.nil ?_
    refine Eq.next ?_
    refine Cq.ret ?_
    refine Eq.pastRet ?_
    refine Eq.ret1 rfl rfl ?_
    exact ⟨⟨_, rfl, by omega, fun h => absurd h (by decide)⟩, E⟩
  refine Sq.nil ?_
  refine Eq.next ?_
  refine Cq.els rfl ?_
  refine Cq.skip ?_
  refine Eq.next ?_
  refine Cq.seq ?_
  refine Cq.region ?_
  refine Sq.move .plain rfl rfl ?_
  refine Sq.assign .plain rfl rfl ?_
  refine Sq.nil ?_
  refine Eq.next ?_
  refine Cq.ret ?_
  refine Eq.ret1 rfl rfl ?_
  exact ⟨⟨_, rfl, by omega, fun h => ⟨by have := hsm13 (by omega); have := hsm23 (by omega); omega, (hsm13 (by omega)).2.1, (hsm13 (by omega)).2.2, (hsm23 (by omega)).2⟩⟩, E⟩
set_option maxRecDepth 100000 in
theorem toIntS_c (w0 : World) (r : Value) (xs : List Int) (hr : IntsX w0 r xs) (hl : xs.length ≤ 1048576) : Ret Tryd.prog 55 #[r] w0 (fun v w => Own w w0.heap.size 3 v (xs.map (Value.int .i64)) ∧ Ext w0 w) := by
  have E := Ext.refl w0
  refine Ret.of (args := [r]) Tryd.func55 rfl rfl rfl ?_
  rintro _ rfl
  show Cq _ _ _ _ [(0, r)] _
  refine Cq.seq ?_
  refine Cq.region ?_
  refine Sq.assign .plain rfl rfl ?_
  refine Sq.nil ?_
  refine Eq.next ?_
  refine Cq.seq ?_
  refine Cq.region ?_
  refine Sq.move .plain rfl rfl ?_
  obtain ⟨eq1, heq1⟩ := hr.2
  refine Sq.lenInts (heq1.ext E) .plain rfl und41 rfl ?_
  refine Sq.make sl41 .plain rfl rfl rfl rfl (by omega) (fun b2 w3 e4 hlo5 hB6 => ?_)
  replace hB6 := hB6 w0.heap.size (Nat.le_refl _)
  have hs7 := Below.size e4
  replace E := E.trans e4
  refine Sq.assign .plain rfl rfl ?_
  refine Sq.nil ?_
  refine Eq.next ?_
  refine Cq.seq ?_
  refine Cq.seq ?_
  refine Cq.region ?_
  refine Sq.assign .plain rfl rfl ?_
  refine Sq.nil ?_
  refine Eq.next ?_
  refine Cq.block ?_
  refine Cq.loop (fun nn w ls => ∃ (k : Int), ls = [(0, r), (3, Value.slice (some ⟨b2, 0, none⟩) (List.length xs : Int).toNat (List.length xs : Int).toNat), (4, Value.int .i64 k)] ∧ (0 ≤ k ∧ k ≤ xs.length) ∧ Own w w0.heap.size 3 (Value.slice (some ⟨b2, 0, none⟩) (List.length xs : Int).toNat (List.length xs : Int).toNat) ((fillTo xs 0 k.toNat).map (Value.int .i64)) ∧ Ext w0 w ∧ nn = ((xs.length : Int) - k).toNat) _ _ ⟨0, rfl, by omega, by rw [show (0 : Int).toNat = 0 from rfl, fillTo_zero, List.map_replicate]; exact hB6, E, rfl⟩ (.cons rfl (.cons rfl (.cons rfl (.nil)))) ?_
  rintro nn wl1 ls ⟨k, rfl, hk, ho, E, rfl⟩
  have hs8 := Below.size E
  have hfl := fillTo_length xs 0 (k := k.toNat) (by omega)
  refine Cq.seq ?_
  refine Cq.seq ?_
  refine Cq.region ?_
  refine Sq.move .plain rfl rfl ?_
  refine Sq.move .plain rfl rfl ?_
  obtain ⟨eq9, heq9⟩ := hr.2
  refine Sq.lenInts (heq9.ext E) .plain rfl und41 rfl ?_
  refine Sq.lss .plain rfl rfl rfl ?_
  refine Sq.part (fun c10 => ?_) (fun c10 => ?_)
  · refine Sq.nil ?_
    refine Eq.next ?_
    refine Cq.thn rfl ?_
    refine Cq.skip ?_
    refine Eq.next ?_
    refine Cq.seq ?_
    refine Cq.block ?_
    refine Cq.region ?_
    refine Sq.move .plain rfl rfl ?_
    refine Sq.move .plain rfl rfl ?_
    refine Sq.move .plain rfl rfl ?_
    refine Sq.move .plain rfl rfl ?_
    obtain ⟨eq11, heq11⟩ := hr.2
    obtain ⟨pq11, hpq11⟩ := Ints.at heq11 (i := k) (by omega) (by omega)
    refine Sq.val .plain rfl rfl (Still.at' sl41 (hpq11.ext E) rfl rfl) ?_
    refine Sq.val .plain rfl rfl (Still.loadA one3 rfl (hpq11.ext E).1) ?_
    obtain ⟨p12, hp13o⟩ := Own.at ho (i := k) (by omega) (by first | (simp only [List.length_map]; omega) | (simp; omega))
    refine Sq.atO sl41 hp13o .plain rfl rfl rfl ?_
    refine Sq.storeO one3 ho hp13o .plain rfl rfl rfl (fun w14 g15 ho16 => ?_)
    have hs17 := World.grownBy.size g15
    replace E := E.owned ho g15 (by omega)
    replace ho := ho16
    refine Sq.nil ?_
    refine Eq.end ?_
    refine Eq.next ?_
    refine Cq.region ?_
    refine Sq.move .plain rfl rfl ?_
    refine Sq.add .plain rfl rfl rfl (by omega) ?_
    refine Sq.assign .plain rfl rfl ?_
    refine Sq.nil ?_
    have e1 := toNat_succ hk.1
    refine Eq.round _ _ ⟨k + 1, rfl, by omega, by rw [e1, ← fillTo_succ (by omega), List.map_set]; exact ho, E, rfl⟩ (by omega) (.cons rfl (.cons rfl (.cons rfl (.nil))))
  refine Sq.nil ?_
  refine Eq.next ?_
  refine Cq.els rfl ?_
  refine Cq.exit ?_
  refine Eq.past ?_
  refine Eq.past ?_
  refine Eq.hit ?_
  refine Eq.next ?_
  refine Cq.seq ?_
  refine Cq.region ?_
  refine Sq.move .plain rfl rfl ?_
  refine Sq.assign .plain rfl rfl ?_
  refine Sq.nil ?_
  refine Eq.next ?_
  refine Cq.ret ?_
  refine Eq.ret1 rfl rfl ?_
  rw [fillTo_all (by omega)] at ho
  exact ⟨ho, E⟩
set_option maxRecDepth 100000 in
theorem toBoolS_c (w0 : World) (r : Value) (xs : List Bool) (hr : BoolsX w0 r xs) (hl : xs.length ≤ 1048576) : Ret Tryd.prog 35 #[r] w0 (fun v w => Own w w0.heap.size 4 v (xs.map (Value.bool)) ∧ Ext w0 w) := by
  have E := Ext.refl w0
  refine Ret.of (args := [r]) Tryd.func35 rfl rfl rfl ?_
  rintro _ rfl
  show Cq _ _ _ _ [(0, r)] _
  refine Cq.seq ?_
  refine Cq.region ?_
  refine Sq.assign .plain rfl rfl ?_
  refine Sq.nil ?_
  refine Eq.next ?_
  refine Cq.seq ?_
  refine Cq.region ?_
  refine Sq.move .plain rfl rfl ?_
  obtain ⟨eq1, heq1⟩ := hr.2
  refine Sq.lenBools (heq1.ext E) .plain rfl und23 rfl ?_
  refine Sq.make sl23 .plain rfl rfl rfl rfl (by omega) (fun b2 w3 e4 hlo5 hB6 => ?_)
  replace hB6 := hB6 w0.heap.size (Nat.le_refl _)
  have hs7 := Below.size e4
  replace E := E.trans e4
  refine Sq.assign .plain rfl rfl ?_
  refine Sq.nil ?_
  refine Eq.next ?_
  refine Cq.seq ?_
  refine Cq.seq ?_
  refine Cq.region ?_
  refine Sq.assign .plain rfl rfl ?_
  refine Sq.nil ?_
  refine Eq.next ?_
  refine Cq.block ?_
  refine Cq.loop (fun nn w ls => ∃ (k : Int), ls = [(0, r), (3, Value.slice (some ⟨b2, 0, none⟩) (List.length xs : Int).toNat (List.length xs : Int).toNat), (4, Value.int .i64 k)] ∧ (0 ≤ k ∧ k ≤ xs.length) ∧ Own w w0.heap.size 4 (Value.slice (some ⟨b2, 0, none⟩) (List.length xs : Int).toNat (List.length xs : Int).toNat) ((fillTo xs false k.toNat).map (Value.bool)) ∧ Ext w0 w ∧ nn = ((xs.length : Int) - k).toNat) _ _ ⟨0, rfl, by omega, by rw [show (0 : Int).toNat = 0 from rfl, fillTo_zero, List.map_replicate]; exact hB6, E, rfl⟩ (.cons rfl (.cons rfl (.cons rfl (.nil)))) ?_
  rintro nn wl1 ls ⟨k, rfl, hk, ho, E, rfl⟩
  have hs8 := Below.size E
  have hfl := fillTo_length xs false (k := k.toNat) (by omega)
  refine Cq.seq ?_
  refine Cq.seq ?_
  refine Cq.region ?_
  refine Sq.move .plain rfl rfl ?_
  refine Sq.move .plain rfl rfl ?_
  obtain ⟨eq9, heq9⟩ := hr.2
  refine Sq.lenBools (heq9.ext E) .plain rfl und23 rfl ?_
  refine Sq.lss .plain rfl rfl rfl ?_
  refine Sq.part (fun c10 => ?_) (fun c10 => ?_)
  · refine Sq.nil ?_
    refine Eq.next ?_
    refine Cq.thn rfl ?_
    refine Cq.skip ?_
    refine Eq.next ?_
    refine Cq.seq ?_
    refine Cq.block ?_
    refine Cq.region ?_
    refine Sq.move .plain rfl rfl ?_
    refine Sq.move .plain rfl rfl ?_
    refine Sq.move .plain rfl rfl ?_
    refine Sq.move .plain rfl rfl ?_
    obtain ⟨eq11, heq11⟩ := hr.2
    obtain ⟨pq11, hpq11⟩ := Bools.at heq11 (i := k) (by omega) (by omega)
    refine Sq.val .plain rfl rfl (Still.at' sl23 (hpq11.ext E) rfl rfl) ?_
    refine Sq.val .plain rfl rfl (Still.loadA one4 rfl (hpq11.ext E).1) ?_
    obtain ⟨p12, hp13o⟩ := Own.at ho (i := k) (by omega) (by first | (simp only [List.length_map]; omega) | (simp; omega))
    refine Sq.atO sl23 hp13o .plain rfl rfl rfl ?_
    refine Sq.storeO one4 ho hp13o .plain rfl rfl rfl (fun w14 g15 ho16 => ?_)
    have hs17 := World.grownBy.size g15
    replace E := E.owned ho g15 (by omega)
    replace ho := ho16
    refine Sq.nil ?_
    refine Eq.end ?_
    refine Eq.next ?_
    refine Cq.region ?_
    refine Sq.move .plain rfl rfl ?_
    refine Sq.add .plain rfl rfl rfl (by omega) ?_
    refine Sq.assign .plain rfl rfl ?_
    refine Sq.nil ?_
    have e1 := toNat_succ hk.1
    refine Eq.round _ _ ⟨k + 1, rfl, by omega, by rw [e1, ← fillTo_succ (by omega), List.map_set]; exact ho, E, rfl⟩ (by omega) (.cons rfl (.cons rfl (.cons rfl (.nil))))
  refine Sq.nil ?_
  refine Eq.next ?_
  refine Cq.els rfl ?_
  refine Cq.exit ?_
  refine Eq.past ?_
  refine Eq.past ?_
  refine Eq.hit ?_
  refine Eq.next ?_
  refine Cq.seq ?_
  refine Cq.region ?_
  refine Sq.move .plain rfl rfl ?_
  refine Sq.assign .plain rfl rfl ?_
  refine Sq.nil ?_
  refine Eq.next ?_
  refine Cq.ret ?_
  refine Eq.ret1 rfl rfl ?_
  rw [fillTo_all (by omega)] at ho
  exact ⟨ho, E⟩
set_option maxRecDepth 100000 in
theorem toIntSS_c (w0 : World) (r : Value) (xss : List (List Int)) (hr : RowsX w0 r xss) (hl : xss.length ≤ 1048576) (hll : ∀ r ∈ xss, r.length ≤ 1048576) : Ret Tryd.prog 34 #[r] w0 (fun v w => OwnRows w w0.heap.size w.heap.size 41 3 v xss ∧ Ext w0 w) := by
  have E := Ext.refl w0
  refine Ret.of (args := [r]) Tryd.func34 rfl rfl rfl ?_
  rintro _ rfl
  show Cq _ _ _ _ [(0, r)] _
  refine Cq.seq ?_
  refine Cq.region ?_
  refine Sq.assign .plain rfl rfl ?_
  refine Sq.nil ?_
  refine Eq.next ?_
  refine Cq.seq ?_
  refine Cq.region ?_
  refine Sq.move .plain rfl rfl ?_
  obtain ⟨eq1, rsq1, heq1, hlq1⟩ := RowsX.len hr
  refine Sq.val .plain rfl rfl (Still.lenRow (heq1.ext E) und22 rfl) ?_
  rw [hlq1]
  refine Sq.make sl22 .plain rfl rfl rfl rfl (by omega) (fun b2 w3 e4 hlo5 ho6 => ?_)
  have hs7 := Below.size e4
  replace E := E.trans e4
  have hor := OwnRows.made (U := w3.heap.size) (e' := 3) (ho6 w0.heap.size (by omega))
  refine Sq.assign .plain rfl rfl ?_
  refine Sq.nil ?_
  refine Eq.next ?_
  refine Cq.seq ?_
  refine Cq.seq ?_
  refine Cq.region ?_
  refine Sq.assign .plain rfl rfl ?_
  refine Sq.nil ?_
  refine Eq.next ?_
  refine Cq.block ?_
  refine Cq.loop (fun nn w ls => ∃ (k : Int), ls = [(0, r), (3, Value.slice (some ⟨b2, 0, none⟩) (List.length xss : Int).toNat (List.length xss : Int).toNat), (4, Value.int .i64 k)] ∧ (0 ≤ k ∧ k ≤ xss.length) ∧ OwnRows w w0.heap.size w.heap.size 41 3 (Value.slice (some ⟨b2, 0, none⟩) (List.length xss : Int).toNat (List.length xss : Int).toNat) (fillTo xss [] k.toNat) ∧ Ext w0 w ∧ nn = ((xss.length : Int) - k).toNat) _ _ ⟨0, rfl, by omega, by rw [show (0 : Int).toNat = 0 from rfl, fillTo_zero]; exact hor, E, rfl⟩ (.cons rfl (.cons rfl (.cons rfl (.nil)))) ?_
  rintro nn wl1 ls ⟨k, rfl, hk, hor, E, rfl⟩
  have hs8 := Below.size E
  refine Cq.seq ?_
  refine Cq.seq ?_
  refine Cq.region ?_
  refine Sq.move .plain rfl rfl ?_
  refine Sq.move .plain rfl rfl ?_
  obtain ⟨eq9, rsq9, heq9, hlq9⟩ := RowsX.len hr
  refine Sq.val .plain rfl rfl (Still.lenRow (heq9.ext E) und22 rfl) ?_
  rw [hlq9]
  refine Sq.lss .plain rfl rfl rfl ?_
  refine Sq.part (fun c10 => ?_) (fun c10 => ?_)
  · refine Sq.nil ?_
    refine Eq.next ?_
    refine Cq.thn rfl ?_
    refine Cq.skip ?_
    refine Eq.next ?_
    refine Cq.seq ?_
    refine Cq.block ?_
    refine Cq.region ?_
    refine Sq.move .plain rfl rfl ?_
    refine Sq.move .plain rfl rfl ?_
    refine Sq.move .plain rfl rfl ?_
    refine Sq.move .plain rfl rfl ?_
    obtain ⟨eq11, pq11, rq11, hpq11, hrq11⟩ := RowsX.at hr (i := k) (by omega) (by omega)
    refine Sq.val .plain rfl rfl (Still.at' sl22 (hpq11.ext E) rfl rfl) ?_
    refine Sq.val .plain rfl rfl (Still.loadA one41 rfl (hpq11.ext E).1) ?_
    refine Sq.call fn55 .plain rfl rfl (toIntS_c _ _ _ (hrq11.ext E) (by exact hll _ (getD_mem (by omega)))) ?_
    rintro v12 w13 ⟨ho15, e14⟩
    have hs16 := Below.size E
    have hs17 := Below.size e14
    replace E := E.trans e14
    replace hor := hor.ext e14
    obtain ⟨rs3, hq1, hq2, hq3⟩ := OwnRows.put hor (by decide)
    have hfl := fillTo_length xss [] (k := k.toNat) (by omega)
    obtain ⟨pq, hpq⟩ := Own.at hq1 (i := k) (by omega) (by omega)
    refine Sq.atO sl22 hpq .plain rfl rfl rfl ?_
    refine Sq.storeO one41 hq1 hpq .plain rfl rfl (Row.one (Own.row ho15)) (fun w18 g19 ho20 => ?_)
    have hs21 := World.grownBy.size g19
    have hor := hq3 k.toNat _ _ _ (by omega) (Own.mono ho15 (by omega)) (by omega) ho20 g19
    replace E := E.owned hq1 g19 (by omega)
    refine Sq.nil ?_
    refine Eq.end ?_
    refine Eq.next ?_
    refine Cq.region ?_
    refine Sq.move .plain rfl rfl ?_
    refine Sq.add .plain rfl rfl rfl (by omega) ?_
    refine Sq.assign .plain rfl rfl ?_
    refine Sq.nil ?_
    have e1 := toNat_succ hk.1
    refine Eq.round _ _ ⟨k + 1, rfl, by omega, by rw [e1, ← fillTo_succ (by omega)]; exact hor, E, rfl⟩ (by omega) (.cons rfl (.cons rfl (.cons rfl (.nil))))
  refine Sq.nil ?_
  refine Eq.next ?_
  refine Cq.els rfl ?_
  refine Cq.exit ?_
  refine Eq.past ?_
  refine Eq.past ?_
  refine Eq.hit ?_
  refine Eq.next ?_
  refine Cq.seq ?_
  refine Cq.region ?_
  refine Sq.move .plain rfl rfl ?_
  refine Sq.assign .plain rfl rfl ?_
  refine Sq.nil ?_
  refine Eq.next ?_
  refine Cq.ret ?_
  refine Eq.ret1 rfl rfl ?_
  rw [fillTo_all (by omega)] at hor
  exact ⟨hor, E⟩
set_option maxRecDepth 100000 in
theorem toA_c (w0 : World) (a : A) (nx ac : Value) (hnx : RowsX w0 nx a.next) (hac : BoolsX w0 ac a.acc) (hsm : SmX a) : Ret Tryd.prog 13 #[Value.agg #[Value.int .i64 a.al, nx, ac]] w0 (fun v w => OwnA w w0.heap.size v a ∧ Ext w0 w) := by
  have E := Ext.refl w0
  refine Ret.of (args := [Value.agg #[Value.int .i64 a.al, nx, ac]]) Tryd.func13 rfl rfl rfl ?_
  rintro _ rfl
  show Cq _ _ _ _ [(0, Value.agg #[Value.int .i64 a.al, nx, ac])] _
  refine Cq.seq ?_
  refine Cq.region ?_
  refine Sq.box .plain rfl rfl (fun b1 w2 e3 hB4 hlo5 => ?_)
  have hd6 := Nat.le_trans (Below.size E) hlo5
  have hs7 := Below.size e3
  replace E := E.trans e3
  refine Sq.alloc zero25 .plain rfl (fun b8 w9 e10 hB11 hlo12 => ?_)
  have hd13 := Nat.le_trans (Below.size E) hlo12
  have hd14 := Nat.lt_of_lt_of_le hB4.lt hlo12
  have hs15 := Below.size e10
  replace E := E.trans e10
  replace hB4 := hB4.ext e10
  refine Sq.nil ?_
  refine Eq.next ?_
  refine Cq.seq ?_
  refine Cq.region ?_
  refine Sq.alloc zero25 .plain rfl (fun b16 w17 e18 hB19 hlo20 => ?_)
  have hd21 := Nat.le_trans (Below.size E) hlo20
  have hd22 := Nat.lt_of_lt_of_le hB4.lt hlo20
  have hd23 := Nat.lt_of_lt_of_le hB11.lt hlo20
  have hs24 := Below.size e18
  replace E := E.trans e18
  replace hB4 := hB4.ext e18
  replace hB11 := hB11.ext e18
  refine Sq.nil ?_
  refine Eq.next ?_
  refine Cq.seq ?_
  refine Cq.region ?_
  refine Sq.fieldAddr fld31_0 .plain rfl rfl ?_
  refine Sq.loadB one3 .plain rfl rfl hB4 rfl ?_
  refine Sq.fieldAddr fld25_0 .plain rfl rfl ?_
  refine Sq.store one3 .plain rfl rfl rfl hB19 (by simp) (fun w25 g26 hB27 => ?_)
  have hs28 := World.grownBy.size g26
  replace E := E.grown g26 (fun k hk => by injection hk with hk; subst hk; omega)
  replace hB4 := hB4.grown g26 (by intro h; injection h with h; omega)
  replace hB11 := hB11.grown g26 (by intro h; injection h with h; omega)
  replace hB19 := hB27
  refine Sq.nil ?_
  refine Eq.next ?_
  refine Cq.seq ?_
  refine Cq.region ?_
  refine Sq.fieldAddr fld31_1 .plain rfl rfl ?_
  refine Sq.loadB one22 .plain rfl rfl hB4 rfl ?_
  have hd33 := hB4.lt
  have hd34 := hB11.lt
  have hd35 := hB19.lt
  refine Sq.call fn34 .plain rfl rfl (toIntSS_c _ _ _ (hnx.ext E) hsm.1 hsm.2.1) ?_
  rintro v29 w30 ⟨ho32, e31⟩
  have hs36 := Below.size E
  have hs37 := Below.size e31
  replace E := E.trans e31
  replace hB4 := hB4.ext e31
  replace hB11 := hB11.ext e31
  replace hB19 := hB19.ext e31
  refine Sq.fieldAddr fld25_1 .plain rfl rfl ?_
  refine Sq.store one22 .plain rfl rfl (Rows.one (OwnRows.rows ho32)) hB19 (by simp) (fun w38 g39 hB40 => ?_)
  have hs41 := World.grownBy.size g39
  replace E := E.grown g39 (fun k hk => by injection hk with hk; subst hk; omega)
  replace hB4 := hB4.grown g39 (by intro h; injection h with h; omega)
  replace hB11 := hB11.grown g39 (by intro h; injection h with h; omega)
  replace ho32 := ho32.stored g39 hB19 (by decide) (by decide)
  replace hB19 := hB40
  refine Sq.nil ?_
  refine Eq.next ?_
  refine Cq.seq ?_
  refine Cq.region ?_
  refine Sq.fieldAddr fld31_2 .plain rfl rfl ?_
  refine Sq.loadB one23 .plain rfl rfl hB4 rfl ?_
  have hd46 := hB4.lt
  have hd47 := hB11.lt
  have hd48 := hB19.lt
  refine Sq.call fn35 .plain rfl rfl (toBoolS_c _ _ _ (hac.ext E) (by exact hsm.2.2)) ?_
  rintro v42 w43 ⟨ho45, e44⟩
  have hs49 := Below.size E
  have hs50 := Below.size e44
  replace E := E.trans e44
  replace hB11 := hB11.ext e44
  replace hB19 := hB19.ext e44
  replace ho32 := ho32.ext e44
  refine Sq.fieldAddr fld25_2 .plain rfl rfl ?_
  refine Sq.store one23 .plain rfl rfl (Row.one (Own.row ho45)) hB19 (by simp) (fun w51 g52 hB53 => ?_)
  have hs54 := World.grownBy.size g52
  replace E := E.grown g52 (fun k hk => by injection hk with hk; subst hk; omega)
  replace hB11 := hB11.grown g52 (by intro h; injection h with h; omega)
  replace ho32 := ho32.stored g52 hB19 (by decide) (by decide)
  replace ho45 := ho45.stored g52 hB19 (by decide)
  replace hB19 := hB53
  refine Sq.nil ?_
  refine Eq.next ?_
  refine Cq.seq ?_
  refine Cq.region ?_
  refine Sq.loadAgg agg25 .plain rfl rfl hB19 rfl ?_
  refine Sq.storeAgg agg25 .plain rfl rfl (one_cons rfl (one_cons (Rows.one (OwnRows.rows ho32)) (one_cons (Row.one (Own.row ho45)) one_nil))) hB11 rfl rfl (fun w55 g56 hB57 => ?_)
  have hs58 := World.grownBy.size g56
  replace E := E.grown g56 (fun k hk => by injection hk with hk; subst hk; omega)
  replace ho32 := ho32.stored g56 hB11 (by decide) (by decide)
  replace ho45 := ho45.stored g56 hB11 (by decide)
  replace hB11 := hB57
  refine Sq.nil ?_
  refine Eq.next ?_
  refine Cq.ret ?_
  refine Eq.retCell rfl rfl agg25 hB11 rfl ?_
  exact ⟨⟨_, _, rfl, OwnRows.now (OwnRows.mono ho32 (by omega)), Own.mono ho45 (by omega)⟩, E⟩
set_option maxRecDepth 100000 in
theorem eqIntS_c (w0 : World) (xs ys : List Int) (r q : Value) (hr : Ints w0 3 r xs) (hq : Ints w0 3 q ys) (hx : xs.length ≤ 1000000000) : Ret Tryd.prog 47 #[r, q] w0 (fun v w => v = .bool (xs == ys) ∧ Ext w0 w) := by
  have E := Ext.refl w0
  refine Ret.of (args := [r, q]) Tryd.func47 rfl rfl rfl ?_
  rintro _ rfl
  show Cq _ _ _ _ [(0, r), (1, q)] _
  refine Cq.seq ?_
  refine Cq.region ?_
  refine Sq.assign .plain rfl rfl ?_
  refine Sq.nil ?_
  refine Eq.next ?_
  refine Cq.seq ?_
  refine Cq.seq ?_
  refine Cq.region ?_
  refine Sq.move .plain rfl rfl ?_
  refine Sq.lenInts (hr.ext E) .plain rfl und41 rfl ?_
  refine Sq.move .plain rfl rfl ?_
  refine Sq.lenInts (hq.ext E) .plain rfl und41 rfl ?_
  refine Sq.neq .plain rfl rfl rfl ?_
  refine Sq.part (fun c1 => ?_) (fun c1 => ?_)
  · refine Sq.nil ?_
    refine Eq.next ?_
    refine Cq.thn rfl ?_
    refine Cq.seq ?_
    refine Cq.region ?_
    refine Sq.assign .plain rfl rfl ?_
    refine Sq.nil ?_
    refine Eq.next ?_
    refine Cq.ret ?_
    refine Eq.pastRet ?_
    refine Eq.ret1 rfl rfl ?_
    exact ⟨by first | rw [beq_len (by omega)] | rw [beq_at (k := k.toNat) 0 (by simpa using hne)] | rw [beq_done (k := k.toNat) hp (by omega) (by omega)], E⟩
  refine Sq.nil ?_
  refine Eq.next ?_
  refine Cq.els rfl ?_
  refine Cq.skip ?_
  refine Eq.next ?_
  refine Cq.seq ?_
  refine Cq.seq ?_
  refine Cq.region ?_
  refine Sq.assign .plain rfl rfl ?_
  refine Sq.nil ?_
  refine Eq.next ?_
  refine Cq.block ?_
  refine Cq.loop (fun nn w ls => ∃ (k : Int), ls = [(0, r), (1, q), (5, Value.int .i64 k)] ∧ xs.length = ys.length ∧ (0 ≤ k ∧ k ≤ xs.length) ∧ xs.take k.toNat = ys.take k.toNat ∧ Ext w0 w ∧ nn = ((xs.length : Int) - k).toNat) _ _ ⟨0, rfl, by omega, by omega, rfl, E, rfl⟩ (.cons rfl (.cons rfl (.cons rfl (.nil)))) ?_
  rintro nn wl1 ls ⟨k, rfl, hl, hk, hp, E, rfl⟩
  have hs2 := Below.size E
  refine Cq.seq ?_
  refine Cq.seq ?_
  refine Cq.region ?_
  refine Sq.move .plain rfl rfl ?_
  refine Sq.move .plain rfl rfl ?_
  refine Sq.lenInts (hr.ext E) .plain rfl und41 rfl ?_
  refine Sq.lss .plain rfl rfl rfl ?_
  refine Sq.part (fun c3 => ?_) (fun c3 => ?_)
  · refine Sq.nil ?_
    refine Eq.next ?_
    refine Cq.thn rfl ?_
    refine Cq.skip ?_
    refine Eq.next ?_
    refine Cq.seq ?_
    refine Cq.block ?_
    refine Cq.seq ?_
    refine Cq.draw 9 none mixed (fun w4 e5 => ?_)
    have hs6 := Below.size e5
    replace E := E.trans e5
    have E_w4 := E
    refine Gq.st 0 rfl (by kernel_rfl) rfl .plain rfl (fun _ _ _ h => h) (World.grownBy.refl w4 _) (fun w' x => Still.move rfl) ?_
    refine Gq.st 1 rfl (by kernel_rfl) rfl .plain rfl (fun _ _ _ h => h) (World.grownBy.refl w4 _) (fun w' x => Still.move rfl) ?_
    obtain ⟨p7, hp8_w4⟩ := Ints.at hr (i := k) (by omega) (by omega)
    refine Gq.st 2 rfl (by kernel_rfl) rfl .plain rfl (fun _ _ _ h => h) (World.grownBy.refl w4 _) (fun w' x => Still.at' sl41 hp8_w4 rfl rfl) ?_
    refine Gq.st 3 rfl (by kernel_rfl) rfl .plain rfl (fun _ _ _ h => h) (World.grownBy.refl w4 _) (fun w' x => Still.loadA one3 rfl (hp8_w4.ext (E_w4.trans (Ext.of_grown x))).1) ?_
    refine Gq.st 4 rfl (by kernel_rfl) rfl .plain rfl (fun _ _ _ h => h) (World.grownBy.refl w4 _) (fun w' x => Still.move rfl) ?_
    refine Gq.st 5 rfl (by kernel_rfl) rfl .plain rfl (fun _ _ _ h => h) (World.grownBy.refl w4 _) (fun w' x => Still.move rfl) ?_
    obtain ⟨p9, hp10_w4⟩ := Ints.at hq (i := k) (by omega) (by omega)
    refine Gq.st 6 rfl (by kernel_rfl) rfl .plain rfl (fun _ _ _ h => h) (World.grownBy.refl w4 _) (fun w' x => Still.at' sl41 hp10_w4 rfl rfl) ?_
    refine Gq.st 7 rfl (by kernel_rfl) rfl .plain rfl (fun _ _ _ h => h) (World.grownBy.refl w4 _) (fun w' x => Still.loadA one3 rfl (hp10_w4.ext (E_w4.trans (Ext.of_grown x))).1) ?_
    refine Gq.st 8 rfl (by kernel_rfl) rfl .plain rfl (fun _ _ _ h => h) (World.grownBy.refl w4 _) (fun w' x => Still.neq rfl rfl) ?_
    refine Gq.part (fun hne => ?_) (fun hne => ?_)
    · refine Gq.done (by kernel_rfl) ?_
      refine Eq.next ?_
      refine Cq.thn rfl ?_
      refine Cq.seq ?_
      refine Cq.region ?_
      refine Sq.assign .plain rfl rfl ?_
      refine Sq.nil ?_
      refine Eq.next ?_
      refine Cq.ret ?_
      refine Eq.outRet ?_
      refine Eq.pastRet ?_
      refine Eq.pastRet ?_
      refine Eq.outRet ?_
      refine Eq.pastRet ?_
      refine Eq.ret1 rfl rfl ?_
      exact ⟨by first | rw [beq_len (by omega)] | rw [beq_at (k := k.toNat) 0 (by simpa using hne)] | rw [beq_done (k := k.toNat) hp (by omega) (by omega)], E⟩
    refine Gq.done (by kernel_rfl) ?_
    refine Eq.next ?_
    refine Cq.els rfl ?_
    refine Cq.skip ?_
    refine Eq.end ?_
    refine Eq.next ?_
    refine Cq.region ?_
    refine Sq.move .plain rfl rfl ?_
    refine Sq.add .plain rfl rfl rfl (by omega) ?_
    refine Sq.assign .plain rfl rfl ?_
    refine Sq.nil ?_
    have e1 := toNat_succ hk.1
    refine Eq.round _ _ ⟨k + 1, rfl, hl, by omega, by rw [e1]; exact take_eq_snoc 0 hl hp (by omega) (by simpa using hne), E, rfl⟩ (by omega) (.cons rfl (.cons rfl (.cons rfl (.nil))))
  refine Sq.nil ?_
  refine Eq.next ?_
  refine Cq.els rfl ?_
  refine Cq.exit ?_
  refine Eq.past ?_
  refine Eq.past ?_
  refine Eq.hit ?_
  refine Eq.next ?_
  refine Cq.seq ?_
  refine Cq.region ?_
  refine Sq.assign .plain rfl rfl ?_
  refine Sq.nil ?_
  refine Eq.next ?_
  refine Cq.ret ?_
  refine Eq.ret1 rfl rfl ?_
  exact ⟨by first | rw [beq_len (by omega)] | rw [beq_at (k := k.toNat) 0 (by simpa using hne)] | rw [beq_done (k := k.toNat) hp (by omega) (by omega)], E⟩
set_option maxRecDepth 100000 in
theorem eqBoolS_c (w0 : World) (xs ys : List Bool) (r q : Value) (hr : Bools w0 4 r xs) (hq : Bools w0 4 q ys) (hx : xs.length ≤ 1000000000) : Ret Tryd.prog 24 #[r, q] w0 (fun v w => v = .bool (xs == ys) ∧ Ext w0 w) := by
  have E := Ext.refl w0
  refine Ret.of (args := [r, q]) Tryd.func24 rfl rfl rfl ?_
  rintro _ rfl
  show Cq _ _ _ _ [(0, r), (1, q)] _
  refine Cq.seq ?_
  refine Cq.region ?_
  refine Sq.assign .plain rfl rfl ?_
  refine Sq.nil ?_
  refine Eq.next ?_
  refine Cq.seq ?_
  refine Cq.seq ?_
  refine Cq.region ?_
  refine Sq.move .plain rfl rfl ?_
  refine Sq.lenBools (hr.ext E) .plain rfl und23 rfl ?_
  refine Sq.move .plain rfl rfl ?_
  refine Sq.lenBools (hq.ext E) .plain rfl und23 rfl ?_
  refine Sq.neq .plain rfl rfl rfl ?_
  refine Sq.part (fun c1 => ?_) (fun c1 => ?_)
  · refine Sq.nil ?_
    refine Eq.next ?_
    refine Cq.thn rfl ?_
    refine Cq.seq ?_
    refine Cq.region ?_
    refine Sq.assign .plain rfl rfl ?_
    refine Sq.nil ?_
    refine Eq.next ?_
    refine Cq.ret ?_
    refine Eq.pastRet ?_
    refine Eq.ret1 rfl rfl ?_
    exact ⟨by first | rw [beq_len (by omega)] | rw [beq_at (k := k.toNat) false (by simpa using hne)] | rw [beq_done (k := k.toNat) hp (by omega) (by omega)], E⟩
  refine Sq.nil ?_
  refine Eq.next ?_
  refine Cq.els rfl ?_
  refine Cq.skip ?_
  refine Eq.next ?_
  refine Cq.seq ?_
  refine Cq.seq ?_
  refine Cq.region ?_
  refine Sq.assign .plain rfl rfl ?_
  refine Sq.nil ?_
  refine Eq.next ?_
  refine Cq.block ?_
  refine Cq.loop (fun nn w ls => ∃ (k : Int), ls = [(0, r), (1, q), (5, Value.int .i64 k)] ∧ xs.length = ys.length ∧ (0 ≤ k ∧ k ≤ xs.length) ∧ xs.take k.toNat = ys.take k.toNat ∧ Ext w0 w ∧ nn = ((xs.length : Int) - k).toNat) _ _ ⟨0, rfl, by omega, by omega, rfl, E, rfl⟩ (.cons rfl (.cons rfl (.cons rfl (.nil)))) ?_
  rintro nn wl1 ls ⟨k, rfl, hl, hk, hp, E, rfl⟩
  have hs2 := Below.size E
  refine Cq.seq ?_
  refine Cq.seq ?_
  refine Cq.region ?_
  refine Sq.move .plain rfl rfl ?_
  refine Sq.move .plain rfl rfl ?_
  refine Sq.lenBools (hr.ext E) .plain rfl und23 rfl ?_
  refine Sq.lss .plain rfl rfl rfl ?_
  refine Sq.part (fun c3 => ?_) (fun c3 => ?_)
  · refine Sq.nil ?_
    refine Eq.next ?_
    refine Cq.thn rfl ?_
    refine Cq.skip ?_
    refine Eq.next ?_
    refine Cq.seq ?_
    refine Cq.block ?_
    refine Cq.seq ?_
    refine Cq.draw 9 none mixed (fun w4 e5 => ?_)
    have hs6 := Below.size e5
    replace E := E.trans e5
    have E_w4 := E
    refine Gq.st 0 rfl (by kernel_rfl) rfl .plain rfl (fun _ _ _ h => h) (World.grownBy.refl w4 _) (fun w' x => Still.move rfl) ?_
    refine Gq.st 1 rfl (by kernel_rfl) rfl .plain rfl (fun _ _ _ h => h) (World.grownBy.refl w4 _) (fun w' x => Still.move rfl) ?_
    obtain ⟨p7, hp8_w4⟩ := Bools.at hr (i := k) (by omega) (by omega)
    refine Gq.st 2 rfl (by kernel_rfl) rfl .plain rfl (fun _ _ _ h => h) (World.grownBy.refl w4 _) (fun w' x => Still.at' sl23 hp8_w4 rfl rfl) ?_
    refine Gq.st 3 rfl (by kernel_rfl) rfl .plain rfl (fun _ _ _ h => h) (World.grownBy.refl w4 _) (fun w' x => Still.loadA one4 rfl (hp8_w4.ext (E_w4.trans (Ext.of_grown x))).1) ?_
    refine Gq.st 4 rfl (by kernel_rfl) rfl .plain rfl (fun _ _ _ h => h) (World.grownBy.refl w4 _) (fun w' x => Still.move rfl) ?_
    refine Gq.st 5 rfl (by kernel_rfl) rfl .plain rfl (fun _ _ _ h => h) (World.grownBy.refl w4 _) (fun w' x => Still.move rfl) ?_
    obtain ⟨p9, hp10_w4⟩ := Bools.at hq (i := k) (by omega) (by omega)
    refine Gq.st 6 rfl (by kernel_rfl) rfl .plain rfl (fun _ _ _ h => h) (World.grownBy.refl w4 _) (fun w' x => Still.at' sl23 hp10_w4 rfl rfl) ?_
    refine Gq.st 7 rfl (by kernel_rfl) rfl .plain rfl (fun _ _ _ h => h) (World.grownBy.refl w4 _) (fun w' x => Still.loadA one4 rfl (hp10_w4.ext (E_w4.trans (Ext.of_grown x))).1) ?_
    refine Gq.st 8 rfl (by kernel_rfl) rfl .plain rfl (fun _ _ _ h => h) (World.grownBy.refl w4 _) (fun w' x => Still.neqB und4 rfl rfl) ?_
    refine Gq.partB (fun hne => ?_) (fun hne => ?_)
    · refine Gq.done (by kernel_rfl) ?_
      refine Eq.next ?_
      refine Cq.thn rfl ?_
      refine Cq.seq ?_
      refine Cq.region ?_
      refine Sq.assign .plain rfl rfl ?_
      refine Sq.nil ?_
      refine Eq.next ?_
      refine Cq.ret ?_
      refine Eq.outRet ?_
      refine Eq.pastRet ?_
      refine Eq.pastRet ?_
      refine Eq.outRet ?_
      refine Eq.pastRet ?_
      refine Eq.ret1 rfl rfl ?_
      exact ⟨by first | rw [beq_len (by omega)] | rw [beq_at (k := k.toNat) false (by simpa using hne)] | rw [beq_done (k := k.toNat) hp (by omega) (by omega)], E⟩
    refine Gq.done (by kernel_rfl) ?_
    refine Eq.next ?_
    refine Cq.els rfl ?_
    refine Cq.skip ?_
    refine Eq.end ?_
    refine Eq.next ?_
    refine Cq.region ?_
    refine Sq.move .plain rfl rfl ?_
    refine Sq.add .plain rfl rfl rfl (by omega) ?_
    refine Sq.assign .plain rfl rfl ?_
    refine Sq.nil ?_
    have e1 := toNat_succ hk.1
    refine Eq.round _ _ ⟨k + 1, rfl, hl, by omega, by rw [e1]; exact take_eq_snoc false hl hp (by omega) (by simpa using hne), E, rfl⟩ (by omega) (.cons rfl (.cons rfl (.cons rfl (.nil))))
  refine Sq.nil ?_
  refine Eq.next ?_
  refine Cq.els rfl ?_
  refine Cq.exit ?_
  refine Eq.past ?_
  refine Eq.past ?_
  refine Eq.hit ?_
  refine Eq.next ?_
  refine Cq.seq ?_
  refine Cq.region ?_
  refine Sq.assign .plain rfl rfl ?_
  refine Sq.nil ?_
  refine Eq.next ?_
  refine Cq.ret ?_
  refine Eq.ret1 rfl rfl ?_
  exact ⟨by first | rw [beq_len (by omega)] | rw [beq_at (k := k.toNat) false (by simpa using hne)] | rw [beq_done (k := k.toNat) hp (by omega) (by omega)], E⟩
set_option maxRecDepth 100000 in
theorem eqIntSS_c (w0 : World) (xss yss : List (List Int)) (r q : Value) (hr : Rows w0 41 3 r xss) (hq : Rows w0 41 3 q yss) (hx : xss.length ≤ 1048576) (hxx : ∀ r ∈ xss, r.length ≤ 1048576) : Ret Tryd.prog 23 #[r, q] w0 (fun v w => v = .bool (xss == yss) ∧ Ext w0 w) := by
  have E := Ext.refl w0
  refine Ret.of (args := [r, q]) Tryd.func23 rfl rfl rfl ?_
  rintro _ rfl
  show Cq _ _ _ _ [(0, r), (1, q)] _
  refine Cq.seq ?_
  refine Cq.region ?_
  refine Sq.assign .plain rfl rfl ?_
  refine Sq.nil ?_
  refine Eq.next ?_
  refine Cq.seq ?_
  refine Cq.seq ?_
  refine Cq.region ?_
  refine Sq.move .plain rfl rfl ?_
  refine Sq.lenRows (hr.ext E) .plain rfl und22 rfl ?_
  refine Sq.move .plain rfl rfl ?_
  refine Sq.lenRows (hq.ext E) .plain rfl und22 rfl ?_
  refine Sq.neq .plain rfl rfl rfl ?_
  refine Sq.part (fun c1 => ?_) (fun c1 => ?_)
  · refine Sq.nil ?_
    refine Eq.next ?_
    refine Cq.thn rfl ?_
    refine Cq.seq ?_
    refine Cq.region ?_
    refine Sq.assign .plain rfl rfl ?_
    refine Sq.nil ?_
    refine Eq.next ?_
    refine Cq.ret ?_
    refine Eq.pastRet ?_
    refine Eq.ret1 rfl rfl ?_
    exact ⟨by first | rw [beq_len (by omega)] | rw [beq_at (k := k.toNat) [] (by simpa using hne)] | rw [beq_done (k := k.toNat) hp (by omega) (by omega)], E⟩
  refine Sq.nil ?_
  refine Eq.next ?_
  refine Cq.els rfl ?_
  refine Cq.skip ?_
  refine Eq.next ?_
  refine Cq.seq ?_
  refine Cq.seq ?_
  refine Cq.region ?_
  refine Sq.assign .plain rfl rfl ?_
  refine Sq.nil ?_
  refine Eq.next ?_
  refine Cq.block ?_
  refine Cq.loop (fun nn w ls => ∃ (k : Int), ls = [(0, r), (1, q), (5, Value.int .i64 k)] ∧ xss.length = yss.length ∧ (0 ≤ k ∧ k ≤ xss.length) ∧ xss.take k.toNat = yss.take k.toNat ∧ Ext w0 w ∧ nn = ((xss.length : Int) - k).toNat) _ _ ⟨0, rfl, by omega, by omega, rfl, E, rfl⟩ (.cons rfl (.cons rfl (.cons rfl (.nil)))) ?_
  rintro nn wl1 ls ⟨k, rfl, hl, hk, hp, E, rfl⟩
  have hs2 := Below.size E
  refine Cq.seq ?_
  refine Cq.seq ?_
  refine Cq.region ?_
  refine Sq.move .plain rfl rfl ?_
  refine Sq.move .plain rfl rfl ?_
  refine Sq.lenRows (hr.ext E) .plain rfl und22 rfl ?_
  refine Sq.lss .plain rfl rfl rfl ?_
  refine Sq.part (fun c3 => ?_) (fun c3 => ?_)
  · refine Sq.nil ?_
    refine Eq.next ?_
    refine Cq.thn rfl ?_
    refine Cq.skip ?_
    refine Eq.next ?_
    refine Cq.seq ?_
    refine Cq.block ?_
    refine Cq.seq ?_
    refine Cq.draw 10 none mixed (fun w4 e5 => ?_)
    have hs6 := Below.size e5
    replace E := E.trans e5
    have E_w4 := E
    refine Gq.st 0 rfl (by kernel_rfl) rfl .plain rfl (fun _ _ _ h => h) (World.grownBy.refl w4 _) (fun w' x => Still.move rfl) ?_
    refine Gq.st 1 rfl (by kernel_rfl) rfl .plain rfl (fun _ _ _ h => h) (World.grownBy.refl w4 _) (fun w' x => Still.move rfl) ?_
    obtain ⟨p7, r9, hp8_w4, hr10⟩ := Rows.at hr (i := k) (by omega) (by omega)
    refine Gq.st 2 rfl (by kernel_rfl) rfl .plain rfl (fun _ _ _ h => h) (World.grownBy.refl w4 _) (fun w' x => Still.at' sl22 hp8_w4 rfl rfl) ?_
    refine Gq.st 3 rfl (by kernel_rfl) rfl .plain rfl (fun _ _ _ h => h) (World.grownBy.refl w4 _) (fun w' x => Still.loadA one41 rfl (hp8_w4.ext (E_w4.trans (Ext.of_grown x))).1) ?_
    refine Gq.st 4 rfl (by kernel_rfl) rfl .plain rfl (fun _ _ _ h => h) (World.grownBy.refl w4 _) (fun w' x => Still.move rfl) ?_
    refine Gq.st 5 rfl (by kernel_rfl) rfl .plain rfl (fun _ _ _ h => h) (World.grownBy.refl w4 _) (fun w' x => Still.move rfl) ?_
    obtain ⟨p11, r13, hp12_w4, hr14⟩ := Rows.at hq (i := k) (by omega) (by omega)
    refine Gq.st 6 rfl (by kernel_rfl) rfl .plain rfl (fun _ _ _ h => h) (World.grownBy.refl w4 _) (fun w' x => Still.at' sl22 hp12_w4 rfl rfl) ?_
    refine Gq.st 7 rfl (by kernel_rfl) rfl .plain rfl (fun _ _ _ h => h) (World.grownBy.refl w4 _) (fun w' x => Still.loadA one41 rfl (hp12_w4.ext (E_w4.trans (Ext.of_grown x))).1) ?_
    refine Gq.one 8 rfl (by kernel_rfl) ?_
    refine Sq.call fn47 .plain rfl rfl (eqIntS_c _ _ _ _ _ (hr10.ext E) (hr14.ext E) (by exact Nat.le_trans (hxx _ (getD_mem (by omega))) (by decide))) ?_
    rintro _ w16 ⟨rfl, e17⟩
    have hs18 := Below.size E
    have hs19 := Below.size e17
    replace E := E.trans e17
    refine Sq.partB (fun hne => ?_) (fun hne => ?_)
    · refine Sq.nil ?_
      refine Eq.goes (fun _ => (grown_trans (World.grownBy.refl w4 _) (Ext.to_grown e17 _))) ?_
      refine Gq.st 9 rfl (by kernel_rfl) rfl .plain rfl (fun _ _ _ h => h) (grown_trans (World.grownBy.refl w4 _) (Ext.to_grown e17 _)) (fun w' x => Still.notT rfl) ?_
      refine Gq.done (by kernel_rfl) ?_
      refine Eq.next ?_
      refine Cq.els rfl ?_
      refine Cq.skip ?_
      refine Eq.end ?_
      refine Eq.next ?_
      refine Cq.region ?_
      refine Sq.move .plain rfl rfl ?_
      refine Sq.add .plain rfl rfl rfl (by omega) ?_
      refine Sq.assign .plain rfl rfl ?_
      refine Sq.nil ?_
      have e1 := toNat_succ hk.1
      refine Eq.round _ _ ⟨k + 1, rfl, hl, by omega, by rw [e1]; exact take_eq_snoc [] hl hp (by omega) (by simpa using hne), E, rfl⟩ (by omega) (.cons rfl (.cons rfl (.cons rfl (.nil))))
    refine Sq.nil ?_
    refine Eq.goes (fun _ => (grown_trans (World.grownBy.refl w4 _) (Ext.to_grown e17 _))) ?_
    refine Gq.st 9 rfl (by kernel_rfl) rfl .plain rfl (fun _ _ _ h => h) (grown_trans (World.grownBy.refl w4 _) (Ext.to_grown e17 _)) (fun w' x => Still.notF rfl) ?_
    refine Gq.done (by kernel_rfl) ?_
    refine Eq.next ?_
    refine Cq.thn rfl ?_
    refine Cq.seq ?_
    refine Cq.region ?_
    refine Sq.assign .plain rfl rfl ?_
    refine Sq.nil ?_
    refine Eq.next ?_
    refine Cq.ret ?_
    refine Eq.outRet ?_
    refine Eq.pastRet ?_
    refine Eq.pastRet ?_
    refine Eq.outRet ?_
    refine Eq.pastRet ?_
    refine Eq.ret1 rfl rfl ?_
    exact ⟨by first | rw [beq_len (by omega)] | rw [beq_at (k := k.toNat) [] (by simpa using hne)] | rw [beq_done (k := k.toNat) hp (by omega) (by omega)], E⟩
  refine Sq.nil ?_
  refine Eq.next ?_
  refine Cq.els rfl ?_
  refine Cq.exit ?_
  refine Eq.past ?_
  refine Eq.past ?_
  refine Eq.hit ?_
  refine Eq.next ?_
  refine Cq.seq ?_
  refine Cq.region ?_
  refine Sq.assign .plain rfl rfl ?_
  refine Sq.nil ?_
  refine Eq.next ?_
  refine Cq.ret ?_
  refine Eq.ret1 rfl rfl ?_
  exact ⟨by first | rw [beq_len (by omega)] | rw [beq_at (k := k.toNat) [] (by simpa using hne)] | rw [beq_done (k := k.toNat) hp (by omega) (by omega)], E⟩
set_option maxRecDepth 100000 in
theorem eqAut_c (w0 : World) (a b : A) (nx ac nx' ac' : Value) (hnx : Rows w0 41 3 nx a.next) (hac : Bools w0 4 ac a.acc) (hnx' : Rows w0 41 3 nx' b.next) (hac' : Bools w0 4 ac' b.acc) (hsm : SmX a) : Ret Tryd.prog 8 #[Value.agg #[Value.int .i64 a.al, nx, ac], Value.agg #[Value.int .i64 b.al, nx', ac']] w0 (fun v w => v = .bool (eqA a b) ∧ Ext w0 w) := by
  have E := Ext.refl w0
  refine Ret.of (args := [Value.agg #[Value.int .i64 a.al, nx, ac], Value.agg #[Value.int .i64 b.al, nx', ac']]) Tryd.func8 rfl rfl rfl ?_
  rintro _ rfl
  show Cq _ _ _ _ [(0, Value.agg #[Value.int .i64 a.al, nx, ac]), (1, Value.agg #[Value.int .i64 b.al, nx', ac'])] _
  refine Cq.seq ?_
  refine Cq.region ?_
  refine Sq.box .plain rfl rfl (fun b1 w2 e3 hB4 hlo5 => ?_)
  have hd6 := Nat.le_trans (Below.size E) hlo5
  have hs7 := Below.size e3
  replace E := E.trans e3
  refine Sq.box .plain rfl rfl (fun b8 w9 e10 hB11 hlo12 => ?_)
  have hd13 := Nat.le_trans (Below.size E) hlo12
  have hd14 := Nat.lt_of_lt_of_le hB4.lt hlo12
  have hs15 := Below.size e10
  replace E := E.trans e10
  replace hB4 := hB4.ext e10
  refine Sq.assign .plain rfl rfl ?_
  refine Sq.nil ?_
  refine Eq.next ?_
  refine Cq.seq ?_
  refine Cq.seq ?_
  refine Cq.region ?_
  refine Sq.fieldAddr fld25_0 .plain rfl rfl ?_
  refine Sq.loadB one3 .plain rfl rfl hB4 rfl ?_
  refine Sq.fieldAddr fld25_0 .plain rfl rfl ?_
  refine Sq.loadB one3 .plain rfl rfl hB11 rfl ?_
  refine Sq.neq .plain rfl rfl rfl ?_
  refine Sq.part (fun h0 => ?_) (fun h0 => ?_)
  · refine Sq.nil ?_
    refine Eq.next ?_
    refine Cq.thn rfl ?_
    refine Cq.seq ?_
    refine Cq.region ?_
    refine Sq.assign .plain rfl rfl ?_
    refine Sq.nil ?_
    refine Eq.next ?_
    refine Cq.ret ?_
    refine Eq.pastRet ?_
    refine Eq.ret1 rfl rfl ?_
    exact ⟨by simp [eqA, h0], E⟩
  refine Sq.nil ?_
  refine Eq.next ?_
  refine Cq.els rfl ?_
  refine Cq.skip ?_
  refine Eq.next ?_
  refine Cq.seq ?_
  refine Cq.seq ?_
  refine Cq.region ?_
  refine Sq.fieldAddr fld25_1 .plain rfl rfl ?_
  refine Sq.loadB one22 .plain rfl rfl hB4 rfl ?_
  refine Sq.fieldAddr fld25_1 .plain rfl rfl ?_
  refine Sq.loadB one22 .plain rfl rfl hB11 rfl ?_
  have hd19 := hB4.lt
  have hd20 := hB11.lt
  refine Sq.call fn23 .plain rfl rfl (eqIntSS_c _ _ _ _ _ (hnx.ext E) (hnx'.ext E) hsm.1 hsm.2.1) ?_
  rintro _ w17 ⟨rfl, e18⟩
  have hs21 := Below.size E
  have hs22 := Below.size e18
  replace E := E.trans e18
  replace hB4 := hB4.ext e18
  replace hB11 := hB11.ext e18
  refine Sq.partB (fun h1 => ?_) (fun h1 => ?_)
  · refine Sq.notT .plain rfl rfl ?_
    refine Sq.nil ?_
    refine Eq.next ?_
    refine Cq.els rfl ?_
    refine Cq.skip ?_
    refine Eq.next ?_
    refine Cq.seq ?_
    refine Cq.seq ?_
    refine Cq.region ?_
    refine Sq.fieldAddr fld25_2 .plain rfl rfl ?_
    refine Sq.loadB one23 .plain rfl rfl hB4 rfl ?_
    refine Sq.fieldAddr fld25_2 .plain rfl rfl ?_
    refine Sq.loadB one23 .plain rfl rfl hB11 rfl ?_
    have hd26 := hB4.lt
    have hd27 := hB11.lt
    refine Sq.call fn24 .plain rfl rfl (eqBoolS_c _ _ _ _ _ (hac.ext E) (hac'.ext E) (by exact Nat.le_trans hsm.2.2 (by decide))) ?_
    rintro _ w24 ⟨rfl, e25⟩
    have hs28 := Below.size E
    have hs29 := Below.size e25
    replace E := E.trans e25
    refine Sq.partB (fun h2 => ?_) (fun h2 => ?_)
    · refine Sq.notT .plain rfl rfl ?_
      refine Sq.nil ?_
      refine Eq.next ?_
      refine Cq.els rfl ?_
      refine Cq.skip ?_
      refine Eq.next ?_
      refine Cq.seq ?_
      refine Cq.region ?_
      refine Sq.assign .plain rfl rfl ?_
      refine Sq.nil ?_
      refine Eq.next ?_
      refine Cq.ret ?_
      refine Eq.ret1 rfl rfl ?_
      have h0' : a.al = b.al := by omega
      exact ⟨by unfold eqA; rw [h1, h2, h0', beq_self_eq_true]; rfl, E⟩
    refine Sq.notF .plain rfl rfl ?_
    refine Sq.nil ?_
    refine Eq.next ?_
    refine Cq.thn rfl ?_
    refine Cq.seq ?_
    refine Cq.region ?_
    refine Sq.assign .plain rfl rfl ?_
    refine Sq.nil ?_
    refine Eq.next ?_
    refine Cq.ret ?_
    refine Eq.pastRet ?_
    refine Eq.ret1 rfl rfl ?_
    have h0' : a.al = b.al := by omega
    exact ⟨by unfold eqA; rw [h1, h2, h0', beq_self_eq_true]; rfl, E⟩
  refine Sq.notF .plain rfl rfl ?_
  refine Sq.nil ?_
  refine Eq.next ?_
  refine Cq.thn rfl ?_
  refine Cq.seq ?_
  refine Cq.region ?_
  refine Sq.assign .plain rfl rfl ?_
  refine Sq.nil ?_
  refine Eq.next ?_
  refine Cq.ret ?_
  refine Eq.pastRet ?_
  refine Eq.ret1 rfl rfl ?_
  have h0' : a.al = b.al := by omega
  exact ⟨by unfold eqA; rw [h1, h0', beq_self_eq_true]; rfl, E⟩
end Go.Proofs.YtnckpafknojdhaaDoor
set_option linter.unusedSimpArgs false
set_option linter.unusedVariables false
namespace Go.Proofs.YtnckpafknojdhaaDoor
open Go.RowKit
set_option maxRecDepth 100000 in
theorem lExMinimize (w0 : World) (a : A) (nx ac : Value) (hnx : RowsX w0 nx a.next) (hac : BoolsX w0 ac a.acc) : Ret Tryd.prog 5 #[Value.agg #[Value.int .i64 a.al, nx, ac]] w0 (fun v w => v = .bool true ∧ Ext w0 w) := by
  have E := Ext.refl w0
  refine Ret.of (args := [Value.agg #[Value.int .i64 a.al, nx, ac]]) Tryd.func5 rfl rfl rfl ?_
  rintro _ rfl
  show Cq _ _ _ _ [(0, Value.agg #[Value.int .i64 a.al, nx, ac])] _
  refine Cq.seq ?_
  refine Cq.region ?_
  refine Sq.box .plain rfl rfl (fun b1 w2 e3 hB4 hlo5 => ?_)
  have hd6 := Nat.le_trans (Below.size E) hlo5
  have hs7 := Below.size e3
  replace E := E.trans e3
  refine Sq.assign .plain rfl rfl ?_
  refine Sq.nil ?_
  refine Eq.next ?_
  refine Cq.seq ?_
  refine Cq.region ?_
  refine Sq.assign .plain rfl rfl ?_
  refine Sq.nil ?_
  refine Eq.next ?_
  refine Cq.seq ?_
  refine Cq.region ?_
  refine Sq.loadAgg agg31 .plain rfl rfl hB4 rfl ?_
  refine Sq.move .plain rfl rfl ?_
  have hd14 := hB4.lt
  refine Sq.call fn11 .plain rfl rfl (szA_c _ a _ _ (hnx.ext E) (hac.ext E) 1048576 (by omega)) ?_
  rintro _ w9 ⟨⟨z11, rfl, hz12, hsm13⟩, e10⟩
  have hs15 := Below.size E
  have hs16 := Below.size e10
  replace E := E.trans e10
  replace hB4 := hB4.ext e10
  refine Sq.assign .plain rfl rfl ?_
  refine Sq.nil ?_
  refine Eq.next ?_
  refine Cq.seq ?_
  refine Cq.seq ?_
  refine Cq.region ?_
  refine Sq.move .plain rfl rfl ?_
  refine Sq.lss .plain rfl rfl rfl ?_
  refine Sq.part (fun c17 => ?_) (fun c17 => ?_)
  · refine Sq.nil ?_
    refine Eq.next ?_
    refine Cq.thn rfl ?_
    refine Cq.seq ?_
    refine Cq.region ?_
    refine Sq.assign .plain rfl rfl ?_
    refine Sq.nil ?_
    refine Eq.next ?_
    refine Cq.ret ?_
    refine Eq.pastRet ?_
    refine Eq.ret1 rfl rfl ?_
    exact ⟨rfl, E⟩
  refine Sq.nil ?_
  refine Eq.next ?_
  refine Cq.els rfl ?_
  refine Cq.skip ?_
  refine Eq.next ?_
  refine Cq.seq ?_
  refine Cq.region ?_
  refine Sq.loadAgg agg31 .plain rfl rfl hB4 rfl ?_
  have hd25 := hB4.lt
  refine Sq.call fn13 .plain rfl rfl (toA_c _ a _ _ (hnx.ext E) (hac.ext E) (hsm13 (by omega)).2) ?_
  rintro _ w19 ⟨⟨nx21, ac22, rfl, hn23, ha24⟩, e20⟩
  have hs26 := Below.size E
  have hs27 := Below.size e20
  replace E := E.trans e20
  replace hB4 := hB4.ext e20
  have hl_ha24 := Own.low ha24
  rcases Bool.eq_false_or_eq_true (validA a) with hC | hC
  · have hv := hC
    have hd35 := hB4.lt
    refine Sq.call fn15 .plain rfl rfl (sMinAut_c_T _ a _ _ (OwnRows.rows hn23) (Own.row ha24) hC) ?_
    rintro _ w29 ⟨⟨_, rfl, nx31, ac32, rfl, hn33, ha34⟩, e30⟩
    have hs36 := Below.size E
    have hs37 := Below.size e30
    replace E := E.trans e30
    replace hB4 := hB4.ext e30
    have hl_ha34 := Own.low ha34
    refine Sq.move .plain rfl rfl ?_
    refine Sq.extract .plain rfl rfl rfl ?_
    refine Sq.extract .plain rfl rfl rfl ?_
    refine Sq.alloc zero25 .plain rfl (fun b38 w39 e40 hB41 hlo42 => ?_)
    have hd43 := Nat.le_trans (Below.size E) hlo42
    have hd44 := Nat.lt_of_lt_of_le hB4.lt hlo42
    have hs45 := Below.size e40
    replace E := E.trans e40
    replace hB4 := hB4.ext e40
    replace hn33 := hn33.ext e40
    replace ha34 := ha34.ext e40
    refine Sq.storeAgg agg25 .plain rfl rfl (one_cons rfl (one_cons (Rows.one (OwnRows.rows hn33)) (one_cons (Row.one (Own.row ha34)) one_nil))) hB41 rfl rfl (fun w46 g47 hB48 => ?_)
    have hs49 := World.grownBy.size g47
    replace E := E.grown g47 (fun k hk => by injection hk with hk; subst hk; omega)
    replace hB4 := hB4.grown g47 (by intro h; injection h with h; omega)
    replace hn33 := hn33.stored g47 hB41 (by decide) (by decide)
    replace ha34 := ha34.stored g47 hB41 (by decide)
    replace hB41 := hB48
    refine Sq.assign .plain rfl rfl ?_
    refine Sq.nil ?_
    refine Eq.next ?_
    refine Cq.seq ?_
    refine Cq.region ?_
    replace hn33 := OwnRows.rows hn33
    replace ha34 := Own.row ha34
    have Ew := Ext.refl w46
    refine Sq.loadAgg agg31 .plain rfl rfl hB4 rfl ?_
    have hd57 := hB4.lt
    have hd58 := hB41.lt
    refine Sq.call fn13 .plain rfl rfl (toA_c _ a _ _ (hnx.ext E) (hac.ext E) (hsm13 (by omega)).2) ?_
    rintro _ w51 ⟨⟨nx53, ac54, rfl, hn55, ha56⟩, e52⟩
    have hs59 := Below.size E
    have hs60 := Below.size Ew
    have hs61 := Below.size e52
    replace E := E.trans e52
    replace hB4 := hB4.ext e52
    replace hB41 := hB41.ext e52
    replace Ew := Ew.trans e52
    have hl_ha56 := Own.low ha56
    refine Sq.alloc zero25 .plain rfl (fun b62 w63 e64 hB65 hlo66 => ?_)
    have hd67 := Nat.le_trans (Below.size E) hlo66
    have hd68 := Nat.lt_of_lt_of_le hB4.lt hlo66
    have hd69 := Nat.lt_of_lt_of_le hB41.lt hlo66
    have hd70 := Nat.le_trans (Below.size Ew) hlo66
    have hs71 := Below.size e64
    replace E := E.trans e64
    replace hB4 := hB4.ext e64
    replace hB41 := hB41.ext e64
    replace Ew := Ew.trans e64
    replace hn55 := hn55.ext e64
    replace ha56 := ha56.ext e64
    refine Sq.storeAgg agg25 .plain rfl rfl (one_cons rfl (one_cons (Rows.one (OwnRows.rows hn55)) (one_cons (Row.one (Own.row ha56)) one_nil))) hB65 rfl rfl (fun w72 g73 hB74 => ?_)
    have hs75 := World.grownBy.size g73
    replace E := E.grown g73 (fun k hk => by injection hk with hk; subst hk; omega)
    replace hB4 := hB4.grown g73 (by intro h; injection h with h; omega)
    replace hB41 := hB41.grown g73 (by intro h; injection h with h; omega)
    replace Ew := Ew.grown g73 (fun k hk => by injection hk with hk; subst hk; omega)
    replace hn55 := hn55.stored g73 hB65 (by decide) (by decide)
    replace ha56 := ha56.stored g73 hB65 (by decide)
    replace hB65 := hB74
    refine Sq.nil ?_
    refine Eq.next ?_
    refine Cq.seq ?_
    refine Cq.region ?_
    refine Sq.loadAgg agg25 .plain rfl rfl hB65 rfl ?_
    have hd83 := hB4.lt
    have hd84 := hB41.lt
    have hd85 := hB65.lt
    refine Sq.call fn16 .plain rfl rfl (minAut_c_T _ a _ _ (OwnRows.rows hn55) (Own.row ha56) hC) ?_
    rintro _ w77 ⟨⟨_, rfl, nx79, ac80, rfl, hn81, ha82⟩, e78⟩
    have hs86 := Below.size E
    have hs87 := Below.size Ew
    have hs88 := Below.size e78
    replace E := E.trans e78
    replace hB4 := hB4.ext e78
    replace hB41 := hB41.ext e78
    replace Ew := Ew.trans e78
    replace hn55 := hn55.ext e78
    replace ha56 := ha56.ext e78
    replace hB65 := hB65.ext e78
    have hl_ha82 := Own.low ha82
    refine Sq.move .plain rfl rfl ?_
    refine Sq.extract .plain rfl rfl rfl ?_
    refine Sq.extract .plain rfl rfl rfl ?_
    refine Sq.alloc zero25 .plain rfl (fun b89 w90 e91 hB92 hlo93 => ?_)
    have hd94 := Nat.le_trans (Below.size E) hlo93
    have hd95 := Nat.lt_of_lt_of_le hB4.lt hlo93
    have hd96 := Nat.lt_of_lt_of_le hB41.lt hlo93
    have hd97 := Nat.le_trans (Below.size Ew) hlo93
    have hd98 := Nat.lt_of_lt_of_le hB65.lt hlo93
    have hs99 := Below.size e91
    replace E := E.trans e91
    replace hB4 := hB4.ext e91
    replace hB41 := hB41.ext e91
    replace Ew := Ew.trans e91
    replace hn55 := hn55.ext e91
    replace ha56 := ha56.ext e91
    replace hB65 := hB65.ext e91
    replace hn81 := hn81.ext e91
    replace ha82 := ha82.ext e91
    refine Sq.storeAgg agg25 .plain rfl rfl (one_cons rfl (one_cons (Rows.one (OwnRows.rows hn81)) (one_cons (Row.one (Own.row ha82)) one_nil))) hB92 rfl rfl (fun w100 g101 hB102 => ?_)
    have hs103 := World.grownBy.size g101
    replace E := E.grown g101 (fun k hk => by injection hk with hk; subst hk; omega)
    replace hB4 := hB4.grown g101 (by intro h; injection h with h; omega)
    replace hB41 := hB41.grown g101 (by intro h; injection h with h; omega)
    replace Ew := Ew.grown g101 (fun k hk => by injection hk with hk; subst hk; omega)
    replace hn55 := hn55.stored g101 hB92 (by decide) (by decide)
    replace ha56 := ha56.stored g101 hB92 (by decide)
    replace hB65 := hB65.grown g101 (by intro h; injection h with h; omega)
    replace hn81 := hn81.stored g101 hB92 (by decide) (by decide)
    replace ha82 := ha82.stored g101 hB92 (by decide)
    replace hB92 := hB102
    refine Sq.assign .plain rfl rfl ?_
    refine Sq.nil ?_
    refine Eq.next ?_
    refine Cq.seq ?_
    refine Cq.seq ?_
    refine Cq.region ?_
    refine Sq.loadAgg agg25 .plain rfl rfl hB92 rfl ?_
    refine Sq.loadAgg agg25 .plain rfl rfl hB41 rfl ?_
    have hd107 := hB4.lt
    have hd108 := hB41.lt
    have hd109 := hB65.lt
    have hd110 := hB92.lt
    refine Sq.call fn8 .plain rfl rfl (eqAut_c _ (minA a) (minA a) _ _ _ _ (OwnRows.rows hn81) (Own.row ha82) (hn33.ext Ew) (ha34.ext Ew) ((smx_valid (min_valid hv)))) ?_
    rintro _ w105 ⟨rfl, e106⟩
    have hs111 := Below.size E
    have hs112 := Below.size Ew
    have hs113 := Below.size e106
    replace E := E.trans e106
    replace hB4 := hB4.ext e106
    replace hB41 := hB41.ext e106
    replace Ew := Ew.trans e106
    replace hn55 := hn55.ext e106
    replace ha56 := ha56.ext e106
    replace hB65 := hB65.ext e106
    replace hn81 := hn81.ext e106
    replace ha82 := ha82.ext e106
    replace hB92 := hB92.ext e106
    refine Sq.beT (eqA_refl _) ?_
    refine Sq.notT .plain rfl rfl ?_
    refine Sq.move .plain rfl rfl ?_
    refine Sq.move (.met rfl rfl rfl) rfl rfl ?_
    refine Sq.move (.met rfl rfl rfl) rfl rfl ?_
    refine Sq.neqB und4 (.met rfl rfl rfl) rfl rfl rfl ?_
    refine Sq.pickF .plain rfl rfl rfl ?_
    refine Sq.nil ?_
    refine Eq.next ?_
    refine Cq.els rfl ?_
    refine Cq.skip ?_
    refine Eq.next ?_
    refine Cq.seq ?_
    refine Cq.seq ?_
    refine Cq.draw 5 none mixed (fun w114 e115 => ?_)
    have hs116 := Below.size e115
    replace E := E.trans e115
    replace hB4 := hB4.ext e115
    replace hB41 := hB41.ext e115
    replace Ew := Ew.trans e115
    replace hn55 := hn55.ext e115
    replace ha56 := ha56.ext e115
    replace hB65 := hB65.ext e115
    replace hn81 := hn81.ext e115
    replace ha82 := ha82.ext e115
    replace hB92 := hB92.ext e115
    have hB4_w114 := hB4
    have hB65_w114 := hB65
    refine Gq.st 0 rfl (by kernel_rfl) rfl .plain rfl (fun _ _ _ h => h) (World.grownBy.refl w114 _) (fun w' x => Still.loadAgg agg25 rfl (hB65_w114.ext (Ext.of_grown x)) rfl) ?_
    refine Gq.st 1 rfl (by kernel_rfl) rfl .plain rfl (fun _ _ _ h => h) (World.grownBy.refl w114 _) (fun w' x => Still.loadAgg agg31 rfl (hB4_w114.ext (Ext.of_grown x)) rfl) ?_
    refine Gq.one 2 rfl (by kernel_rfl) ?_
    have hd124 := hB4.lt
    have hd125 := hB41.lt
    have hd126 := hB65.lt
    have hd127 := hB92.lt
    refine Sq.call fn13 .plain rfl rfl (toA_c _ a _ _ (hnx.ext E) (hac.ext E) (hsm13 (by omega)).2) ?_
    rintro _ w118 ⟨⟨nx120, ac121, rfl, hn122, ha123⟩, e119⟩
    have hs128 := Below.size E
    have hs129 := Below.size Ew
    have hs130 := Below.size e119
    replace E := E.trans e119
    replace hB4 := hB4.ext e119
    replace hB41 := hB41.ext e119
    replace Ew := Ew.trans e119
    replace hn55 := hn55.ext e119
    replace ha56 := ha56.ext e119
    replace hB65 := hB65.ext e119
    replace hn81 := hn81.ext e119
    replace ha82 := ha82.ext e119
    replace hB92 := hB92.ext e119
    have hl_ha123 := Own.low ha123
    refine Sq.nil ?_
    refine Eq.goes (fun _ => (grown_trans (World.grownBy.refl w114 _) (Ext.to_grown e119 _))) ?_
    refine Gq.one 3 rfl (by kernel_rfl) ?_
    have hd134 := hB4.lt
    have hd135 := hB41.lt
    have hd136 := hB65.lt
    have hd137 := hB92.lt
    refine Sq.call fn8 .plain rfl rfl (eqAut_c _ a a _ _ _ _ (OwnRows.rows hn55) (Own.row ha56) (OwnRows.rows hn122) (Own.row ha123) ((hsm13 (by omega)).2)) ?_
    rintro _ w132 ⟨rfl, e133⟩
    have hs138 := Below.size E
    have hs139 := Below.size Ew
    have hs140 := Below.size e133
    replace E := E.trans e133
    replace hB4 := hB4.ext e133
    replace hB41 := hB41.ext e133
    replace Ew := Ew.trans e133
    replace hn55 := hn55.ext e133
    replace ha56 := ha56.ext e133
    replace hB65 := hB65.ext e133
    replace hn81 := hn81.ext e133
    replace ha82 := ha82.ext e133
    replace hB92 := hB92.ext e133
    refine Sq.beT (eqA_refl _) ?_
    refine Sq.nil ?_
    refine Eq.goes (fun _ => (grown_trans (grown_trans (World.grownBy.refl w114 _) (Ext.to_grown e119 _)) (Ext.to_grown e133 _))) ?_
    refine Gq.st 4 rfl (by kernel_rfl) rfl .plain rfl (fun _ _ _ h => h) (grown_trans (grown_trans (World.grownBy.refl w114 _) (Ext.to_grown e119 _)) (Ext.to_grown e133 _)) (fun w' x => Still.notT rfl) ?_
    refine Gq.done (by kernel_rfl) ?_
    refine Eq.next ?_
    refine Cq.els rfl ?_
    refine Cq.skip ?_
    refine Eq.next ?_
    refine Cq.seq ?_
    refine Cq.region ?_
    refine Sq.assign .plain rfl rfl ?_
    refine Sq.nil ?_
    refine Eq.next ?_
    refine Cq.seq ?_
    refine Cq.region ?_
    refine Sq.loadAgg agg25 .plain rfl rfl hB65 rfl ?_
    refine Sq.move .plain rfl rfl ?_
    have hcl := cntA_le (hsm13 (by omega)).2
    have hcn143 := cntA_nonneg a
    refine Sq.call fn9 .plain rfl rfl (markA_c _ w46.heap.size w51.heap.size a _ _ 1 hn55 ha56 hl_ha56 (hsm13 (by omega)).2 (by omega)) ?_
    rintro _ w141 ⟨rfl, hn', ha', hwr142⟩
    have hs144 := hwr142.size
    replace E := Ext.wrote E hwr142 (by omega)
    replace hB4 := Blk.wrote hB4 hwr142 (by omega)
    replace hB41 := Blk.wrote hB41 hwr142 (by omega)
    replace Ew := Ext.wrote Ew hwr142 (by omega)
    replace hB65 := Blk.wrote hB65 hwr142 (by omega)
    replace hn81 := OwnRows.wrote hn81 hwr142 (by omega)
    replace ha82 := Own.wrote ha82 hwr142 (by omega)
    replace hB92 := Blk.wrote hB92 hwr142 (by omega)
    clear hn' ha'
    refine Sq.assign .plain rfl rfl ?_
    refine Sq.nil ?_
    refine Eq.next ?_
    refine Cq.seq ?_
    refine Cq.seq ?_
    refine Cq.region ?_
    refine Sq.move .plain rfl rfl ?_
    refine Sq.lss .plain rfl rfl rfl ?_
    refine Sq.isF (by omega) ?_
    refine Sq.move .plain rfl rfl ?_
    refine Sq.loadAgg agg25 (.met rfl rfl rfl) rfl rfl hB92 rfl ?_
    refine Sq.loadAgg agg25 (.met rfl rfl rfl) rfl rfl hB41 rfl ?_
    have hd148 := hB4.lt
    have hd149 := hB41.lt
    have hd150 := hB65.lt
    have hd151 := hB92.lt
    refine Sq.call fn8 (.met rfl rfl rfl) rfl rfl (eqAut_c _ (minA a) (minA a) _ _ _ _ (OwnRows.rows hn81) (Own.row ha82) (hn33.ext Ew) (ha34.ext Ew) ((smx_valid (min_valid hv)))) ?_
    rintro _ w146 ⟨rfl, e147⟩
    have hs152 := Below.size E
    have hs153 := Below.size Ew
    have hs154 := Below.size e147
    replace E := E.trans e147
    replace hB4 := hB4.ext e147
    replace hB41 := hB41.ext e147
    replace Ew := Ew.trans e147
    replace hB65 := hB65.ext e147
    replace hn81 := hn81.ext e147
    replace ha82 := ha82.ext e147
    replace hB92 := hB92.ext e147
    refine Sq.beT (eqA_refl _) ?_
    refine Sq.notT (.met rfl rfl rfl) rfl rfl ?_
    refine Sq.pickF .plain rfl rfl rfl ?_
    refine Sq.move .plain rfl rfl ?_
    refine Sq.move (.met rfl rfl rfl) rfl rfl ?_
    refine Sq.move (.met rfl rfl rfl) rfl rfl ?_
    refine Sq.neqB und4 (.met rfl rfl rfl) rfl rfl rfl ?_
    refine Sq.pickF .plain rfl rfl rfl ?_
    refine Sq.nil ?_
    refine Eq.next ?_
    refine Cq.els rfl ?_
    refine Cq.skip ?_
    refine Eq.next ?_
    refine Cq.seq ?_
    refine Cq.region ?_
    refine Sq.assign .plain rfl rfl ?_
    refine Sq.nil ?_
    refine Eq.next ?_
    refine Cq.seq ?_
    refine Cq.region ?_
    refine Sq.loadAgg agg25 .plain rfl rfl hB92 rfl ?_
    refine Sq.move .plain rfl rfl ?_
    have hcl := cntA_le (smx_valid (min_valid hv))
    have hcn157 := cntA_nonneg (minA a)
    refine Sq.call fn9 .plain rfl rfl (markA_c _ w72.heap.size w77.heap.size (minA a) _ _ 1 hn81 ha82 hl_ha82 (smx_valid (min_valid hv)) (by omega)) ?_
    rintro _ w155 ⟨rfl, hn', ha', hwr156⟩
    have hs158 := hwr156.size
    replace E := Ext.wrote E hwr156 (by omega)
    replace hB4 := Blk.wrote hB4 hwr156 (by omega)
    replace hB41 := Blk.wrote hB41 hwr156 (by omega)
    replace Ew := Ext.wrote Ew hwr156 (by omega)
    replace hB65 := Blk.wrote hB65 hwr156 (by omega)
    replace hB92 := Blk.wrote hB92 hwr156 (by omega)
    replace hn81 := hn'
    replace ha82 := ha'
    clear hn' ha'
    refine Sq.assign .plain rfl rfl ?_
    refine Sq.nil ?_
    refine Eq.next ?_
    refine Cq.seq ?_
    refine Cq.region ?_
    refine Sq.assign .plain rfl rfl ?_
    refine Sq.nil ?_
    refine Eq.next ?_
    refine Cq.seq ?_
    refine Cq.region ?_
    refine Sq.loadAgg agg25 .plain rfl rfl hB92 rfl ?_
    refine Sq.move .plain rfl rfl ?_
    have hd162 := hB4.lt
    have hd163 := hB41.lt
    have hd164 := hB65.lt
    have hd165 := hB92.lt
    refine Sq.call fn10 .plain rfl rfl (heldA_c _ (minA a) _ _ 1 (OwnRows.rows hn81) (Own.row ha82) (smx_valid (min_valid hv)) (by omega)) ?_
    rintro _ w160 ⟨rfl, e161⟩
    have hs166 := Below.size E
    have hs167 := Below.size Ew
    have hs168 := Below.size e161
    replace E := E.trans e161
    replace hB4 := hB4.ext e161
    replace hB41 := hB41.ext e161
    replace Ew := Ew.trans e161
    replace hB65 := hB65.ext e161
    replace hn81 := hn81.ext e161
    replace ha82 := ha82.ext e161
    replace hB92 := hB92.ext e161
    refine Sq.assign .plain rfl rfl ?_
    refine Sq.nil ?_
    refine Eq.next ?_
    refine Cq.seq ?_
    refine Cq.seq ?_
    refine Cq.region ?_
    refine Sq.move .plain rfl rfl ?_
    refine Sq.lss .plain rfl rfl rfl ?_
    refine Sq.isF (by omega) ?_
    refine Sq.nil ?_
    refine Eq.next ?_
    refine Cq.els rfl ?_
    refine Cq.skip ?_
    refine Eq.next ?_
    refine Cq.seq ?_
    refine Cq.seq ?_
    refine Cq.region ?_
    refine Sq.move .plain rfl rfl ?_
    refine Sq.move .plain rfl rfl ?_
    refine Sq.neq .plain rfl rfl rfl ?_
    refine Sq.isF (by omega) ?_
    refine Sq.nil ?_
    refine Eq.next ?_
    refine Cq.els rfl ?_
    refine Cq.skip ?_
    refine Eq.next ?_
    refine Cq.seq ?_
    refine Cq.region ?_
    refine Sq.loadAgg agg31 .plain rfl rfl hB4 rfl ?_
    have hd176 := hB4.lt
    have hd177 := hB41.lt
    have hd178 := hB65.lt
    have hd179 := hB92.lt
    refine Sq.call fn13 .plain rfl rfl (toA_c _ a _ _ (hnx.ext E) (hac.ext E) (hsm13 (by omega)).2) ?_
    rintro _ w170 ⟨⟨nx172, ac173, rfl, hn174, ha175⟩, e171⟩
    have hs180 := Below.size E
    have hs181 := Below.size Ew
    have hs182 := Below.size e171
    replace E := E.trans e171
    replace hB4 := hB4.ext e171
    replace hB41 := hB41.ext e171
    replace Ew := Ew.trans e171
    replace hB65 := hB65.ext e171
    replace hn81 := hn81.ext e171
    replace ha82 := ha82.ext e171
    replace hB92 := hB92.ext e171
    have hl_ha175 := Own.low ha175
    have hd190 := hB4.lt
    have hd191 := hB41.lt
    have hd192 := hB65.lt
    have hd193 := hB92.lt
    refine Sq.call fn16 .plain rfl rfl (minAut_c_T _ a _ _ (OwnRows.rows hn174) (Own.row ha175) hC) ?_
    rintro _ w184 ⟨⟨_, rfl, nx186, ac187, rfl, hn188, ha189⟩, e185⟩
    have hs194 := Below.size E
    have hs195 := Below.size Ew
    have hs196 := Below.size e185
    replace E := E.trans e185
    replace hB4 := hB4.ext e185
    replace hB41 := hB41.ext e185
    replace Ew := Ew.trans e185
    replace hB65 := hB65.ext e185
    replace hn81 := hn81.ext e185
    replace ha82 := ha82.ext e185
    replace hB92 := hB92.ext e185
    have hl_ha189 := Own.low ha189
    refine Sq.move .plain rfl rfl ?_
    refine Sq.extract .plain rfl rfl rfl ?_
    refine Sq.extract .plain rfl rfl rfl ?_
    refine Sq.alloc zero25 .plain rfl (fun b197 w198 e199 hB200 hlo201 => ?_)
    have hd202 := Nat.le_trans (Below.size E) hlo201
    have hd203 := Nat.lt_of_lt_of_le hB4.lt hlo201
    have hd204 := Nat.lt_of_lt_of_le hB41.lt hlo201
    have hd205 := Nat.le_trans (Below.size Ew) hlo201
    have hd206 := Nat.lt_of_lt_of_le hB65.lt hlo201
    have hd207 := Nat.lt_of_lt_of_le hB92.lt hlo201
    have hs208 := Below.size e199
    replace E := E.trans e199
    replace hB4 := hB4.ext e199
    replace hB41 := hB41.ext e199
    replace Ew := Ew.trans e199
    replace hB65 := hB65.ext e199
    replace hn81 := hn81.ext e199
    replace ha82 := ha82.ext e199
    replace hB92 := hB92.ext e199
    replace hn188 := hn188.ext e199
    replace ha189 := ha189.ext e199
    refine Sq.storeAgg agg25 .plain rfl rfl (one_cons rfl (one_cons (Rows.one (OwnRows.rows hn188)) (one_cons (Row.one (Own.row ha189)) one_nil))) hB200 rfl rfl (fun w209 g210 hB211 => ?_)
    have hs212 := World.grownBy.size g210
    replace E := E.grown g210 (fun k hk => by injection hk with hk; subst hk; omega)
    replace hB4 := hB4.grown g210 (by intro h; injection h with h; omega)
    replace hB41 := hB41.grown g210 (by intro h; injection h with h; omega)
    replace Ew := Ew.grown g210 (fun k hk => by injection hk with hk; subst hk; omega)
    replace hB65 := hB65.grown g210 (by intro h; injection h with h; omega)
    replace hn81 := hn81.stored g210 hB200 (by decide) (by decide)
    replace ha82 := ha82.stored g210 hB200 (by decide)
    replace hB92 := hB92.grown g210 (by intro h; injection h with h; omega)
    replace hn188 := hn188.stored g210 hB200 (by decide) (by decide)
    replace ha189 := ha189.stored g210 hB200 (by decide)
    replace hB200 := hB211
    refine Sq.assign .plain rfl rfl ?_
    refine Sq.nil ?_
    refine Eq.next ?_
    refine Cq.seq ?_
    refine Cq.seq ?_
    refine Cq.region ?_
    refine Sq.loadAgg agg25 .plain rfl rfl hB200 rfl ?_
    refine Sq.loadAgg agg25 .plain rfl rfl hB41 rfl ?_
    have hd216 := hB4.lt
    have hd217 := hB41.lt
    have hd218 := hB65.lt
    have hd219 := hB92.lt
    have hd220 := hB200.lt
    refine Sq.call fn8 .plain rfl rfl (eqAut_c _ (minA a) (minA a) _ _ _ _ (OwnRows.rows hn188) (Own.row ha189) (hn33.ext Ew) (ha34.ext Ew) ((smx_valid (min_valid hv)))) ?_
    rintro _ w214 ⟨rfl, e215⟩
    have hs221 := Below.size E
    have hs222 := Below.size Ew
    have hs223 := Below.size e215
    replace E := E.trans e215
    replace hB4 := hB4.ext e215
    replace hB41 := hB41.ext e215
    replace Ew := Ew.trans e215
    replace hB65 := hB65.ext e215
    replace hn81 := hn81.ext e215
    replace ha82 := ha82.ext e215
    replace hB92 := hB92.ext e215
    replace hB200 := hB200.ext e215
    refine Sq.beT (eqA_refl _) ?_
    refine Sq.notT .plain rfl rfl ?_
    refine Sq.move .plain rfl rfl ?_
    refine Sq.move (.met rfl rfl rfl) rfl rfl ?_
    refine Sq.move (.met rfl rfl rfl) rfl rfl ?_
    refine Sq.neqB und4 (.met rfl rfl rfl) rfl rfl rfl ?_
    refine Sq.pickF .plain rfl rfl rfl ?_
    refine Sq.nil ?_
    refine Eq.next ?_
    refine Cq.els rfl ?_
    refine Cq.skip ?_
    refine Eq.next ?_
    refine Cq.seq ?_
    refine Cq.region ?_
    refine Sq.assign .plain rfl rfl ?_
    refine Sq.nil ?_
    refine Eq.next ?_
    refine Cq.seq ?_
    refine Cq.region ?_
    refine Sq.loadAgg agg25 .plain rfl rfl hB92 rfl ?_
    refine Sq.move .plain rfl rfl ?_
    have hd227 := hB4.lt
    have hd228 := hB41.lt
    have hd229 := hB65.lt
    have hd230 := hB92.lt
    have hd231 := hB200.lt
    refine Sq.call fn10 .plain rfl rfl (heldA_c _ (minA a) _ _ 1 (OwnRows.rows hn81) (Own.row ha82) (smx_valid (min_valid hv)) (by omega)) ?_
    rintro _ w225 ⟨rfl, e226⟩
    have hs232 := Below.size E
    have hs233 := Below.size Ew
    have hs234 := Below.size e226
    replace E := E.trans e226
    refine Sq.assign .plain rfl rfl ?_
    refine Sq.nil ?_
    refine Eq.next ?_
    refine Cq.seq ?_
    refine Cq.seq ?_
    refine Cq.region ?_
    refine Sq.move .plain rfl rfl ?_
    refine Sq.lss .plain rfl rfl rfl ?_
    refine Sq.isF (by omega) ?_
    refine Sq.nil ?_
    refine Eq.next ?_
    refine Cq.els rfl ?_
    refine Cq.skip ?_
    refine Eq.next ?_
    refine Cq.seq ?_
    refine Cq.seq ?_
    refine Cq.region ?_
    refine Sq.move .plain rfl rfl ?_
    refine Sq.move .plain rfl rfl ?_
    refine Sq.neq .plain rfl rfl rfl ?_
    refine Sq.isF (by omega) ?_
    refine Sq.nil ?_
    refine Eq.next ?_
    refine Cq.els rfl ?_
    refine Cq.skip ?_
    refine Eq.next ?_
    refine Cq.seq ?_
    refine Cq.region ?_
    refine Sq.assign .plain rfl rfl ?_
    refine Sq.nil ?_
    refine Eq.next ?_
    refine Cq.ret ?_
    refine Eq.ret1 rfl rfl ?_
    exact ⟨rfl, E⟩
  have hd242 := hB4.lt
  refine Sq.call fn15 .plain rfl rfl (sMinAut_c_F _ a _ _ (OwnRows.rows hn23) (Own.row ha24) hC) ?_
  rintro _ w236 ⟨⟨_, rfl, nx238, ac239, rfl, hn240, ha241⟩, e237⟩
  have hs243 := Below.size E
  have hs244 := Below.size e237
  replace E := E.trans e237
  replace hB4 := hB4.ext e237
  have hl_ha241 := Own.low ha241
  refine Sq.move .plain rfl rfl ?_
  refine Sq.extract .plain rfl rfl rfl ?_
  refine Sq.extract .plain rfl rfl rfl ?_
  refine Sq.alloc zero25 .plain rfl (fun b245 w246 e247 hB248 hlo249 => ?_)
  have hd250 := Nat.le_trans (Below.size E) hlo249
  have hd251 := Nat.lt_of_lt_of_le hB4.lt hlo249
  have hs252 := Below.size e247
  replace E := E.trans e247
  replace hB4 := hB4.ext e247
  replace hn240 := hn240.ext e247
  replace ha241 := ha241.ext e247
  refine Sq.storeAgg agg25 .plain rfl rfl (one_cons rfl (one_cons (Rows.one (OwnRows.rows hn240)) (one_cons (Row.one (Own.row ha241)) one_nil))) hB248 rfl rfl (fun w253 g254 hB255 => ?_)
  have hs256 := World.grownBy.size g254
  replace E := E.grown g254 (fun k hk => by injection hk with hk; subst hk; omega)
  replace hB4 := hB4.grown g254 (by intro h; injection h with h; omega)
  replace hn240 := hn240.stored g254 hB248 (by decide) (by decide)
  replace ha241 := ha241.stored g254 hB248 (by decide)
  replace hB248 := hB255
  refine Sq.assign .plain rfl rfl ?_
  refine Sq.nil ?_
  refine Eq.next ?_
  refine Cq.seq ?_
  refine Cq.region ?_
  replace hn240 := OwnRows.rows hn240
  replace ha241 := Own.row ha241
  have Ew := Ext.refl w253
  refine Sq.loadAgg agg31 .plain rfl rfl hB4 rfl ?_
  have hd264 := hB4.lt
  have hd265 := hB248.lt
  refine Sq.call fn13 .plain rfl rfl (toA_c _ a _ _ (hnx.ext E) (hac.ext E) (hsm13 (by omega)).2) ?_
  rintro _ w258 ⟨⟨nx260, ac261, rfl, hn262, ha263⟩, e259⟩
  have hs266 := Below.size E
  have hs267 := Below.size Ew
  have hs268 := Below.size e259
  replace E := E.trans e259
  replace hB4 := hB4.ext e259
  replace hB248 := hB248.ext e259
  replace Ew := Ew.trans e259
  have hl_ha263 := Own.low ha263
  refine Sq.alloc zero25 .plain rfl (fun b269 w270 e271 hB272 hlo273 => ?_)
  have hd274 := Nat.le_trans (Below.size E) hlo273
  have hd275 := Nat.lt_of_lt_of_le hB4.lt hlo273
  have hd276 := Nat.lt_of_lt_of_le hB248.lt hlo273
  have hd277 := Nat.le_trans (Below.size Ew) hlo273
  have hs278 := Below.size e271
  replace E := E.trans e271
  replace hB4 := hB4.ext e271
  replace hB248 := hB248.ext e271
  replace Ew := Ew.trans e271
  replace hn262 := hn262.ext e271
  replace ha263 := ha263.ext e271
  refine Sq.storeAgg agg25 .plain rfl rfl (one_cons rfl (one_cons (Rows.one (OwnRows.rows hn262)) (one_cons (Row.one (Own.row ha263)) one_nil))) hB272 rfl rfl (fun w279 g280 hB281 => ?_)
  have hs282 := World.grownBy.size g280
  replace E := E.grown g280 (fun k hk => by injection hk with hk; subst hk; omega)
  replace hB4 := hB4.grown g280 (by intro h; injection h with h; omega)
  replace hB248 := hB248.grown g280 (by intro h; injection h with h; omega)
  replace Ew := Ew.grown g280 (fun k hk => by injection hk with hk; subst hk; omega)
  replace hn262 := hn262.stored g280 hB272 (by decide) (by decide)
  replace ha263 := ha263.stored g280 hB272 (by decide)
  replace hB272 := hB281
  refine Sq.nil ?_
  refine Eq.next ?_
  refine Cq.seq ?_
  refine Cq.region ?_
  refine Sq.loadAgg agg25 .plain rfl rfl hB272 rfl ?_
  have hd290 := hB4.lt
  have hd291 := hB248.lt
  have hd292 := hB272.lt
  refine Sq.call fn16 .plain rfl rfl (minAut_c_F _ a _ _ (OwnRows.rows hn262) (Own.row ha263) hC) ?_
  rintro _ w284 ⟨⟨_, rfl, nx286, ac287, rfl, hn288, ha289⟩, e285⟩
  have hs293 := Below.size E
  have hs294 := Below.size Ew
  have hs295 := Below.size e285
  replace E := E.trans e285
  replace hB4 := hB4.ext e285
  replace hB248 := hB248.ext e285
  replace Ew := Ew.trans e285
  replace hn262 := hn262.ext e285
  replace ha263 := ha263.ext e285
  replace hB272 := hB272.ext e285
  have hl_ha289 := Own.low ha289
  refine Sq.move .plain rfl rfl ?_
  refine Sq.extract .plain rfl rfl rfl ?_
  refine Sq.extract .plain rfl rfl rfl ?_
  refine Sq.alloc zero25 .plain rfl (fun b296 w297 e298 hB299 hlo300 => ?_)
  have hd301 := Nat.le_trans (Below.size E) hlo300
  have hd302 := Nat.lt_of_lt_of_le hB4.lt hlo300
  have hd303 := Nat.lt_of_lt_of_le hB248.lt hlo300
  have hd304 := Nat.le_trans (Below.size Ew) hlo300
  have hd305 := Nat.lt_of_lt_of_le hB272.lt hlo300
  have hs306 := Below.size e298
  replace E := E.trans e298
  replace hB4 := hB4.ext e298
  replace hB248 := hB248.ext e298
  replace Ew := Ew.trans e298
  replace hn262 := hn262.ext e298
  replace ha263 := ha263.ext e298
  replace hB272 := hB272.ext e298
  replace hn288 := hn288.ext e298
  replace ha289 := ha289.ext e298
  refine Sq.storeAgg agg25 .plain rfl rfl (one_cons rfl (one_cons (Rows.one (OwnRows.rows hn288)) (one_cons (Row.one (Own.row ha289)) one_nil))) hB299 rfl rfl (fun w307 g308 hB309 => ?_)
  have hs310 := World.grownBy.size g308
  replace E := E.grown g308 (fun k hk => by injection hk with hk; subst hk; omega)
  replace hB4 := hB4.grown g308 (by intro h; injection h with h; omega)
  replace hB248 := hB248.grown g308 (by intro h; injection h with h; omega)
  replace Ew := Ew.grown g308 (fun k hk => by injection hk with hk; subst hk; omega)
  replace hn262 := hn262.stored g308 hB299 (by decide) (by decide)
  replace ha263 := ha263.stored g308 hB299 (by decide)
  replace hB272 := hB272.grown g308 (by intro h; injection h with h; omega)
  replace hn288 := hn288.stored g308 hB299 (by decide) (by decide)
  replace ha289 := ha289.stored g308 hB299 (by decide)
  replace hB299 := hB309
  refine Sq.assign .plain rfl rfl ?_
  refine Sq.nil ?_
  refine Eq.next ?_
  refine Cq.seq ?_
  refine Cq.seq ?_
  refine Cq.region ?_
  refine Sq.loadAgg agg25 .plain rfl rfl hB299 rfl ?_
  refine Sq.loadAgg agg25 .plain rfl rfl hB248 rfl ?_
  have hd314 := hB4.lt
  have hd315 := hB248.lt
  have hd316 := hB272.lt
  have hd317 := hB299.lt
  refine Sq.call fn8 .plain rfl rfl (eqAut_c _ zeroA zeroA _ _ _ _ (OwnRows.rows hn288) (Own.row ha289) (hn240.ext Ew) (ha241.ext Ew) (smx_zero)) ?_
  rintro _ w312 ⟨rfl, e313⟩
  have hs318 := Below.size E
  have hs319 := Below.size Ew
  have hs320 := Below.size e313
  replace E := E.trans e313
  replace hB4 := hB4.ext e313
  replace hB248 := hB248.ext e313
  replace Ew := Ew.trans e313
  replace hn262 := hn262.ext e313
  replace ha263 := ha263.ext e313
  replace hB272 := hB272.ext e313
  replace hn288 := hn288.ext e313
  replace ha289 := ha289.ext e313
  replace hB299 := hB299.ext e313
  refine Sq.beT (eqA_refl _) ?_
  refine Sq.notT .plain rfl rfl ?_
  refine Sq.move .plain rfl rfl ?_
  refine Sq.move (.met rfl rfl rfl) rfl rfl ?_
  refine Sq.move (.met rfl rfl rfl) rfl rfl ?_
  refine Sq.neqB und4 (.met rfl rfl rfl) rfl rfl rfl ?_
  refine Sq.pickF .plain rfl rfl rfl ?_
  refine Sq.nil ?_
  refine Eq.next ?_
  refine Cq.els rfl ?_
  refine Cq.skip ?_
  refine Eq.next ?_
  refine Cq.seq ?_
  refine Cq.seq ?_
  refine Cq.draw 5 none mixed (fun w321 e322 => ?_)
  have hs323 := Below.size e322
  replace E := E.trans e322
  replace hB4 := hB4.ext e322
  replace hB248 := hB248.ext e322
  replace Ew := Ew.trans e322
  replace hn262 := hn262.ext e322
  replace ha263 := ha263.ext e322
  replace hB272 := hB272.ext e322
  replace hn288 := hn288.ext e322
  replace ha289 := ha289.ext e322
  replace hB299 := hB299.ext e322
  have hB4_w321 := hB4
  have hB272_w321 := hB272
  refine Gq.st 0 rfl (by kernel_rfl) rfl .plain rfl (fun _ _ _ h => h) (World.grownBy.refl w321 _) (fun w' x => Still.loadAgg agg25 rfl (hB272_w321.ext (Ext.of_grown x)) rfl) ?_
  refine Gq.st 1 rfl (by kernel_rfl) rfl .plain rfl (fun _ _ _ h => h) (World.grownBy.refl w321 _) (fun w' x => Still.loadAgg agg31 rfl (hB4_w321.ext (Ext.of_grown x)) rfl) ?_
  refine Gq.one 2 rfl (by kernel_rfl) ?_
  have hd331 := hB4.lt
  have hd332 := hB248.lt
  have hd333 := hB272.lt
  have hd334 := hB299.lt
  refine Sq.call fn13 .plain rfl rfl (toA_c _ a _ _ (hnx.ext E) (hac.ext E) (hsm13 (by omega)).2) ?_
  rintro _ w325 ⟨⟨nx327, ac328, rfl, hn329, ha330⟩, e326⟩
  have hs335 := Below.size E
  have hs336 := Below.size Ew
  have hs337 := Below.size e326
  replace E := E.trans e326
  replace hB4 := hB4.ext e326
  replace hB248 := hB248.ext e326
  replace Ew := Ew.trans e326
  replace hn262 := hn262.ext e326
  replace ha263 := ha263.ext e326
  replace hB272 := hB272.ext e326
  replace hn288 := hn288.ext e326
  replace ha289 := ha289.ext e326
  replace hB299 := hB299.ext e326
  have hl_ha330 := Own.low ha330
  refine Sq.nil ?_
  refine Eq.goes (fun _ => (grown_trans (World.grownBy.refl w321 _) (Ext.to_grown e326 _))) ?_
  refine Gq.one 3 rfl (by kernel_rfl) ?_
  have hd341 := hB4.lt
  have hd342 := hB248.lt
  have hd343 := hB272.lt
  have hd344 := hB299.lt
  refine Sq.call fn8 .plain rfl rfl (eqAut_c _ a a _ _ _ _ (OwnRows.rows hn262) (Own.row ha263) (OwnRows.rows hn329) (Own.row ha330) ((hsm13 (by omega)).2)) ?_
  rintro _ w339 ⟨rfl, e340⟩
  have hs345 := Below.size E
  have hs346 := Below.size Ew
  have hs347 := Below.size e340
  replace E := E.trans e340
  replace hB4 := hB4.ext e340
  replace hB248 := hB248.ext e340
  replace Ew := Ew.trans e340
  replace hn262 := hn262.ext e340
  replace ha263 := ha263.ext e340
  replace hB272 := hB272.ext e340
  replace hn288 := hn288.ext e340
  replace ha289 := ha289.ext e340
  replace hB299 := hB299.ext e340
  refine Sq.beT (eqA_refl _) ?_
  refine Sq.nil ?_
  refine Eq.goes (fun _ => (grown_trans (grown_trans (World.grownBy.refl w321 _) (Ext.to_grown e326 _)) (Ext.to_grown e340 _))) ?_
  refine Gq.st 4 rfl (by kernel_rfl) rfl .plain rfl (fun _ _ _ h => h) (grown_trans (grown_trans (World.grownBy.refl w321 _) (Ext.to_grown e326 _)) (Ext.to_grown e340 _)) (fun w' x => Still.notT rfl) ?_
  refine Gq.done (by kernel_rfl) ?_
  refine Eq.next ?_
  refine Cq.els rfl ?_
  refine Cq.skip ?_
  refine Eq.next ?_
  refine Cq.seq ?_
  refine Cq.region ?_
  refine Sq.assign .plain rfl rfl ?_
  refine Sq.nil ?_
  refine Eq.next ?_
  refine Cq.seq ?_
  refine Cq.region ?_
  refine Sq.loadAgg agg25 .plain rfl rfl hB272 rfl ?_
  refine Sq.move .plain rfl rfl ?_
  have hcl := cntA_le (hsm13 (by omega)).2
  have hcn350 := cntA_nonneg a
  refine Sq.call fn9 .plain rfl rfl (markA_c _ w253.heap.size w258.heap.size a _ _ 1 hn262 ha263 hl_ha263 (hsm13 (by omega)).2 (by omega)) ?_
  rintro _ w348 ⟨rfl, hn', ha', hwr349⟩
  have hs351 := hwr349.size
  replace E := Ext.wrote E hwr349 (by omega)
  replace hB4 := Blk.wrote hB4 hwr349 (by omega)
  replace hB248 := Blk.wrote hB248 hwr349 (by omega)
  replace Ew := Ext.wrote Ew hwr349 (by omega)
  replace hB272 := Blk.wrote hB272 hwr349 (by omega)
  replace hn288 := OwnRows.wrote hn288 hwr349 (by omega)
  replace ha289 := Own.wrote ha289 hwr349 (by omega)
  replace hB299 := Blk.wrote hB299 hwr349 (by omega)
  clear hn' ha'
  refine Sq.assign .plain rfl rfl ?_
  refine Sq.nil ?_
  refine Eq.next ?_
  refine Cq.seq ?_
  refine Cq.seq ?_
  refine Cq.region ?_
  refine Sq.move .plain rfl rfl ?_
  refine Sq.lss .plain rfl rfl rfl ?_
  refine Sq.isF (by omega) ?_
  refine Sq.move .plain rfl rfl ?_
  refine Sq.loadAgg agg25 (.met rfl rfl rfl) rfl rfl hB299 rfl ?_
  refine Sq.loadAgg agg25 (.met rfl rfl rfl) rfl rfl hB248 rfl ?_
  have hd355 := hB4.lt
  have hd356 := hB248.lt
  have hd357 := hB272.lt
  have hd358 := hB299.lt
  refine Sq.call fn8 (.met rfl rfl rfl) rfl rfl (eqAut_c _ zeroA zeroA _ _ _ _ (OwnRows.rows hn288) (Own.row ha289) (hn240.ext Ew) (ha241.ext Ew) (smx_zero)) ?_
  rintro _ w353 ⟨rfl, e354⟩
  have hs359 := Below.size E
  have hs360 := Below.size Ew
  have hs361 := Below.size e354
  replace E := E.trans e354
  replace hB4 := hB4.ext e354
  replace hB248 := hB248.ext e354
  replace Ew := Ew.trans e354
  replace hB272 := hB272.ext e354
  replace hn288 := hn288.ext e354
  replace ha289 := ha289.ext e354
  replace hB299 := hB299.ext e354
  refine Sq.beT (eqA_refl _) ?_
  refine Sq.notT (.met rfl rfl rfl) rfl rfl ?_
  refine Sq.pickF .plain rfl rfl rfl ?_
  refine Sq.move .plain rfl rfl ?_
  refine Sq.move (.met rfl rfl rfl) rfl rfl ?_
  refine Sq.move (.met rfl rfl rfl) rfl rfl ?_
  refine Sq.neqB und4 (.met rfl rfl rfl) rfl rfl rfl ?_
  refine Sq.pickF .plain rfl rfl rfl ?_
  refine Sq.nil ?_
  refine Eq.next ?_
  refine Cq.els rfl ?_
  refine Cq.skip ?_
  refine Eq.next ?_
  refine Cq.seq ?_
  refine Cq.region ?_
  refine Sq.assign .plain rfl rfl ?_
  refine Sq.nil ?_
  refine Eq.next ?_
  refine Cq.seq ?_
  refine Cq.region ?_
  refine Sq.loadAgg agg25 .plain rfl rfl hB299 rfl ?_
  refine Sq.move .plain rfl rfl ?_
  have hcl := cntA_le smx_zero
  have hcn364 := cntA_nonneg zeroA
  refine Sq.call fn9 .plain rfl rfl (markA_c _ w279.heap.size w284.heap.size zeroA _ _ 1 hn288 ha289 hl_ha289 smx_zero (by omega)) ?_
  rintro _ w362 ⟨rfl, hn', ha', hwr363⟩
  have hs365 := hwr363.size
  replace E := Ext.wrote E hwr363 (by omega)
  replace hB4 := Blk.wrote hB4 hwr363 (by omega)
  replace hB248 := Blk.wrote hB248 hwr363 (by omega)
  replace Ew := Ext.wrote Ew hwr363 (by omega)
  replace hB272 := Blk.wrote hB272 hwr363 (by omega)
  replace hB299 := Blk.wrote hB299 hwr363 (by omega)
  replace hn288 := hn'
  replace ha289 := ha'
  clear hn' ha'
  refine Sq.assign .plain rfl rfl ?_
  refine Sq.nil ?_
  refine Eq.next ?_
  refine Cq.seq ?_
  refine Cq.region ?_
  refine Sq.assign .plain rfl rfl ?_
  refine Sq.nil ?_
  refine Eq.next ?_
  refine Cq.seq ?_
  refine Cq.region ?_
  refine Sq.loadAgg agg25 .plain rfl rfl hB299 rfl ?_
  refine Sq.move .plain rfl rfl ?_
  have hd369 := hB4.lt
  have hd370 := hB248.lt
  have hd371 := hB272.lt
  have hd372 := hB299.lt
  refine Sq.call fn10 .plain rfl rfl (heldA_c _ zeroA _ _ 1 (OwnRows.rows hn288) (Own.row ha289) smx_zero (by omega)) ?_
  rintro _ w367 ⟨rfl, e368⟩
  have hs373 := Below.size E
  have hs374 := Below.size Ew
  have hs375 := Below.size e368
  replace E := E.trans e368
  replace hB4 := hB4.ext e368
  replace hB248 := hB248.ext e368
  replace Ew := Ew.trans e368
  replace hB272 := hB272.ext e368
  replace hn288 := hn288.ext e368
  replace ha289 := ha289.ext e368
  replace hB299 := hB299.ext e368
  refine Sq.assign .plain rfl rfl ?_
  refine Sq.nil ?_
  refine Eq.next ?_
  refine Cq.seq ?_
  refine Cq.seq ?_
  refine Cq.region ?_
  refine Sq.move .plain rfl rfl ?_
  refine Sq.lss .plain rfl rfl rfl ?_
  refine Sq.isF (by omega) ?_
  refine Sq.nil ?_
  refine Eq.next ?_
  refine Cq.els rfl ?_
  refine Cq.skip ?_
  refine Eq.next ?_
  refine Cq.seq ?_
  refine Cq.seq ?_
  refine Cq.region ?_
  refine Sq.move .plain rfl rfl ?_
  refine Sq.move .plain rfl rfl ?_
  refine Sq.neq .plain rfl rfl rfl ?_
  refine Sq.isF (by omega) ?_
  refine Sq.nil ?_
  refine Eq.next ?_
  refine Cq.els rfl ?_
  refine Cq.skip ?_
  refine Eq.next ?_
  refine Cq.seq ?_
  refine Cq.region ?_
  refine Sq.loadAgg agg31 .plain rfl rfl hB4 rfl ?_
  have hd383 := hB4.lt
  have hd384 := hB248.lt
  have hd385 := hB272.lt
  have hd386 := hB299.lt
  refine Sq.call fn13 .plain rfl rfl (toA_c _ a _ _ (hnx.ext E) (hac.ext E) (hsm13 (by omega)).2) ?_
  rintro _ w377 ⟨⟨nx379, ac380, rfl, hn381, ha382⟩, e378⟩
  have hs387 := Below.size E
  have hs388 := Below.size Ew
  have hs389 := Below.size e378
  replace E := E.trans e378
  replace hB4 := hB4.ext e378
  replace hB248 := hB248.ext e378
  replace Ew := Ew.trans e378
  replace hB272 := hB272.ext e378
  replace hn288 := hn288.ext e378
  replace ha289 := ha289.ext e378
  replace hB299 := hB299.ext e378
  have hl_ha382 := Own.low ha382
  have hd397 := hB4.lt
  have hd398 := hB248.lt
  have hd399 := hB272.lt
  have hd400 := hB299.lt
  refine Sq.call fn16 .plain rfl rfl (minAut_c_F _ a _ _ (OwnRows.rows hn381) (Own.row ha382) hC) ?_
  rintro _ w391 ⟨⟨_, rfl, nx393, ac394, rfl, hn395, ha396⟩, e392⟩
  have hs401 := Below.size E
  have hs402 := Below.size Ew
  have hs403 := Below.size e392
  replace E := E.trans e392
  replace hB4 := hB4.ext e392
  replace hB248 := hB248.ext e392
  replace Ew := Ew.trans e392
  replace hB272 := hB272.ext e392
  replace hn288 := hn288.ext e392
  replace ha289 := ha289.ext e392
  replace hB299 := hB299.ext e392
  have hl_ha396 := Own.low ha396
  refine Sq.move .plain rfl rfl ?_
  refine Sq.extract .plain rfl rfl rfl ?_
  refine Sq.extract .plain rfl rfl rfl ?_
  refine Sq.alloc zero25 .plain rfl (fun b404 w405 e406 hB407 hlo408 => ?_)
  have hd409 := Nat.le_trans (Below.size E) hlo408
  have hd410 := Nat.lt_of_lt_of_le hB4.lt hlo408
  have hd411 := Nat.lt_of_lt_of_le hB248.lt hlo408
  have hd412 := Nat.le_trans (Below.size Ew) hlo408
  have hd413 := Nat.lt_of_lt_of_le hB272.lt hlo408
  have hd414 := Nat.lt_of_lt_of_le hB299.lt hlo408
  have hs415 := Below.size e406
  replace E := E.trans e406
  replace hB4 := hB4.ext e406
  replace hB248 := hB248.ext e406
  replace Ew := Ew.trans e406
  replace hB272 := hB272.ext e406
  replace hn288 := hn288.ext e406
  replace ha289 := ha289.ext e406
  replace hB299 := hB299.ext e406
  replace hn395 := hn395.ext e406
  replace ha396 := ha396.ext e406
  refine Sq.storeAgg agg25 .plain rfl rfl (one_cons rfl (one_cons (Rows.one (OwnRows.rows hn395)) (one_cons (Row.one (Own.row ha396)) one_nil))) hB407 rfl rfl (fun w416 g417 hB418 => ?_)
  have hs419 := World.grownBy.size g417
  replace E := E.grown g417 (fun k hk => by injection hk with hk; subst hk; omega)
  replace hB4 := hB4.grown g417 (by intro h; injection h with h; omega)
  replace hB248 := hB248.grown g417 (by intro h; injection h with h; omega)
  replace Ew := Ew.grown g417 (fun k hk => by injection hk with hk; subst hk; omega)
  replace hB272 := hB272.grown g417 (by intro h; injection h with h; omega)
  replace hn288 := hn288.stored g417 hB407 (by decide) (by decide)
  replace ha289 := ha289.stored g417 hB407 (by decide)
  replace hB299 := hB299.grown g417 (by intro h; injection h with h; omega)
  replace hn395 := hn395.stored g417 hB407 (by decide) (by decide)
  replace ha396 := ha396.stored g417 hB407 (by decide)
  replace hB407 := hB418
  refine Sq.assign .plain rfl rfl ?_
  refine Sq.nil ?_
  refine Eq.next ?_
  refine Cq.seq ?_
  refine Cq.seq ?_
  refine Cq.region ?_
  refine Sq.loadAgg agg25 .plain rfl rfl hB407 rfl ?_
  refine Sq.loadAgg agg25 .plain rfl rfl hB248 rfl ?_
  have hd423 := hB4.lt
  have hd424 := hB248.lt
  have hd425 := hB272.lt
  have hd426 := hB299.lt
  have hd427 := hB407.lt
  refine Sq.call fn8 .plain rfl rfl (eqAut_c _ zeroA zeroA _ _ _ _ (OwnRows.rows hn395) (Own.row ha396) (hn240.ext Ew) (ha241.ext Ew) (smx_zero)) ?_
  rintro _ w421 ⟨rfl, e422⟩
  have hs428 := Below.size E
  have hs429 := Below.size Ew
  have hs430 := Below.size e422
  replace E := E.trans e422
  replace hB4 := hB4.ext e422
  replace hB248 := hB248.ext e422
  replace Ew := Ew.trans e422
  replace hB272 := hB272.ext e422
  replace hn288 := hn288.ext e422
  replace ha289 := ha289.ext e422
  replace hB299 := hB299.ext e422
  replace hB407 := hB407.ext e422
  refine Sq.beT (eqA_refl _) ?_
  refine Sq.notT .plain rfl rfl ?_
  refine Sq.move .plain rfl rfl ?_
  refine Sq.move (.met rfl rfl rfl) rfl rfl ?_
  refine Sq.move (.met rfl rfl rfl) rfl rfl ?_
  refine Sq.neqB und4 (.met rfl rfl rfl) rfl rfl rfl ?_
  refine Sq.pickF .plain rfl rfl rfl ?_
  refine Sq.nil ?_
  refine Eq.next ?_
  refine Cq.els rfl ?_
  refine Cq.skip ?_
  refine Eq.next ?_
  refine Cq.seq ?_
  refine Cq.region ?_
  refine Sq.assign .plain rfl rfl ?_
  refine Sq.nil ?_
  refine Eq.next ?_
  refine Cq.seq ?_
  refine Cq.region ?_
  refine Sq.loadAgg agg25 .plain rfl rfl hB299 rfl ?_
  refine Sq.move .plain rfl rfl ?_
  have hd434 := hB4.lt
  have hd435 := hB248.lt
  have hd436 := hB272.lt
  have hd437 := hB299.lt
  have hd438 := hB407.lt
  refine Sq.call fn10 .plain rfl rfl (heldA_c _ zeroA _ _ 1 (OwnRows.rows hn288) (Own.row ha289) smx_zero (by omega)) ?_
  rintro _ w432 ⟨rfl, e433⟩
  have hs439 := Below.size E
  have hs440 := Below.size Ew
  have hs441 := Below.size e433
  replace E := E.trans e433
  refine Sq.assign .plain rfl rfl ?_
  refine Sq.nil ?_
  refine Eq.next ?_
  refine Cq.seq ?_
  refine Cq.seq ?_
  refine Cq.region ?_
  refine Sq.move .plain rfl rfl ?_
  refine Sq.lss .plain rfl rfl rfl ?_
  refine Sq.isF (by omega) ?_
  refine Sq.nil ?_
  refine Eq.next ?_
  refine Cq.els rfl ?_
  refine Cq.skip ?_
  refine Eq.next ?_
  refine Cq.seq ?_
  refine Cq.seq ?_
  refine Cq.region ?_
  refine Sq.move .plain rfl rfl ?_
  refine Sq.move .plain rfl rfl ?_
  refine Sq.neq .plain rfl rfl rfl ?_
  refine Sq.isF (by omega) ?_
  refine Sq.nil ?_
  refine Eq.next ?_
  refine Cq.els rfl ?_
  refine Cq.skip ?_
  refine Eq.next ?_
  refine Cq.seq ?_
  refine Cq.region ?_
  refine Sq.assign .plain rfl rfl ?_
  refine Sq.nil ?_
  refine Eq.next ?_
  refine Cq.ret ?_
  refine Eq.ret1 rfl rfl ?_
  exact ⟨rfl, E⟩
end Go.Proofs.YtnckpafknojdhaaDoor
