/-
  The texts of this proof, joined (wip/merge.py): the calculus of slots, plain mathematics, walks.
-/
import Derived.Test.YtdkdpmmfebdeaaaDoorGb2
set_option linter.unusedSimpArgs false
set_option linter.unusedVariables false
namespace Go.Proofs.YtdkdpmmfebdeaaaDoor
open Go.RowKit
set_option maxRecDepth 100000 in
theorem l5Minimal_c (w0 : World) (a : A) (nx ac : Value) (hnx : Rows w0 27 3 nx a.next) (hac : Bools w0 4 ac a.acc) (hv0 : validA a = true) : Ret Tryd.prog 28 #[Value.agg #[Value.int .i64 a.al, nx, ac]] w0 (fun v w => OwnA w w0.heap.size v (minS a) ∧ Ext w0 w) := by
  have E := Ext.refl w0
  have hv := hv0
  refine Ret.of (args := [Value.agg #[Value.int .i64 a.al, nx, ac]]) Tryd.func28 rfl rfl rfl ?_
  rintro _ rfl
  show Cq _ _ _ _ [(0, Value.agg #[Value.int .i64 a.al, nx, ac])] _
  refine Cq.seq ?_
  refine Cq.region ?_
  refine Sq.box .plain rfl rfl (fun b1 w2 e3 hB4 hlo5 => ?_)
  have hd6 := Nat.le_trans (Below.size E) hlo5
  have hs7 := Below.size e3
  replace E := E.trans e3
  refine Sq.alloc zero29 .plain rfl (fun b8 w9 e10 hB11 hlo12 => ?_)
  have hd13 := Nat.le_trans (Below.size E) hlo12
  have hd14 := Nat.lt_of_lt_of_le hB4.lt hlo12
  have hs15 := Below.size e10
  replace E := E.trans e10
  replace hB4 := hB4.ext e10
  refine Sq.nil ?_
  refine Eq.next ?_
  refine Cq.seq ?_
  refine Cq.region ?_
  refine Sq.loadAgg agg29 .plain rfl rfl hB4 rfl ?_
  have hd23 := hB4.lt
  have hd24 := hB11.lt
  refine Sq.call fn39 .plain rfl rfl (l5Trim_c _ a _ _ (hnx.ext E) (hac.ext E) hv0) ?_
  rintro _ w17 ⟨⟨nx19, ac20, rfl, hn21, ha22⟩, e18⟩
  have hs25 := Below.size E
  have hs26 := Below.size e18
  replace E := E.trans e18
  replace hB4 := hB4.ext e18
  replace hB11 := hB11.ext e18
  refine Sq.alloc zero29 .plain rfl (fun b27 w28 e29 hB30 hlo31 => ?_)
  have hd32 := Nat.le_trans (Below.size E) hlo31
  have hd33 := Nat.lt_of_lt_of_le hB4.lt hlo31
  have hd34 := Nat.lt_of_lt_of_le hB11.lt hlo31
  have hs35 := Below.size e29
  replace E := E.trans e29
  replace hB4 := hB4.ext e29
  replace hB11 := hB11.ext e29
  replace hn21 := hn21.ext e29
  replace ha22 := ha22.ext e29
  refine Sq.storeAgg agg29 .plain rfl rfl (one_cons rfl (one_cons (Rows.one (OwnRows.rows hn21)) (one_cons (Row.one (Own.row ha22)) one_nil))) hB30 rfl rfl (fun w36 g37 hB38 => ?_)
  have hs39 := World.grownBy.size g37
  replace E := E.grown g37 (fun k hk => by injection hk with hk; subst hk; omega)
  replace hB4 := hB4.grown g37 (by intro h; injection h with h; omega)
  replace hB11 := hB11.grown g37 (by intro h; injection h with h; omega)
  replace hn21 := hn21.stored g37 hB30 (by decide) (by decide)
  replace ha22 := ha22.stored g37 hB30 (by decide)
  replace hB30 := hB38
  refine Sq.nil ?_
  refine Eq.next ?_
  refine Cq.seq ?_
  refine Cq.region ?_
  replace hv := trim_valid hv0
  have hvs := validA_spec.1 hv
  have hv1 := hvs.2.1
  have hv2 := hvs.2.2.1
  have hcl := classes_length hv
  have hnc := nCls_le hv
  have hl6 := letters_len6 (trim a).al
  refine Sq.loadAgg agg29 .plain rfl rfl hB30 rfl ?_
  have hd45 := hB4.lt
  have hd46 := hB11.lt
  have hd47 := hB30.lt
  refine Sq.call fn19 .plain rfl rfl (l5Classes_c _ (trim a) _ _ (OwnRows.rows hn21) (Own.row ha22) hv) ?_
  rintro _ w41 ⟨⟨nv43, rfl, hl44⟩, e42⟩
  have hs48 := Below.size E
  have hs49 := Below.size e42
  replace E := E.trans e42
  replace hB4 := hB4.ext e42
  replace hB11 := hB11.ext e42
  replace hn21 := hn21.ext e42
  replace ha22 := ha22.ext e42
  replace hB30 := hB30.ext e42
  refine Sq.move .plain rfl rfl ?_
  refine Sq.extract .plain rfl rfl rfl ?_
  refine Sq.extract .plain rfl rfl rfl ?_
  refine Sq.assign .plain rfl rfl ?_
  refine Sq.assign .plain rfl rfl ?_
  refine Sq.nil ?_
  refine Eq.next ?_
  refine Cq.seq ?_
  refine Cq.region ?_
  replace hn21 := OwnRows.rows hn21
  replace ha22 := Own.row ha22
  replace hl44 := Own.row hl44
  have Ew := Ext.refl w41
  refine Sq.fieldAddr fld29_0 .plain rfl rfl ?_
  refine Sq.loadB one3 .plain rfl rfl hB4 rfl ?_
  refine Sq.build st29 rfl rfl .plain rfl rfl (one_cons rfl one_nil) rfl ?_
  refine Sq.alloc zero29 .plain rfl (fun b50 w51 e52 hB53 hlo54 => ?_)
  have hd55 := Nat.le_trans (Below.size E) hlo54
  have hd56 := Nat.lt_of_lt_of_le hB4.lt hlo54
  have hd57 := Nat.lt_of_lt_of_le hB11.lt hlo54
  have hd58 := Nat.lt_of_lt_of_le hB30.lt hlo54
  have hd59 := Nat.le_trans (Below.size Ew) hlo54
  have hs60 := Below.size e52
  replace E := E.trans e52
  replace hB4 := hB4.ext e52
  replace hB11 := hB11.ext e52
  replace hB30 := hB30.ext e52
  replace Ew := Ew.trans e52
  refine Sq.storeAgg agg29 .plain rfl rfl (one_cons rfl (one_cons rfl (one_cons rfl one_nil))) hB53 rfl rfl (fun w61 g62 hB63 => ?_)
  have hs64 := World.grownBy.size g62
  replace E := E.grown g62 (fun k hk => by injection hk with hk; subst hk; omega)
  replace hB4 := hB4.grown g62 (by intro h; injection h with h; omega)
  replace hB11 := hB11.grown g62 (by intro h; injection h with h; omega)
  replace hB30 := hB30.grown g62 (by intro h; injection h with h; omega)
  replace Ew := Ew.grown g62 (fun k hk => by injection hk with hk; subst hk; omega)
  replace hB53 := hB63
  refine Sq.nil ?_
  refine Eq.next ?_
  refine Cq.seq ?_
  refine Cq.seq ?_
  refine Cq.region ?_
  refine Sq.assign .plain rfl rfl ?_
  refine Sq.nil ?_
  refine Eq.next ?_
  refine Cq.block ?_
  refine Cq.loop (fun nn w ls => ∃ (c : Int), ∃ (nxv : Value), ∃ (acv : Value), ∃ (xss : List (List Int)), ∃ (ys : List Bool), ls = [(1, Value.pointer (some ⟨b1, 0, none⟩)), (2, Value.pointer (some ⟨b8, 0, none⟩)), (3, Value.pointer (some ⟨b27, 0, none⟩)), (4, nv43), (5, Value.int .i64 ((nCls (trim a) : Int))), (6, Value.pointer (some ⟨b50, 0, none⟩)), (7, Value.int .i64 c)] ∧ (0 ≤ c ∧ c ≤ nCls (trim a)) ∧ Blk w b50 29 [Value.int .i64 a.al, nxv, acv] ∧ OwnRows w w41.heap.size w.heap.size 27 3 nxv xss ∧ Own w w41.heap.size 4 acv (ys.map Value.bool) ∧ xss = (qRows (trim a) c.toNat) ∧ ys = (qAccs (trim a) c.toNat) ∧ Ext w0 w ∧ Ext w41 w ∧ Blk w b1 29 [Value.int .i64 a.al, nx, ac] ∧ Blk w b8 29 [Value.int .i64 0, Value.slice none 0 0, Value.slice none 0 0] ∧ Blk w b27 29 [Value.int .i64 ((trim a).al), nx19, ac20] ∧ nn = ((nCls (trim a) : Int) - c).toNat) _ _ ⟨0, _, _, [], [], rfl, by omega, hB53, OwnRows.nil _ _ _ _ _, Own.nil _ _ _, rfl, rfl, E, Ew, hB4, hB11, hB30, rfl⟩ (.cons rfl (.cons rfl (.cons rfl (.cons rfl (.cons rfl (.cons rfl (.cons rfl (.nil)))))))) ?_
  rintro nn wl1 ls ⟨c, nxv, acv, xss, ys, rfl, hc, hBr, hor, hoa, hxs, hys, E, Ew, hB4, hB11, hB30, rfl⟩
  have hs65 := Below.size E
  have hs66 := Below.size Ew
  have hxl : xss.length = c.toNat := by rw [hxs]; exact qRows_length _
  have hyl : ys.length = c.toNat := by rw [hys]; exact qAccs_length _
  refine Cq.seq ?_
  refine Cq.seq ?_
  refine Cq.region ?_
  refine Sq.move .plain rfl rfl ?_
  refine Sq.move .plain rfl rfl ?_
  refine Sq.lss .plain rfl rfl rfl ?_
  refine Sq.part (fun c67 => ?_) (fun c67 => ?_)
  · refine Sq.nil ?_
    refine Eq.next ?_
    refine Cq.thn rfl ?_
    refine Cq.skip ?_
    refine Eq.next ?_
    refine Cq.seq ?_
    refine Cq.block ?_
    refine Cq.seq ?_
    refine Cq.region ?_
    obtain ⟨hcm, q, hqe, hqb, hqc⟩ := rep_get hv (c := c) (by omega)
    refine Sq.move .plain rfl rfl ?_
    refine Sq.move .plain rfl rfl ?_
    refine Sq.call fn40 .plain rfl rfl (l5Index_c _ ((classes (trim a))) _ (hl44.ext Ew) c (by omega) (hcm)) ?_
    rintro _ _ ⟨rfl, rfl⟩
    rw [hqe]
    refine Sq.assign .plain rfl rfl ?_
    refine Sq.nil ?_
    refine Eq.next ?_
    refine Cq.seq ?_
    refine Cq.region ?_
    refine Sq.lit sl27 rfl rfl .plain rfl rfl one_nil (fun b68 w69 e70 hlo71 ho72 _ => ?_)
    replace ho72 := ho72 wl1.heap.size (Nat.le_refl _)
    have hs74 := Below.size e70
    replace E := E.trans e70
    replace Ew := Ew.trans e70
    replace hB4 := hB4.ext e70
    replace hB11 := hB11.ext e70
    replace hB30 := hB30.ext e70
    replace hBr := hBr.ext e70
    replace hor := hor.ext e70
    replace hoa := hoa.ext e70
    refine Sq.assign .plain rfl rfl ?_
    refine Sq.nil ?_
    refine Eq.next ?_
    refine Cq.seq ?_
    refine Cq.seq ?_
    refine Cq.region ?_
    refine Sq.assign .plain rfl rfl ?_
    refine Sq.nil ?_
    refine Eq.next ?_
    refine Cq.block ?_
    have hvr := valid_row hv (k := q.toNat) (by omega)
    refine Cq.loop (fun nn w ls => ∃ (k : Int), ∃ (rv : Value), ∃ (row : List Int), ls = [(1, Value.pointer (some ⟨b1, 0, none⟩)), (2, Value.pointer (some ⟨b8, 0, none⟩)), (3, Value.pointer (some ⟨b27, 0, none⟩)), (4, nv43), (5, Value.int .i64 ((nCls (trim a) : Int))), (6, Value.pointer (some ⟨b50, 0, none⟩)), (7, Value.int .i64 c), (8, Value.int .i64 q), (9, rv), (10, Value.int .i64 k)] ∧ (0 ≤ k ∧ k ≤ ((trim a).next.getD q.toNat []).length) ∧ wl1.heap.size ≤ w.heap.size ∧ Own w wl1.heap.size 3 rv (row.map (Value.int .i64)) ∧ row = rowQTo (trim a) (classes (trim a)) q.toNat k.toNat ∧ Ext w0 w ∧ Ext w41 w ∧ Blk w b1 29 [Value.int .i64 a.al, nx, ac] ∧ Blk w b8 29 [Value.int .i64 0, Value.slice none 0 0, Value.slice none 0 0] ∧ Blk w b27 29 [Value.int .i64 ((trim a).al), nx19, ac20] ∧ Blk w b50 29 [Value.int .i64 a.al, nxv, acv] ∧ OwnRows w w41.heap.size wl1.heap.size 27 3 nxv xss ∧ Own w w41.heap.size 4 acv (ys.map Value.bool) ∧ nn = ((((trim a).next.getD q.toNat []).length : Int) - k).toNat) _ _ ⟨0, _, [], rfl, by omega, by omega, Own.mono ho72 (by omega), rfl, E, Ew, hB4, hB11, hB30, hBr, hor, hoa, rfl⟩ (.cons rfl (.cons rfl (.cons rfl (.cons rfl (.cons rfl (.cons rfl (.cons rfl (.cons rfl (.cons rfl (.cons rfl (.nil))))))))))) ?_
    rintro nn wl2 ls ⟨k, rv, row, rfl, hk, hsz, hro, hrow, E, Ew, hB4, hB11, hB30, hBr, hor, hoa, rfl⟩
    have hs75 := Below.size E
    have hs76 := Below.size Ew
    have hrl : row.length ≤ 6 := by rw [hrow]; exact rowQTo_len hv _ (by omega) _
    have hvt := valid_at hv (k := q.toNat) (j := k.toNat)
    refine Cq.seq ?_
    refine Cq.seq ?_
    refine Cq.region ?_
    refine Sq.move .plain rfl rfl ?_
    refine Sq.fieldAddr fld29_1 .plain rfl rfl ?_
    refine Sq.loadB one22 .plain rfl rfl hB30 rfl ?_
    refine Sq.move .plain rfl rfl ?_
    refine Sq.idxRows sl22 one27 (hn21.ext Ew) .plain rfl rfl rfl .plain rfl rfl (by omega) (by omega) (fun r77 hr78 => ?_)
    refine Sq.lenInts hr78 .plain rfl und27 rfl ?_
    refine Sq.lss .plain rfl rfl rfl ?_
    refine Sq.part (fun c79 => ?_) (fun c79 => ?_)
    · refine Sq.nil ?_
      refine Eq.next ?_
      refine Cq.thn rfl ?_
      refine Cq.skip ?_
      refine Eq.next ?_
      refine Cq.seq ?_
      refine Cq.block ?_
      refine Cq.region ?_
      refine Sq.move .plain rfl rfl ?_
      refine Sq.move .plain rfl rfl ?_
      refine Sq.fieldAddr fld29_1 .plain rfl rfl ?_
      refine Sq.loadB one22 .plain rfl rfl hB30 rfl ?_
      refine Sq.move .plain rfl rfl ?_
      refine Sq.idxRows sl22 one27 (hn21.ext Ew) .plain rfl rfl rfl .plain rfl rfl (by omega) (by omega) (fun r80 hr81 => ?_)
      refine Sq.move .plain rfl rfl ?_
      refine Sq.idxInts sl27 one3 hr81 .plain rfl rfl rfl .plain rfl rfl (by omega) (by omega) ?_
      refine Sq.idxInts sl27 one3 (hl44.ext Ew) .plain rfl rfl rfl .plain rfl rfl (by have := hvt (by omega) (by omega); omega) (by have := hvt (by omega) (by omega); omega) ?_
      refine Sq.app1 sl27 hro (by omega) (by first | omega | (simp; omega)) .plain rfl rfl rfl rfl rfl rfl rfl (fun v82 w83 ho85 g84 _ => ?_)
      have hs86 := g84.size
      replace E := E.owned hro g84 (by omega)
      replace Ew := Ew.owned hro g84 (by omega)
      replace hB4 := hB4.owned hro g84 (by decide)
      replace hB11 := hB11.owned hro g84 (by decide)
      replace hB30 := hB30.owned hro g84 (by decide)
      replace hBr := hBr.owned hro g84 (by decide)
      replace hor := hor.apart hro g84 (by omega) (by decide)
      replace hoa := hoa.owned hro g84 (by decide)
      refine Sq.assign .plain rfl rfl ?_
      refine Sq.nil ?_
      refine Eq.end ?_
      refine Eq.next ?_
      refine Cq.region ?_
      refine Sq.move .plain rfl rfl ?_
      refine Sq.add .plain rfl rfl rfl (by omega) ?_
      refine Sq.assign .plain rfl rfl ?_
      refine Sq.nil ?_
      have e2 := toNat_succ hk.1
      refine Eq.round _ _ ⟨k + 1, _, _, rfl, by omega, by omega, Own.snocI ho85, by rw [e2, rowQTo_succ (by omega), ← hrow], E, Ew, hB4, hB11, hB30, hBr, hor, hoa, rfl⟩ (by omega) (.cons rfl (.cons rfl (.cons rfl (.cons rfl (.cons rfl (.cons rfl (.cons rfl (.cons rfl (.cons rfl (.cons rfl (.nil)))))))))))
    refine Sq.nil ?_
    refine Eq.next ?_
    refine Cq.els rfl ?_
    refine Cq.exit ?_
    refine Eq.past ?_
    refine Eq.past ?_
    refine Eq.hit ?_
    refine Eq.next ?_
    refine Cq.seq ?_
    refine Cq.region ?_
    refine Sq.fieldAddr fld29_1 .plain rfl rfl ?_
    refine Sq.loadB one22 .plain rfl rfl hBr rfl ?_
    refine Sq.move .plain rfl rfl ?_
    obtain ⟨rs91, q92, q93, q94⟩ := OwnRows.open hor (by decide)
    have q94x := Ext.refl wl2
    refine Sq.app1 sl22 q92 (by omega) (by rw [q93]; first | omega | (simp; omega)) .plain rfl rfl rfl rfl rfl rfl (Row.one (Own.row hro)) (fun v87 w88 ho90 g89 _ => ?_)
    have hs95 := g89.size
    have ho90r := q94 _ row _ _ _ (Ext.refl _) (Own.mono hro (by omega)) (by omega) ho90 g89
    replace E := E.owned q92 g89 (by omega)
    replace Ew := Ew.owned q92 g89 (by omega)
    replace hB4 := hB4.owned q92 g89 (by decide)
    replace hB11 := hB11.owned q92 g89 (by decide)
    replace hB30 := hB30.owned q92 g89 (by decide)
    replace hBr := hBr.owned q92 g89 (by decide)
    replace hoa := hoa.owned q92 g89 (by decide)
    refine Sq.fieldAddr fld29_1 .plain rfl rfl ?_
    refine Sq.store one22 .plain rfl rfl (Rows.one (OwnRows.rows ho90r)) hBr (by simp) (fun w96 g97 hB98 => ?_)
    have hs99 := World.grownBy.size g97
    replace E := E.grown g97 (fun k hk => by injection hk with hk; subst hk; omega)
    replace Ew := Ew.grown g97 (fun k hk => by injection hk with hk; subst hk; omega)
    replace hB4 := hB4.grown g97 (by intro h; injection h with h; omega)
    replace hB11 := hB11.grown g97 (by intro h; injection h with h; omega)
    replace hB30 := hB30.grown g97 (by intro h; injection h with h; omega)
    replace hoa := hoa.stored g97 hBr (by decide)
    replace ho90r := ho90r.stored g97 hBr (by decide) (by decide)
    replace hBr := hB98
    refine Sq.nil ?_
    refine Eq.next ?_
    refine Cq.drawS 9 (fun w' => Blk w' b27 29 [Value.int .i64 ((trim a).al), nx19, ac20] ∧ Blk w' b50 29 [Value.int .i64 a.al, v87, acv] ∧ Ext w41 w') mixed (⟨hB30, hBr, Ew⟩) (fun w100 e101 hS => ?_)
    clear hS
    have hs102 := Below.size e101
    replace E := E.trans e101
    replace Ew := Ew.trans e101
    replace hB4 := hB4.ext e101
    replace hB11 := hB11.ext e101
    replace hB30 := hB30.ext e101
    replace hBr := hBr.ext e101
    replace hoa := hoa.ext e101
    replace ho90r := ho90r.ext e101
    refine Gq.st 0 rfl (by kernel_rfl) rfl .plain rfl (fun _ _ _ h => h) ⟨hB30, hBr, Ew⟩ (fun w' x => Still.fieldAddr fld29_2 rfl) ?_
    refine Gq.st 1 rfl (by kernel_rfl) rfl .plain rfl (fun _ _ _ h => h) ⟨hB30, hBr, Ew⟩ (fun w' x => Still.loadB one23 rfl x.2.1 rfl) ?_
    refine Gq.st 2 rfl (by kernel_rfl) rfl .plain rfl (fun _ _ _ h => h) ⟨hB30, hBr, Ew⟩ (fun w' x => Still.fieldAddr fld29_2 rfl) ?_
    refine Gq.st 3 rfl (by kernel_rfl) rfl .plain rfl (fun _ _ _ h => h) ⟨hB30, hBr, Ew⟩ (fun w' x => Still.loadB one23 rfl x.1 rfl) ?_
    refine Gq.st 4 rfl (by kernel_rfl) rfl .plain rfl (fun _ _ _ h => h) ⟨hB30, hBr, Ew⟩ (fun w' x => Still.move rfl) ?_
    obtain ⟨p103, hp104_w100⟩ := Bools.at ha22 (i := q) (by omega) (by omega)
    refine Gq.st 5 rfl (by kernel_rfl) rfl .plain rfl (fun _ _ _ h => h) ⟨hB30, hBr, Ew⟩ (fun w' x => Still.at' sl23 hp104_w100 rfl rfl) ?_
    refine Gq.st 6 rfl (by kernel_rfl) rfl .plain rfl (fun _ _ _ h => h) ⟨hB30, hBr, Ew⟩ (fun w' x => Still.loadA one4 rfl (hp104_w100.ext (x.2.2)).1) ?_
    refine Gq.one 7 rfl (by kernel_rfl) ?_
    refine Sq.lit sl23 rfl rfl .plain rfl rfl (one_cons rfl one_nil) (fun b105 w106 e107 hlo108 ho109 _ => ?_)
    replace ho109 := ho109 w100.heap.size (Nat.le_refl _)
    have hs111 := Below.size e107
    replace E := E.trans e107
    replace Ew := Ew.trans e107
    replace hB4 := hB4.ext e107
    replace hB11 := hB11.ext e107
    replace hB30 := hB30.ext e107
    replace hBr := hBr.ext e107
    replace hoa := hoa.ext e107
    replace ho90r := ho90r.ext e107
    refine Sq.nil ?_
    refine Eq.goes (fun _ => ⟨hB30, hBr, Ew⟩) ?_
    refine Gq.one 8 rfl (by kernel_rfl) ?_
    refine Sq.app sl23 hoa (by omega) (Own.row ho109) (one_cons rfl one_nil) (by first | omega | (simp; omega)) .plain rfl rfl rfl rfl (fun v112 w113 ho115 g114 => ?_)
    have hs116 := g114.size
    replace E := E.owned hoa g114 (by omega)
    replace Ew := Ew.owned hoa g114 (by omega)
    replace hB4 := hB4.owned hoa g114 (by decide)
    replace hB11 := hB11.owned hoa g114 (by decide)
    replace hB30 := hB30.owned hoa g114 (by decide)
    replace hBr := hBr.owned hoa g114 (by decide)
    replace ho90r := ho90r.owned hoa g114 (by decide) (by decide)
    refine Sq.nil ?_
    refine Eq.goes (fun _ => ⟨hB30, hBr, Ew⟩) ?_
    refine Gq.one 9 rfl (by kernel_rfl) ?_
    refine Sq.fieldAddr fld29_2 .plain rfl rfl ?_
    refine Sq.nil ?_
    refine Eq.goes (fun h => absurd h (by decide)) ?_
    refine Gq.one 10 rfl (by kernel_rfl) ?_
    refine Sq.store one23 .plain rfl rfl (Row.one (Own.row ho115)) hBr (by simp) (fun w117 g118 hB119 => ?_)
    have hs120 := World.grownBy.size g118
    replace E := E.grown g118 (fun k hk => by injection hk with hk; subst hk; omega)
    replace Ew := Ew.grown g118 (fun k hk => by injection hk with hk; subst hk; omega)
    replace hB4 := hB4.grown g118 (by intro h; injection h with h; omega)
    replace hB11 := hB11.grown g118 (by intro h; injection h with h; omega)
    replace hB30 := hB30.grown g118 (by intro h; injection h with h; omega)
    replace ho90r := ho90r.stored g118 hBr (by decide) (by decide)
    replace ho115 := ho115.stored g118 hBr (by decide)
    replace hBr := hB119
    refine Sq.nil ?_
    refine Eq.goes (fun h => absurd h (by decide)) ?_
    refine Gq.done (by kernel_rfl) ?_
    refine Eq.end ?_
    refine Eq.next ?_
    refine Cq.region ?_
    refine Sq.move .plain rfl rfl ?_
    refine Sq.add .plain rfl rfl rfl (by omega) ?_
    refine Sq.assign .plain rfl rfl ?_
    refine Sq.nil ?_
    have e1 := toNat_succ hc.1
    refine Eq.round _ _ ⟨c + 1, _, _, _, _, rfl, by omega, hBr, OwnRows.now ho90r, Own.snocB ho115, by rw [e1, qRows_succ, ← hqc, ← rowQTo_done (j := k.toNat) (by omega), ← hrow, ← hxs], by rw [e1, qAccs_succ, ← hqc, ← hys], E, Ew, hB4, hB11, hB30, rfl⟩ (by omega) (.cons rfl (.cons rfl (.cons rfl (.cons rfl (.cons rfl (.cons rfl (.cons rfl (.nil))))))))
  refine Sq.nil ?_
  refine Eq.next ?_
  refine Cq.els rfl ?_
  refine Cq.exit ?_
  refine Eq.past ?_
  refine Eq.past ?_
  refine Eq.hit ?_
  refine Eq.next ?_
  refine Cq.seq ?_
  refine Cq.region ?_
  refine Sq.loadAgg agg29 .plain rfl rfl hBr rfl ?_
  refine Sq.storeAgg agg29 .plain rfl rfl (one_cons rfl (one_cons (Rows.one (OwnRows.rows hor)) (one_cons (Row.one (Own.row hoa)) one_nil))) hB11 rfl rfl (fun w121 g122 hB123 => ?_)
  have hs124 := World.grownBy.size g122
  replace E := E.grown g122 (fun k hk => by injection hk with hk; subst hk; omega)
  replace hor := hor.stored g122 hB11 (by decide) (by decide)
  replace hoa := hoa.stored g122 hB11 (by decide)
  replace hB11 := hB123
  refine Sq.nil ?_
  refine Eq.next ?_
  refine Cq.ret ?_
  refine Eq.retCell rfl rfl agg29 hB11 rfl ?_
  have hnn : c.toNat = nCls (trim a) := by omega
  rw [hxs, hnn, qRows_all hv] at hor
  rw [hys, hnn, qAccs_all hv] at hoa
  exact ⟨⟨_, _, rfl, OwnRows.now (OwnRows.mono hor (by omega)), Own.mono hoa (by omega)⟩, E⟩
set_option maxRecDepth 100000 in
theorem sIsMin_c (w0 : World) (a : A) (nx ac : Value) (hnx : Rows w0 27 3 nx a.next) (hac : Bools w0 4 ac a.acc) : Ret Tryd.prog 14 #[Value.agg #[Value.int .i64 a.al, nx, ac]] w0 (fun v w => v = .bool (isMinA a) ∧ Ext w0 w) := by
  have E := Ext.refl w0
  refine Ret.of (args := [Value.agg #[Value.int .i64 a.al, nx, ac]]) Tryd.func14 rfl rfl rfl ?_
  rintro _ rfl
  show Cq _ _ _ _ [(0, Value.agg #[Value.int .i64 a.al, nx, ac])] _
  refine Cq.seq ?_
  refine Cq.region ?_
  refine Sq.box .plain rfl rfl (fun b1 w2 e3 hB4 hlo5 => ?_)
  have hd6 := Nat.le_trans (Below.size E) hlo5
  have hs7 := Below.size e3
  replace E := E.trans e3
  refine Sq.assign .plain rfl rfl ?_
  refine Sq.nil ?_
  refine Eq.next ?_
  refine Cq.seq ?_
  refine Cq.drawS 12 (fun w' => Blk w' b1 29 [Value.int .i64 a.al, nx, ac]) mixed (hB4) (fun w8 e9 hS => ?_)
  clear hS
  have hs10 := Below.size e9
  replace E := E.trans e9
  replace hB4 := hB4.ext e9
  refine Gq.st 0 rfl (by kernel_rfl) rfl .plain rfl (fun _ _ _ h => h) hB4 (fun w' x => Still.loadAgg agg29 rfl x rfl) ?_
  refine Gq.one 1 rfl (by kernel_rfl) ?_
  have hd14 := hB4.lt
  refine Sq.call fn18 .plain rfl rfl (sValid_c _ a _ _ (hnx.ext E) (hac.ext E)) ?_
  rintro _ w12 ⟨rfl, e13⟩
  have hs15 := Below.size E
  have hs16 := Below.size e13
  replace E := E.trans e13
  replace hB4 := hB4.ext e13
  refine Sq.partB (fun hv => ?_) (fun hv => ?_)
  · refine Sq.nil ?_
    refine Eq.goes (fun _ => hB4) ?_
    refine Gq.st 2 rfl (by kernel_rfl) rfl .plain rfl (fun _ _ _ h => h) hB4 (fun w' x => Still.move rfl) ?_
    refine Gq.st 3 rfl (by kernel_rfl) rfl (.met rfl rfl rfl) rfl (fun _ _ _ h => h) hB4 (fun w' x => Still.loadAgg agg29 rfl x rfl) ?_
    refine Gq.st 7 rfl (by kernel_rfl) rfl (.met rfl rfl rfl) rfl (fun _ _ _ h => h) hB4 (fun w' x => Still.fieldAddr fld29_1 rfl) ?_
    refine Gq.st 8 rfl (by kernel_rfl) rfl (.met rfl rfl rfl) rfl (fun _ _ _ h => h) hB4 (fun w' x => Still.loadB one22 rfl x rfl) ?_
    refine Gq.two 4 9 rfl rfl (by kernel_rfl) ?_ ?_
    · have hd24 := hB4.lt
      refine Sq.call fn28 (.met rfl rfl rfl) rfl rfl (l5Minimal_c _ a _ _ (hnx.ext E) (hac.ext E) hv) ?_
      rintro _ w18 ⟨⟨nx20, ac21, rfl, hn22, ha23⟩, e19⟩
      have hs25 := Below.size E
      have hs26 := Below.size e19
      replace E := E.trans e19
      replace hB4 := hB4.ext e19
      refine Sq.nil ?_
      refine Eq.goes (fun _ => hB4) ?_
      refine Gq.st 5 rfl (by kernel_rfl) rfl (.met rfl rfl rfl) rfl (fun _ _ _ h => h) hB4 (fun w' x => Still.field (fldv29_1 _ _ _) rfl) ?_
      refine Gq.two 6 9 rfl rfl (by kernel_rfl) ?_ ?_
      · refine Sq.lenRows (OwnRows.rows hn22) (.met rfl rfl rfl) rfl und22 rfl ?_
        refine Sq.nil ?_
        refine Eq.goes (fun _ => hB4) ?_
        refine Gq.one 9 rfl (by kernel_rfl) ?_
        refine Sq.lenRows (hnx.ext E) (.met rfl rfl rfl) rfl und22 rfl ?_
        refine Sq.nil ?_
        refine Eq.goes (fun _ => hB4) ?_
        refine Gq.st 10 rfl (by kernel_rfl) rfl (.met rfl rfl rfl) rfl (fun _ _ _ h => h) hB4 (fun w' x => Still.eql rfl rfl) ?_
        refine Gq.st 11 rfl (by kernel_rfl) rfl .plain rfl (fun _ _ _ h => h) hB4 (fun w' x => Still.pickT rfl rfl) ?_
        refine Gq.one 12 rfl (by kernel_rfl) ?_
        refine Sq.assign .plain rfl rfl ?_
        refine Sq.nil ?_
        refine Eq.goes (fun h => absurd h (by decide)) ?_
        refine Gq.done (by kernel_rfl) ?_
        refine Eq.next ?_
        refine Cq.ret ?_
        refine Eq.ret1 rfl rfl ?_
        exact ⟨by rw [isMin_minS hv], E⟩
      refine Sq.lenRows (hnx.ext E) (.met rfl rfl rfl) rfl und22 rfl ?_
      refine Sq.nil ?_
      refine Eq.goes (fun _ => hB4) ?_
      refine Gq.one 6 rfl (by kernel_rfl) ?_
      refine Sq.lenRows (OwnRows.rows hn22) (.met rfl rfl rfl) rfl und22 rfl ?_
      refine Sq.nil ?_
      refine Eq.goes (fun _ => hB4) ?_
      refine Gq.st 10 rfl (by kernel_rfl) rfl (.met rfl rfl rfl) rfl (fun _ _ _ h => h) hB4 (fun w' x => Still.eql rfl rfl) ?_
      refine Gq.st 11 rfl (by kernel_rfl) rfl .plain rfl (fun _ _ _ h => h) hB4 (fun w' x => Still.pickT rfl rfl) ?_
      refine Gq.one 12 rfl (by kernel_rfl) ?_
      refine Sq.assign .plain rfl rfl ?_
      refine Sq.nil ?_
      refine Eq.goes (fun h => absurd h (by decide)) ?_
      refine Gq.done (by kernel_rfl) ?_
      refine Eq.next ?_
      refine Cq.ret ?_
      refine Eq.ret1 rfl rfl ?_
      exact ⟨by rw [isMin_minS hv], E⟩
    refine Sq.lenRows (hnx.ext E) (.met rfl rfl rfl) rfl und22 rfl ?_
    refine Sq.nil ?_
    refine Eq.goes (fun _ => hB4) ?_
    refine Gq.one 4 rfl (by kernel_rfl) ?_
    have hd34 := hB4.lt
    refine Sq.call fn28 (.met rfl rfl rfl) rfl rfl (l5Minimal_c _ a _ _ (hnx.ext E) (hac.ext E) hv) ?_
    rintro _ w28 ⟨⟨nx30, ac31, rfl, hn32, ha33⟩, e29⟩
    have hs35 := Below.size E
    have hs36 := Below.size e29
    replace E := E.trans e29
    replace hB4 := hB4.ext e29
    refine Sq.nil ?_
    refine Eq.goes (fun _ => hB4) ?_
    refine Gq.st 5 rfl (by kernel_rfl) rfl (.met rfl rfl rfl) rfl (fun _ _ _ h => h) hB4 (fun w' x => Still.field (fldv29_1 _ _ _) rfl) ?_
    refine Gq.one 6 rfl (by kernel_rfl) ?_
    refine Sq.lenRows (OwnRows.rows hn32) (.met rfl rfl rfl) rfl und22 rfl ?_
    refine Sq.nil ?_
    refine Eq.goes (fun _ => hB4) ?_
    refine Gq.st 10 rfl (by kernel_rfl) rfl (.met rfl rfl rfl) rfl (fun _ _ _ h => h) hB4 (fun w' x => Still.eql rfl rfl) ?_
    refine Gq.st 11 rfl (by kernel_rfl) rfl .plain rfl (fun _ _ _ h => h) hB4 (fun w' x => Still.pickT rfl rfl) ?_
    refine Gq.one 12 rfl (by kernel_rfl) ?_
    refine Sq.assign .plain rfl rfl ?_
    refine Sq.nil ?_
    refine Eq.goes (fun h => absurd h (by decide)) ?_
    refine Gq.done (by kernel_rfl) ?_
    refine Eq.next ?_
    refine Cq.ret ?_
    refine Eq.ret1 rfl rfl ?_
    exact ⟨by rw [isMin_minS hv], E⟩
  refine Sq.nil ?_
  refine Eq.goes (fun _ => hB4) ?_
  refine Gq.st 2 rfl (by kernel_rfl) rfl .plain rfl (fun _ _ _ h => h) hB4 (fun w' x => Still.move rfl) ?_
  refine Gq.off 3 rfl (by kernel_rfl) rfl rfl rfl rfl rfl rfl (fun _ _ _ h => h) hB4 ?_
  refine Gq.off 4 rfl (by kernel_rfl) rfl rfl rfl rfl rfl rfl (fun _ _ _ h => h) hB4 ?_
  refine Gq.off 5 rfl (by kernel_rfl) rfl rfl rfl rfl rfl rfl (fun _ _ _ h => h) hB4 ?_
  refine Gq.off 6 rfl (by kernel_rfl) rfl rfl rfl rfl rfl rfl (fun _ _ _ h => h) hB4 ?_
  refine Gq.off 7 rfl (by kernel_rfl) rfl rfl rfl rfl rfl rfl (fun _ _ _ h => h) hB4 ?_
  refine Gq.off 8 rfl (by kernel_rfl) rfl rfl rfl rfl rfl rfl (fun _ _ _ h => h) hB4 ?_
  refine Gq.off 9 rfl (by kernel_rfl) rfl rfl rfl rfl rfl rfl (fun _ _ _ h => h) hB4 ?_
  refine Gq.off 10 rfl (by kernel_rfl) rfl rfl rfl rfl rfl rfl (fun _ _ _ h => h) hB4 ?_
  refine Gq.st 11 rfl (by kernel_rfl) rfl .plain rfl (fun _ _ _ h => h) hB4 (fun w' x => Still.pickF rfl rfl) ?_
  refine Gq.one 12 rfl (by kernel_rfl) ?_
  refine Sq.assign .plain rfl rfl ?_
  refine Sq.nil ?_
  refine Eq.goes (fun h => absurd h (by decide)) ?_
  refine Gq.done (by kernel_rfl) ?_
  refine Eq.next ?_
  refine Cq.ret ?_
  refine Eq.ret1 rfl rfl ?_
  exact ⟨by rw [isMin_no hv], E⟩
end Go.Proofs.YtdkdpmmfebdeaaaDoor
set_option linter.unusedSimpArgs false
set_option linter.unusedVariables false
namespace Go.Proofs.YtdkdpmmfebdeaaaDoor
open Go.RowKit
def LenOk (n : Nat) : Prop := n ≤ 9223372036854775807
def IntsX (w : World) (v : Value) (xs : List Int) : Prop := LenOk xs.length ∧ ∃ e, Ints w e v xs
def BoolsX (w : World) (v : Value) (xs : List Bool) : Prop := LenOk xs.length ∧ ∃ e, Bools w e v xs
def RowsX (w : World) (v : Value) (xss : List (List Int)) : Prop := LenOk xss.length ∧ ∃ e rs, Row w e v rs ∧ rs.length = xss.length ∧ ∀ (i : Nat) (r : Value), rs[i]? = some r → IntsX w r (xss.getD i [])
section
variable {w w' : World} {v : Value} {xs : List Int} {ys : List Bool} {xss : List (List Int)}
theorem IntsX.ext (h : IntsX w v xs) (x : Ext w w') : IntsX w' v xs := ⟨h.1, h.2.elim fun e h => ⟨e, h.ext x⟩⟩
theorem BoolsX.ext (h : BoolsX w v ys) (x : Ext w w') : BoolsX w' v ys := ⟨h.1, h.2.elim fun e h => ⟨e, h.ext x⟩⟩
theorem RowsX.ext (h : RowsX w v xss) (x : Ext w w') : RowsX w' v xss := by
  obtain ⟨hl, e, rs, h1, h2, h3⟩ := h
  exact ⟨hl, e, rs, h1.ext x, h2, fun i r hr => (h3 i r hr).ext x⟩
theorem RowsX.at (h : RowsX w v xss) {i : Int} (hi : 0 ≤ i) (hlt : i.toNat < xss.length) : ∃ e p r, At w e v i p r ∧ IntsX w r (xss.getD i.toNat []) := by
  obtain ⟨hl, e, rs, h1, h2, h3⟩ := h
  have hl : i.toNat < rs.length := by omega
  obtain ⟨p, hp⟩ := h1.at hi hl
  exact ⟨e, p, rs[i.toNat], hp, h3 _ _ (List.getElem?_eq_getElem hl)⟩
theorem RowsX.len (h : RowsX w v xss) : ∃ e rs, Row w e v rs ∧ rs.length = xss.length := by
  obtain ⟨hl, e, rs, h1, h2, _⟩ := h
  exact ⟨e, rs, h1, h2⟩
end
def SmX (a : A) : Prop := a.next.length ≤ 1048576 ∧ (∀ r ∈ a.next, r.length ≤ 1048576) ∧ a.acc.length ≤ 1048576
theorem fill_step {α : Type} {xs : List α} {d : α} {k : Nat} (hk : k < xs.length) : (xs.take k ++ List.replicate (xs.length - k) d).set k (xs.getD k d) = xs.take (k + 1) ++ List.replicate (xs.length - (k + 1)) d := by
  apply List.ext_getElem?
  intro i
  have e1 : (xs.take k).length = k := by rw [List.length_take]; omega
  have e2 : (xs.take (k + 1)).length = k + 1 := by rw [List.length_take]; omega
  rw [List.getElem?_set]
  by_cases h : k = i
  · subst h
    rw [if_pos rfl, if_pos (by simp; omega), List.getElem?_append_left (by omega), List.getElem?_take, if_pos (by omega), List.getD_eq_getElem?_getD, List.getElem?_eq_getElem hk]
    rfl
  · rw [if_neg h]
    rcases Nat.lt_or_ge i k with h1 | h1
    · rw [List.getElem?_append_left (by omega), List.getElem?_append_left (by omega), List.getElem?_take, List.getElem?_take, if_pos h1, if_pos (by omega)]
    · rw [List.getElem?_append_right (by omega), List.getElem?_append_right (by omega), e1, e2, List.getElem?_replicate, List.getElem?_replicate]
      by_cases h2 : i < xs.length
      · rw [if_pos (by omega), if_pos (by omega)]
      · rw [if_neg (by omega), if_neg (by omega)]
def fillTo {α : Type} (xs : List α) (d : α) (k : Nat) : List α := xs.take k ++ List.replicate (xs.length - k) d
theorem fillTo_zero {α : Type} (xs : List α) (d : α) : fillTo xs d 0 = List.replicate xs.length d := by simp [fillTo]
theorem fillTo_succ {α : Type} {xs : List α} {d : α} {k : Nat} (hk : k < xs.length) : (fillTo xs d k).set k (xs.getD k d) = fillTo xs d (k + 1) := fill_step hk
theorem fillTo_all {α : Type} {xs : List α} {d : α} {k : Nat} (hk : xs.length ≤ k) : fillTo xs d k = xs := by
  unfold fillTo
  rw [List.take_of_length_le hk, Nat.sub_eq_zero_of_le hk]
  simp
theorem fillTo_length {α : Type} (xs : List α) (d : α) {k : Nat} (hk : k ≤ xs.length) : (fillTo xs d k).length = xs.length := by
  unfold fillTo
  simp
  omega
section
variable {w w' : World} {B U : Nat} {e e' : TypeId} {v : Value} {xss : List (List Int)}
theorem OwnRows.made {n : Nat} (h : Own w B e v (List.replicate n (Value.slice Option.none 0 0))) : OwnRows w B U e e' v (List.replicate n []) :=
  ⟨_, h, by simp, fun i r hr => by
    have h1 := List.mem_of_getElem? hr
    obtain rfl := (List.mem_replicate.1 h1).2
    have e1 : (List.replicate n ([] : List Int)).getD i [] = [] := by
      rw [List.getD_eq_getElem?_getD, List.getElem?_replicate]
      split <;> rfl
    rw [e1]
    exact ⟨Own.nil _ _ _, fun k hk => by cases hk⟩, fun i j r r' hr hr' _ k hk => by
    have h1 := List.mem_of_getElem? hr
    obtain rfl := (List.mem_replicate.1 h1).2
    cases hk⟩
theorem OwnRows.put (h : OwnRows w B U e e' v xss) (hne : e ≠ e') : ∃ rs, Own w B e v rs ∧ rs.length = xss.length ∧
    ∀ i r ys w', i < xss.length → Own w U e' r (ys.map (Value.int .i64)) → B ≤ U → Own w' B e v (rs.set i r) → w.grownBy w' v.ownBlock → OwnRows w' B w'.heap.size e e' v (xss.set i ys) := by
  obtain ⟨rs, h1, h2, h3, h4⟩ := h
  refine ⟨rs, h1, h2, fun i r ys w' hi hr hBU hv hg => ?_⟩
  have hr' := hr.owned h1 hg hne
  have hrow : ∀ j q, (rs.set i r)[j]? = some q → (j = i ∧ q = r) ∨ (j ≠ i ∧ rs[j]? = some q) := by
    intro j q hq
    rw [List.getElem?_set] at hq
    split at hq
    · rename_i hij
      rw [if_pos (by omega)] at hq
      exact .inl ⟨hij.symm, (Option.some.inj hq).symm⟩
    · rename_i hij
      exact .inr ⟨fun h => hij h.symm, hq⟩
  refine ⟨rs.set i r, hv, by simp [h2], fun j q hq => ?_, fun j k q q' hq hq' hjk b hb hb' => ?_⟩
  · rcases hrow j q hq with ⟨rfl, rfl⟩ | ⟨hji, hq2⟩
    · have e1 : (xss.set j ys).getD j [] = ys := by simp [hi]
      rw [e1]
      exact ⟨hr'.mono hBU, fun b hb => (hr'.lt b hb).2⟩
    · have e1 : (xss.set i ys).getD j [] = xss.getD j [] := by simp [List.getElem?_set_ne (fun h => hji h.symm)]
      rw [e1]
      have ho := (h3 j q hq2).1.owned h1 hg hne
      exact ⟨ho, fun b hb => (ho.lt b hb).2⟩
  · rcases hrow j q hq with ⟨rfl, rfl⟩ | ⟨hji, hq2⟩ <;> rcases hrow k q' hq' with ⟨rfl, rfl⟩ | ⟨hki, hq2'⟩
    · exact hjk rfl
    · have a1 := ((h3 k q' hq2').2 b hb')
      have a2 := (hr.lt b hb).1
      omega
    · have a1 := ((h3 j q hq2).2 b hb)
      have a2 := (hr.lt b hb').1
      omega
    · exact h4 j k q q' hq2 hq2' hjk b hb hb'
end
section
variable {H : Type} {enc : TypeId × Value → H} {P : Program} {w : World} {base : Nat} {sp : Nat → Bool} {held : Bool}
theorem row_of {x : Addr} {cap : Nat} {vs : List Value} (h : ∀ (i : Nat) (u : Value), vs[i]? = some u → w.cell? (x.add i) = some u) : ∃ e, Row w e (.slice (some x) vs.length cap) vs := by
  cases vs with
  | nil => exact ⟨0, .inl ⟨rfl, some x, cap, rfl, fun h => by cases h⟩⟩
  | cons v0 vs =>
    obtain ⟨b, o, s⟩ := x
    have hc := h 0 v0 rfl
    have hs : s = none := by simpa [Addr.add] using World.cell?_spot hc
    subst hs
    have hb : ∃ cur e fr, w.heap[b]? = some (.cells cur e fr) := by
      rw [addr_add] at hc
      unfold World.cell? at hc
      simp only at hc
      cases hw : w.heap[b]? with
      | none => rw [hw] at hc; simp at hc
      | some ob =>
        rw [hw] at hc
        cases ob <;> simp at hc
        rename_i cur e fr
        exact ⟨cur, e, fr, rfl⟩
    obtain ⟨cur, e, fr, hb⟩ := hb
    refine ⟨e, .inr ⟨b, o, cap, cur, fr, rfl, hb, fun i y hy => ?_⟩⟩
    have h1 := h i y hy
    rw [addr_add] at h1
    simpa [World.cell?, hb] using h1
theorem elems_of {t e : TypeId} {fuel : Nat} {v : Value} {x : DataW H × List MemPlace} (ht : P.underlying t = some (.slice e)) (hc : P.cellsOf e = 1) (h : DataW.trod enc P w base sp held fuel t [v] = some x) :
    ∃ vs : List Value, LenOk vs.length ∧ (∃ e', Row w e' v vs) ∧ ∀ (i : Nat) (u : Value), vs[i]? = some u → ∃ n y, DataW.trod enc P w base sp held n e [u] = some y := by
  rcases DataW.trod_slice ht h with ⟨h0, _⟩ | ⟨a, len, cap, elems, rest, n, _, hcs, _, _, hl, hm, hlen, hel, _, _⟩
  · obtain rfl : v = .slice none 0 0 := by simpa using h0
    exact ⟨[], by unfold LenOk; decide, ⟨0, Row.nil _ _⟩, by simp⟩
  · obtain rfl : v = .slice (some a) len cap := by simpa using hcs
    have each : ∀ i, i < len → ∃ u, w.cell? (a.add i) = some u ∧ ∃ y, DataW.trod enc P w base sp held n e [u] = some y := fun i hi => by
      have h1 := hel i hi
      rw [List.getElem?_eq_getElem (by omega), hc, Nat.mul_one, Option.bind_eq_some_iff] at h1
      obtain ⟨cs', h2, h3⟩ := h1
      have hsz := (World.cells?_some h2).2.1
      match cs', hsz with
      | [u], _ => exact ⟨u, ChangeShapes.cell_of_cells?_one h2, _, h3⟩
    let vs := (List.range len).map fun i => (w.cell? (a.add i)).getD (.bool false)
    have hvs : vs.length = len := by simp [vs]
    have hat : ∀ (i : Nat) (u : Value), vs[i]? = some u → i < len ∧ w.cell? (a.add i) = some u := fun i u hu => by
      have hi : i < len := by have := (List.getElem?_eq_some_iff.1 hu).1; omega
      obtain ⟨u', h1, _⟩ := each i hi
      simp [vs, hi, h1] at hu
      exact ⟨hi, by rw [h1, hu]⟩
    refine ⟨vs, ?_, ?_, fun i u hu => ?_⟩
    · unfold LenOk
      simp only [maxLen] at hm
      omega
    · have := row_of (w := w) (x := a) (cap := cap) (vs := vs) fun i u hu => (hat i u hu).2
      rw [hvs] at this
      exact this
    · obtain ⟨h1, h2⟩ := hat i u hu
      obtain ⟨u', h3, y, h4⟩ := each i h1
      rw [h2] at h3
      obtain rfl := Option.some.inj h3
      exact ⟨n, y, h4⟩
theorem choose_list {α : Type} {p : Value → α → Prop} : ∀ {vs : List Value}, (∀ u ∈ vs, ∃ a, p u a) → ∃ aas : List α, aas.length = vs.length ∧ ∀ (i : Nat) (u : Value), vs[i]? = some u → ∃ a, aas[i]? = some a ∧ p u a
  | [], _ => ⟨[], rfl, by simp⟩
  | v :: vs, h => by
    obtain ⟨a, ha⟩ := h v (by simp)
    obtain ⟨aas, h1, h2⟩ := choose_list (vs := vs) fun u hu => h u (by simp [hu])
    refine ⟨a :: aas, by simp [h1], fun i u hu => ?_⟩
    cases i with
    | zero => obtain rfl : v = u := by simpa using hu
              exact ⟨a, rfl, ha⟩
    | succ i => exact h2 i u (by simpa using hu)
theorem map_of {α : Type} {g : α → Value} {vs : List Value} (h : ∀ u ∈ vs, ∃ a, u = g a) : ∃ aas : List α, vs = aas.map g := by
  obtain ⟨aas, h1, h2⟩ := choose_list h
  refine ⟨aas, ?_⟩
  apply List.ext_getElem?
  intro i
  rcases Nat.lt_or_ge i vs.length with hi | hi
  · obtain ⟨a, ha, hu⟩ := h2 i _ (List.getElem?_eq_getElem hi)
    rw [List.getElem?_eq_getElem hi, List.getElem?_map, ha, hu]
    rfl
  · rw [List.getElem?_eq_none hi, List.getElem?_eq_none (by simp; omega)]
theorem ints_came {t e : TypeId} {fuel : Nat} {v : Value} {x : DataW H × List MemPlace} (ht : P.underlying t = some (.slice e)) (he : P.underlying e = some (.int .i64)) (hc : P.cellsOf e = 1) (h : DataW.trod enc P w base sp held fuel t [v] = some x) : ∃ xs, IntsX w v xs := by
  obtain ⟨vs, hl, ⟨e', hr⟩, hat⟩ := elems_of ht hc h
  obtain ⟨xs, rfl⟩ := map_of (g := Value.int .i64) (vs := vs) fun u hu => by
    obtain ⟨i, hi⟩ := List.getElem?_of_mem hu
    obtain ⟨n, y, hy⟩ := hat i u hi
    obtain ⟨m, hm, _⟩ := DataW.trod_int he hy
    exact ⟨m, by simpa using hm⟩
  exact ⟨xs, by simpa using hl, e', hr⟩
theorem bools_came {t e : TypeId} {fuel : Nat} {v : Value} {x : DataW H × List MemPlace} (ht : P.underlying t = some (.slice e)) (he : P.underlying e = some .bool) (hc : P.cellsOf e = 1) (h : DataW.trod enc P w base sp held fuel t [v] = some x) : ∃ xs, BoolsX w v xs := by
  obtain ⟨vs, hl, ⟨e', hr⟩, hat⟩ := elems_of ht hc h
  obtain ⟨xs, rfl⟩ := map_of (g := Value.bool) (vs := vs) fun u hu => by
    obtain ⟨i, hi⟩ := List.getElem?_of_mem hu
    obtain ⟨n, y, hy⟩ := hat i u hi
    obtain ⟨m, hm, _⟩ := DataW.trod_bool he hy
    exact ⟨m, by simpa using hm⟩
  exact ⟨xs, by simpa using hl, e', hr⟩
theorem rows_came {t s e : TypeId} {fuel : Nat} {v : Value} {x : DataW H × List MemPlace} (ht : P.underlying t = some (.slice s)) (hs : P.underlying s = some (.slice e)) (he : P.underlying e = some (.int .i64)) (hcs : P.cellsOf s = 1) (hc : P.cellsOf e = 1) (h : DataW.trod enc P w base sp held fuel t [v] = some x) : ∃ xss, RowsX w v xss := by
  obtain ⟨vs, hl, ⟨e', hr⟩, hat⟩ := elems_of ht hcs h
  obtain ⟨xss, h1, h2⟩ := choose_list (p := fun u xs => IntsX w u xs) (vs := vs) fun u hu => by
    obtain ⟨i, hi⟩ := List.getElem?_of_mem hu
    obtain ⟨n, y, hy⟩ := hat i u hi
    exact ints_came hs he hc hy
  refine ⟨xss, by rw [h1]; exact hl, e', vs, hr, h1.symm, fun i r hi => ?_⟩
  obtain ⟨a, ha, hp⟩ := h2 i r hi
  rw [List.getD_eq_getElem?_getD, ha]
  exact hp
end
end Go.Proofs.YtdkdpmmfebdeaaaDoor
set_option linter.unusedSimpArgs false
set_option linter.unusedVariables false
namespace Go.Proofs.YtdkdpmmfebdeaaaDoor
open Go.RowKit
set_option maxRecDepth 100000 in
theorem szIntS_c (w0 : World) (r : Value) (xs : List Int) (hr : IntsX w0 r xs) (left : Int) (hleft : 0 ≤ left ∧ left ≤ 1048576) : Ret Tryd.prog 30 #[r, Value.int .i64 left] w0 (fun v w => (∃ z, v = .int .i64 z ∧ -1 ≤ z ∧ (0 ≤ z → z ≤ left ∧ xs.length ≤ 1048576)) ∧ Ext w0 w) := by
  have E := Ext.refl w0
  have hlo : xs.length ≤ 9223372036854775807 := hr.1
  refine Ret.of (args := [r, Value.int .i64 left]) Tryd.func30 rfl rfl rfl ?_
  rintro _ rfl
  show Cq _ _ _ _ [(0, r), (1, Value.int .i64 left)] _
  refine Cq.seq ?_
  refine Cq.region ?_
  refine Sq.assign .plain rfl rfl ?_
  refine Sq.nil ?_
  refine Eq.next ?_
  refine Cq.seq ?_
  refine Cq.region ?_
  refine Sq.move .plain rfl rfl ?_
  refine Sq.move .plain rfl rfl ?_
  obtain ⟨eq1, heq1⟩ := hr.2
  refine Sq.lenInts (heq1.ext E) .plain rfl und27 rfl ?_
  refine Sq.sub .plain rfl rfl rfl (by omega) ?_
  refine Sq.assign .plain rfl rfl ?_
  refine Sq.nil ?_
  refine Eq.next ?_
  refine Cq.seq ?_
  refine Cq.seq ?_
  refine Cq.region ?_
  refine Sq.move .plain rfl rfl ?_
  refine Sq.lss .plain rfl rfl rfl ?_
  refine Sq.part (fun c2 => ?_) (fun c2 => ?_)
  · refine Sq.nil ?_
    refine Eq.next ?_
    refine Cq.thn rfl ?_
    refine Cq.seq ?_
    refine Cq.region ?_
    refine Sq.assign .plain rfl rfl ?_
    refine Sq.nil ?_
    refine Eq.next ?_
    refine Cq.ret ?_
    refine Eq.pastRet ?_
    refine Eq.ret1 rfl rfl ?_
    exact ⟨⟨_, rfl, by omega, fun h => by omega⟩, E⟩
  refine Sq.nil ?_
  refine Eq.next ?_
  refine Cq.els rfl ?_
  refine Cq.skip ?_
  refine Eq.next ?_
  refine Cq.seq ?_
  refine Cq.region ?_
  refine Sq.move .plain rfl rfl ?_
  refine Sq.assign .plain rfl rfl ?_
  refine Sq.nil ?_
  refine Eq.next ?_
  refine Cq.ret ?_
  refine Eq.ret1 rfl rfl ?_
  exact ⟨⟨_, rfl, by omega, fun h => by omega⟩, E⟩
set_option maxRecDepth 100000 in
theorem szBoolS_c (w0 : World) (r : Value) (xs : List Bool) (hr : BoolsX w0 r xs) (left : Int) (hleft : 0 ≤ left ∧ left ≤ 1048576) : Ret Tryd.prog 17 #[r, Value.int .i64 left] w0 (fun v w => (∃ z, v = .int .i64 z ∧ -1 ≤ z ∧ (0 ≤ z → z ≤ left ∧ xs.length ≤ 1048576)) ∧ Ext w0 w) := by
  have E := Ext.refl w0
  have hlo : xs.length ≤ 9223372036854775807 := hr.1
  refine Ret.of (args := [r, Value.int .i64 left]) Tryd.func17 rfl rfl rfl ?_
  rintro _ rfl
  show Cq _ _ _ _ [(0, r), (1, Value.int .i64 left)] _
  refine Cq.seq ?_
  refine Cq.region ?_
  refine Sq.assign .plain rfl rfl ?_
  refine Sq.nil ?_
  refine Eq.next ?_
  refine Cq.seq ?_
  refine Cq.region ?_
  refine Sq.move .plain rfl rfl ?_
  refine Sq.move .plain rfl rfl ?_
  obtain ⟨eq1, heq1⟩ := hr.2
  refine Sq.lenBools (heq1.ext E) .plain rfl und23 rfl ?_
  refine Sq.sub .plain rfl rfl rfl (by omega) ?_
  refine Sq.assign .plain rfl rfl ?_
  refine Sq.nil ?_
  refine Eq.next ?_
  refine Cq.seq ?_
  refine Cq.seq ?_
  refine Cq.region ?_
  refine Sq.move .plain rfl rfl ?_
  refine Sq.lss .plain rfl rfl rfl ?_
  refine Sq.part (fun c2 => ?_) (fun c2 => ?_)
  · refine Sq.nil ?_
    refine Eq.next ?_
    refine Cq.thn rfl ?_
    refine Cq.seq ?_
    refine Cq.region ?_
    refine Sq.assign .plain rfl rfl ?_
    refine Sq.nil ?_
    refine Eq.next ?_
    refine Cq.ret ?_
    refine Eq.pastRet ?_
    refine Eq.ret1 rfl rfl ?_
    exact ⟨⟨_, rfl, by omega, fun h => by omega⟩, E⟩
  refine Sq.nil ?_
  refine Eq.next ?_
  refine Cq.els rfl ?_
  refine Cq.skip ?_
  refine Eq.next ?_
  refine Cq.seq ?_
  refine Cq.region ?_
  refine Sq.move .plain rfl rfl ?_
  refine Sq.assign .plain rfl rfl ?_
  refine Sq.nil ?_
  refine Eq.next ?_
  refine Cq.ret ?_
  refine Eq.ret1 rfl rfl ?_
  exact ⟨⟨_, rfl, by omega, fun h => by omega⟩, E⟩
set_option maxRecDepth 100000 in
theorem szIntSS_c (w0 : World) (r : Value) (xss : List (List Int)) (hr : RowsX w0 r xss) (left : Int) (hleft : 0 ≤ left ∧ left ≤ 1048576) : Ret Tryd.prog 16 #[r, Value.int .i64 left] w0 (fun v w => (∃ z, v = .int .i64 z ∧ -1 ≤ z ∧ (0 ≤ z → z ≤ left ∧ xss.length ≤ 1048576 ∧ ∀ r ∈ xss, r.length ≤ 1048576)) ∧ Ext w0 w) := by
  have E := Ext.refl w0
  have hlo : xss.length ≤ 9223372036854775807 := hr.1
  refine Ret.of (args := [r, Value.int .i64 left]) Tryd.func16 rfl rfl rfl ?_
  rintro _ rfl
  show Cq _ _ _ _ [(0, r), (1, Value.int .i64 left)] _
  refine Cq.seq ?_
  refine Cq.region ?_
  refine Sq.assign .plain rfl rfl ?_
  refine Sq.nil ?_
  refine Eq.next ?_
  refine Cq.seq ?_
  refine Cq.region ?_
  refine Sq.move .plain rfl rfl ?_
  refine Sq.move .plain rfl rfl ?_
  obtain ⟨eq1, rsq1, heq1, hlq1⟩ := RowsX.len hr
  refine Sq.val .plain rfl rfl (Still.lenRow (heq1.ext E) und22 rfl) ?_
  rw [hlq1]
  refine Sq.sub .plain rfl rfl rfl (by omega) ?_
  refine Sq.assign .plain rfl rfl ?_
  refine Sq.nil ?_
  refine Eq.next ?_
  refine Cq.seq ?_
  refine Cq.seq ?_
  refine Cq.region ?_
  refine Sq.move .plain rfl rfl ?_
  refine Sq.lss .plain rfl rfl rfl ?_
  refine Sq.part (fun c2 => ?_) (fun c2 => ?_)
  · refine Sq.nil ?_
    refine Eq.next ?_
    refine Cq.thn rfl ?_
    refine Cq.seq ?_
    refine Cq.region ?_
    refine Sq.assign .plain rfl rfl ?_
    refine Sq.nil ?_
    refine Eq.next ?_
    refine Cq.ret ?_
    refine Eq.pastRet ?_
    refine Eq.ret1 rfl rfl ?_
    exact ⟨⟨_, rfl, by omega, fun h => absurd h (by omega)⟩, E⟩
  refine Sq.nil ?_
  refine Eq.next ?_
  refine Cq.els rfl ?_
  refine Cq.skip ?_
  refine Eq.next ?_
  refine Cq.seq ?_
  refine Cq.seq ?_
  refine Cq.region ?_
  refine Sq.assign .plain rfl rfl ?_
  refine Sq.nil ?_
  refine Eq.next ?_
  refine Cq.block ?_
  refine Cq.loop (fun nn w ls => ∃ (k : Int), ∃ (y : Int), ls = [(0, r), (1, Value.int .i64 y), (5, Value.int .i64 k)] ∧ (0 ≤ k ∧ k ≤ xss.length) ∧ (0 ≤ y ∧ y ≤ left) ∧ (∀ r ∈ xss.take k.toNat, r.length ≤ 1048576) ∧ Ext w0 w ∧ nn = ((xss.length : Int) - k).toNat) _ _ ⟨0, _, rfl, by omega, by omega, by simp, E, rfl⟩ (.cons rfl (.cons rfl (.cons rfl (.nil)))) ?_
  rintro nn wl1 ls ⟨k, y, rfl, hk, hy, hrl, E, rfl⟩
  have hs3 := Below.size E
  refine Cq.seq ?_
  refine Cq.seq ?_
  refine Cq.region ?_
  refine Sq.move .plain rfl rfl ?_
  refine Sq.move .plain rfl rfl ?_
  obtain ⟨eq4, rsq4, heq4, hlq4⟩ := RowsX.len hr
  refine Sq.val .plain rfl rfl (Still.lenRow (heq4.ext E) und22 rfl) ?_
  rw [hlq4]
  refine Sq.lss .plain rfl rfl rfl ?_
  refine Sq.part (fun c5 => ?_) (fun c5 => ?_)
  · refine Sq.nil ?_
    refine Eq.next ?_
    refine Cq.thn rfl ?_
    refine Cq.skip ?_
    refine Eq.next ?_
    refine Cq.seq ?_
    refine Cq.block ?_
    refine Cq.seq ?_
    refine Cq.region ?_
    refine Sq.move .plain rfl rfl ?_
    refine Sq.move .plain rfl rfl ?_
    obtain ⟨eq6, pq6, rq6, hpq6, hrq6⟩ := RowsX.at hr (i := k) (by omega) (by omega)
    refine Sq.val .plain rfl rfl (Still.at' sl22 (hpq6.ext E) rfl rfl) ?_
    refine Sq.val .plain rfl rfl (Still.loadA one27 rfl (hpq6.ext E).1) ?_
    refine Sq.move .plain rfl rfl ?_
    refine Sq.call fn30 .plain rfl rfl (szIntS_c _ _ _ (hrq6.ext E) y (by omega)) ?_
    rintro _ w8 ⟨⟨z10, rfl, hz11, hsm12⟩, e9⟩
    have hs13 := Below.size E
    have hs14 := Below.size e9
    replace E := E.trans e9
    refine Sq.assign .plain rfl rfl ?_
    refine Sq.nil ?_
    refine Eq.next ?_
    refine Cq.seq ?_
    refine Cq.region ?_
    refine Sq.move .plain rfl rfl ?_
    refine Sq.lss .plain rfl rfl rfl ?_
    refine Sq.part (fun c15 => ?_) (fun c15 => ?_)
    · refine Sq.nil ?_
      refine Eq.next ?_
      refine Cq.thn rfl ?_
      refine Cq.seq ?_
      refine Cq.region ?_
      refine Sq.assign .plain rfl rfl ?_
      refine Sq.nil ?_
      refine Eq.next ?_
      refine Cq.ret ?_
      refine Eq.outRet ?_
      refine Eq.pastRet ?_
      refine Eq.pastRet ?_
      refine Eq.outRet ?_
      refine Eq.pastRet ?_
      refine Eq.ret1 rfl rfl ?_
      exact ⟨⟨_, rfl, by omega, fun h => absurd h (by omega)⟩, E⟩
    refine Sq.nil ?_
    refine Eq.next ?_
    refine Cq.els rfl ?_
    refine Cq.skip ?_
    refine Eq.end ?_
    refine Eq.next ?_
    refine Cq.region ?_
    refine Sq.move .plain rfl rfl ?_
    refine Sq.add .plain rfl rfl rfl (by omega) ?_
    refine Sq.assign .plain rfl rfl ?_
    refine Sq.nil ?_
    have e1 := toNat_succ hk.1
    have hsx := (hsm12 (by omega))
    refine Eq.round _ _ ⟨k + 1, _, rfl, by omega, by omega, by rw [e1, take_snoc [] (by omega)]; intro r hr; rcases List.mem_append.1 hr with h | h; exact hrl r h; rw [List.mem_singleton.1 h]; exact hsx.2, E, rfl⟩ (by omega) (.cons rfl (.cons rfl (.cons rfl (.nil))))
  refine Sq.nil ?_
  refine Eq.next ?_
  refine Cq.els rfl ?_
  refine Cq.exit ?_
  refine Eq.past ?_
  refine Eq.past ?_
  refine Eq.hit ?_
  refine Eq.next ?_
  refine Cq.seq ?_
  refine Cq.region ?_
  refine Sq.move .plain rfl rfl ?_
  refine Sq.assign .plain rfl rfl ?_
  refine Sq.nil ?_
  refine Eq.next ?_
  refine Cq.ret ?_
  refine Eq.ret1 rfl rfl ?_
  exact ⟨⟨_, rfl, by omega, fun h => ⟨by omega, by omega, by rw [List.take_of_length_le (by omega)] at hrl; exact hrl⟩⟩, E⟩
set_option maxRecDepth 100000 in
theorem szA_c (w0 : World) (a : A) (nx ac : Value) (hnx : RowsX w0 nx a.next) (hac : BoolsX w0 ac a.acc) (left : Int) (hleft : 0 ≤ left ∧ left ≤ 1048576) : Ret Tryd.prog 5 #[Value.agg #[Value.int .i64 a.al, nx, ac], Value.int .i64 left] w0 (fun v w => (∃ z, v = .int .i64 z ∧ -1 ≤ z ∧ (0 ≤ z → z ≤ left ∧ SmX a)) ∧ Ext w0 w) := by
  have E := Ext.refl w0
  refine Ret.of (args := [Value.agg #[Value.int .i64 a.al, nx, ac], Value.int .i64 left]) Tryd.func5 rfl rfl rfl ?_
  rintro _ rfl
  show Cq _ _ _ _ [(0, Value.agg #[Value.int .i64 a.al, nx, ac]), (1, Value.int .i64 left)] _
  refine Cq.seq ?_
  refine Cq.region ?_
  refine Sq.box .plain rfl rfl (fun b1 w2 e3 hB4 hlo5 => ?_)
  have hd6 := Nat.le_trans (Below.size E) hlo5
  have hs7 := Below.size e3
  replace E := E.trans e3
  refine Sq.assign .plain rfl rfl ?_
  refine Sq.nil ?_
  refine Eq.next ?_
  refine Cq.seq ?_
  refine Cq.region ?_
  refine Sq.fieldAddr fld25_1 .plain rfl rfl ?_
  refine Sq.loadB one22 .plain rfl rfl hB4 rfl ?_
  refine Sq.move .plain rfl rfl ?_
  have hd14 := hB4.lt
  refine Sq.call fn16 .plain rfl rfl (szIntSS_c _ _ _ (hnx.ext E) left (by omega)) ?_
  rintro _ w9 ⟨⟨z11, rfl, hz12, hsm13⟩, e10⟩
  have hs15 := Below.size E
  have hs16 := Below.size e10
  replace E := E.trans e10
  replace hB4 := hB4.ext e10
  refine Sq.assign .plain rfl rfl ?_
  refine Sq.nil ?_
  refine Eq.next ?_
  refine Cq.seq ?_
  refine Cq.seq ?_
  refine Cq.region ?_
  refine Sq.move .plain rfl rfl ?_
  refine Sq.lss .plain rfl rfl rfl ?_
  refine Sq.part (fun c17 => ?_) (fun c17 => ?_)
  · refine Sq.nil ?_
    refine Eq.next ?_
    refine Cq.thn rfl ?_
    refine Cq.seq ?_
    refine Cq.region ?_
    refine Sq.assign .plain rfl rfl ?_
    refine Sq.nil ?_
    refine Eq.next ?_
    refine Cq.ret ?_
    refine Eq.pastRet ?_
    refine Eq.ret1 rfl rfl ?_
    exact ⟨⟨_, rfl, by omega, fun h => absurd h (by decide)⟩, E⟩
  refine Sq.nil ?_
  refine Eq.next ?_
  refine Cq.els rfl ?_
  refine Cq.skip ?_
  refine Eq.next ?_
  refine Cq.seq ?_
  refine Cq.region ?_
  refine Sq.fieldAddr fld25_2 .plain rfl rfl ?_
  refine Sq.loadB one23 .plain rfl rfl hB4 rfl ?_
  refine Sq.move .plain rfl rfl ?_
  have hd24 := hB4.lt
  refine Sq.call fn17 .plain rfl rfl (szBoolS_c _ _ _ (hac.ext E) z11 (by omega)) ?_
  rintro _ w19 ⟨⟨z21, rfl, hz22, hsm23⟩, e20⟩
  have hs25 := Below.size E
  have hs26 := Below.size e20
  replace E := E.trans e20
  refine Sq.assign .plain rfl rfl ?_
  refine Sq.nil ?_
  refine Eq.next ?_
  refine Cq.seq ?_
  refine Cq.seq ?_
  refine Cq.region ?_
  refine Sq.move .plain rfl rfl ?_
  refine Sq.lss .plain rfl rfl rfl ?_
  refine Sq.part (fun c27 => ?_) (fun c27 => ?_)
  · refine Sq.nil ?_
    refine Eq.next ?_
    refine Cq.thn rfl ?_
    refine Cq.seq ?_
    refine Cq.region ?_
    refine Sq.assign .plain rfl rfl ?_
    refine Sq.nil ?_
    refine Eq.next ?_
    refine Cq.ret ?_
    refine Eq.pastRet ?_
    refine Eq.ret1 rfl rfl ?_
    exact ⟨⟨_, rfl, by omega, fun h => absurd h (by decide)⟩, E⟩
  refine Sq.nil ?_
  refine Eq.next ?_
  refine Cq.els rfl ?_
  refine Cq.skip ?_
  refine Eq.next ?_
  refine Cq.seq ?_
  refine Cq.region ?_
  refine Sq.move .plain rfl rfl ?_
  refine Sq.assign .plain rfl rfl ?_
  refine Sq.nil ?_
  refine Eq.next ?_
  refine Cq.ret ?_
  refine Eq.ret1 rfl rfl ?_
  exact ⟨⟨_, rfl, by omega, fun h => ⟨by have := hsm13 (by omega); have := hsm23 (by omega); omega, (hsm13 (by omega)).2.1, (hsm13 (by omega)).2.2, (hsm23 (by omega)).2⟩⟩, E⟩
set_option maxRecDepth 100000 in
theorem toIntS_c (w0 : World) (r : Value) (xs : List Int) (hr : IntsX w0 r xs) (hl : xs.length ≤ 1048576) : Ret Tryd.prog 35 #[r] w0 (fun v w => Own w w0.heap.size 3 v (xs.map (Value.int .i64)) ∧ Ext w0 w) := by
  have E := Ext.refl w0
  refine Ret.of (args := [r]) Tryd.func35 rfl rfl rfl ?_
  rintro _ rfl
  show Cq _ _ _ _ [(0, r)] _
  refine Cq.seq ?_
  refine Cq.region ?_
  refine Sq.assign .plain rfl rfl ?_
  refine Sq.nil ?_
  refine Eq.next ?_
  refine Cq.seq ?_
  refine Cq.region ?_
  refine Sq.move .plain rfl rfl ?_
  obtain ⟨eq1, heq1⟩ := hr.2
  refine Sq.lenInts (heq1.ext E) .plain rfl und27 rfl ?_
  refine Sq.make sl27 .plain rfl rfl rfl rfl (by omega) (fun b2 w3 e4 hlo5 hB6 => ?_)
  replace hB6 := hB6 w0.heap.size (Nat.le_refl _)
  have hs7 := Below.size e4
  replace E := E.trans e4
  refine Sq.assign .plain rfl rfl ?_
  refine Sq.nil ?_
  refine Eq.next ?_
  refine Cq.seq ?_
  refine Cq.seq ?_
  refine Cq.region ?_
  refine Sq.assign .plain rfl rfl ?_
  refine Sq.nil ?_
  refine Eq.next ?_
  refine Cq.block ?_
  refine Cq.loop (fun nn w ls => ∃ (k : Int), ls = [(0, r), (3, Value.slice (some ⟨b2, 0, none⟩) (List.length xs : Int).toNat (List.length xs : Int).toNat), (4, Value.int .i64 k)] ∧ (0 ≤ k ∧ k ≤ xs.length) ∧ Own w w0.heap.size 3 (Value.slice (some ⟨b2, 0, none⟩) (List.length xs : Int).toNat (List.length xs : Int).toNat) ((fillTo xs 0 k.toNat).map (Value.int .i64)) ∧ Ext w0 w ∧ nn = ((xs.length : Int) - k).toNat) _ _ ⟨0, rfl, by omega, by rw [show (0 : Int).toNat = 0 from rfl, fillTo_zero, List.map_replicate]; exact hB6, E, rfl⟩ (.cons rfl (.cons rfl (.cons rfl (.nil)))) ?_
  rintro nn wl1 ls ⟨k, rfl, hk, ho, E, rfl⟩
  have hs8 := Below.size E
  have hfl := fillTo_length xs 0 (k := k.toNat) (by omega)
  refine Cq.seq ?_
  refine Cq.seq ?_
  refine Cq.region ?_
  refine Sq.move .plain rfl rfl ?_
  refine Sq.move .plain rfl rfl ?_
  obtain ⟨eq9, heq9⟩ := hr.2
  refine Sq.lenInts (heq9.ext E) .plain rfl und27 rfl ?_
  refine Sq.lss .plain rfl rfl rfl ?_
  refine Sq.part (fun c10 => ?_) (fun c10 => ?_)
  · refine Sq.nil ?_
    refine Eq.next ?_
    refine Cq.thn rfl ?_
    refine Cq.skip ?_
    refine Eq.next ?_
    refine Cq.seq ?_
    refine Cq.block ?_
    refine Cq.region ?_
    refine Sq.move .plain rfl rfl ?_
    refine Sq.move .plain rfl rfl ?_
    refine Sq.move .plain rfl rfl ?_
    refine Sq.move .plain rfl rfl ?_
    obtain ⟨eq11, heq11⟩ := hr.2
    obtain ⟨pq11, hpq11⟩ := Ints.at heq11 (i := k) (by omega) (by omega)
    refine Sq.val .plain rfl rfl (Still.at' sl27 (hpq11.ext E) rfl rfl) ?_
    refine Sq.val .plain rfl rfl (Still.loadA one3 rfl (hpq11.ext E).1) ?_
    obtain ⟨p12, hp13o⟩ := Own.at ho (i := k) (by omega) (by first | (simp only [List.length_map]; omega) | (simp; omega))
    refine Sq.atO sl27 hp13o .plain rfl rfl rfl ?_
    refine Sq.storeO one3 ho hp13o .plain rfl rfl rfl (fun w14 g15 ho16 => ?_)
    have hs17 := World.grownBy.size g15
    replace E := E.owned ho g15 (by omega)
    replace ho := ho16
    refine Sq.nil ?_
    refine Eq.end ?_
    refine Eq.next ?_
    refine Cq.region ?_
    refine Sq.move .plain rfl rfl ?_
    refine Sq.add .plain rfl rfl rfl (by omega) ?_
    refine Sq.assign .plain rfl rfl ?_
    refine Sq.nil ?_
    have e1 := toNat_succ hk.1
    refine Eq.round _ _ ⟨k + 1, rfl, by omega, by rw [e1, ← fillTo_succ (by omega), List.map_set]; exact ho, E, rfl⟩ (by omega) (.cons rfl (.cons rfl (.cons rfl (.nil))))
  refine Sq.nil ?_
  refine Eq.next ?_
  refine Cq.els rfl ?_
  refine Cq.exit ?_
  refine Eq.past ?_
  refine Eq.past ?_
  refine Eq.hit ?_
  refine Eq.next ?_
  refine Cq.seq ?_
  refine Cq.region ?_
  refine Sq.move .plain rfl rfl ?_
  refine Sq.assign .plain rfl rfl ?_
  refine Sq.nil ?_
  refine Eq.next ?_
  refine Cq.ret ?_
  refine Eq.ret1 rfl rfl ?_
  rw [fillTo_all (by omega)] at ho
  exact ⟨ho, E⟩
set_option maxRecDepth 100000 in
theorem toBoolS_c (w0 : World) (r : Value) (xs : List Bool) (hr : BoolsX w0 r xs) (hl : xs.length ≤ 1048576) : Ret Tryd.prog 21 #[r] w0 (fun v w => Own w w0.heap.size 4 v (xs.map (Value.bool)) ∧ Ext w0 w) := by
  have E := Ext.refl w0
  refine Ret.of (args := [r]) Tryd.func21 rfl rfl rfl ?_
  rintro _ rfl
  show Cq _ _ _ _ [(0, r)] _
  refine Cq.seq ?_
  refine Cq.region ?_
  refine Sq.assign .plain rfl rfl ?_
  refine Sq.nil ?_
  refine Eq.next ?_
  refine Cq.seq ?_
  refine Cq.region ?_
  refine Sq.move .plain rfl rfl ?_
  obtain ⟨eq1, heq1⟩ := hr.2
  refine Sq.lenBools (heq1.ext E) .plain rfl und23 rfl ?_
  refine Sq.make sl23 .plain rfl rfl rfl rfl (by omega) (fun b2 w3 e4 hlo5 hB6 => ?_)
  replace hB6 := hB6 w0.heap.size (Nat.le_refl _)
  have hs7 := Below.size e4
  replace E := E.trans e4
  refine Sq.assign .plain rfl rfl ?_
  refine Sq.nil ?_
  refine Eq.next ?_
  refine Cq.seq ?_
  refine Cq.seq ?_
  refine Cq.region ?_
  refine Sq.assign .plain rfl rfl ?_
  refine Sq.nil ?_
  refine Eq.next ?_
  refine Cq.block ?_
  refine Cq.loop (fun nn w ls => ∃ (k : Int), ls = [(0, r), (3, Value.slice (some ⟨b2, 0, none⟩) (List.length xs : Int).toNat (List.length xs : Int).toNat), (4, Value.int .i64 k)] ∧ (0 ≤ k ∧ k ≤ xs.length) ∧ Own w w0.heap.size 4 (Value.slice (some ⟨b2, 0, none⟩) (List.length xs : Int).toNat (List.length xs : Int).toNat) ((fillTo xs false k.toNat).map (Value.bool)) ∧ Ext w0 w ∧ nn = ((xs.length : Int) - k).toNat) _ _ ⟨0, rfl, by omega, by rw [show (0 : Int).toNat = 0 from rfl, fillTo_zero, List.map_replicate]; exact hB6, E, rfl⟩ (.cons rfl (.cons rfl (.cons rfl (.nil)))) ?_
  rintro nn wl1 ls ⟨k, rfl, hk, ho, E, rfl⟩
  have hs8 := Below.size E
  have hfl := fillTo_length xs false (k := k.toNat) (by omega)
  refine Cq.seq ?_
  refine Cq.seq ?_
  refine Cq.region ?_
  refine Sq.move .plain rfl rfl ?_
  refine Sq.move .plain rfl rfl ?_
  obtain ⟨eq9, heq9⟩ := hr.2
  refine Sq.lenBools (heq9.ext E) .plain rfl und23 rfl ?_
  refine Sq.lss .plain rfl rfl rfl ?_
  refine Sq.part (fun c10 => ?_) (fun c10 => ?_)
  · refine Sq.nil ?_
    refine Eq.next ?_
    refine Cq.thn rfl ?_
    refine Cq.skip ?_
    refine Eq.next ?_
    refine Cq.seq ?_
    refine Cq.block ?_
    refine Cq.region ?_
    refine Sq.move .plain rfl rfl ?_
    refine Sq.move .plain rfl rfl ?_
    refine Sq.move .plain rfl rfl ?_
    refine Sq.move .plain rfl rfl ?_
    obtain ⟨eq11, heq11⟩ := hr.2
    obtain ⟨pq11, hpq11⟩ := Bools.at heq11 (i := k) (by omega) (by omega)
    refine Sq.val .plain rfl rfl (Still.at' sl23 (hpq11.ext E) rfl rfl) ?_
    refine Sq.val .plain rfl rfl (Still.loadA one4 rfl (hpq11.ext E).1) ?_
    obtain ⟨p12, hp13o⟩ := Own.at ho (i := k) (by omega) (by first | (simp only [List.length_map]; omega) | (simp; omega))
    refine Sq.atO sl23 hp13o .plain rfl rfl rfl ?_
    refine Sq.storeO one4 ho hp13o .plain rfl rfl rfl (fun w14 g15 ho16 => ?_)
    have hs17 := World.grownBy.size g15
    replace E := E.owned ho g15 (by omega)
    replace ho := ho16
    refine Sq.nil ?_
    refine Eq.end ?_
    refine Eq.next ?_
    refine Cq.region ?_
    refine Sq.move .plain rfl rfl ?_
    refine Sq.add .plain rfl rfl rfl (by omega) ?_
    refine Sq.assign .plain rfl rfl ?_
    refine Sq.nil ?_
    have e1 := toNat_succ hk.1
    refine Eq.round _ _ ⟨k + 1, rfl, by omega, by rw [e1, ← fillTo_succ (by omega), List.map_set]; exact ho, E, rfl⟩ (by omega) (.cons rfl (.cons rfl (.cons rfl (.nil))))
  refine Sq.nil ?_
  refine Eq.next ?_
  refine Cq.els rfl ?_
  refine Cq.exit ?_
  refine Eq.past ?_
  refine Eq.past ?_
  refine Eq.hit ?_
  refine Eq.next ?_
  refine Cq.seq ?_
  refine Cq.region ?_
  refine Sq.move .plain rfl rfl ?_
  refine Sq.assign .plain rfl rfl ?_
  refine Sq.nil ?_
  refine Eq.next ?_
  refine Cq.ret ?_
  refine Eq.ret1 rfl rfl ?_
  rw [fillTo_all (by omega)] at ho
  exact ⟨ho, E⟩
set_option maxRecDepth 100000 in
theorem toIntSS_c (w0 : World) (r : Value) (xss : List (List Int)) (hr : RowsX w0 r xss) (hl : xss.length ≤ 1048576) (hll : ∀ r ∈ xss, r.length ≤ 1048576) : Ret Tryd.prog 20 #[r] w0 (fun v w => OwnRows w w0.heap.size w.heap.size 27 3 v xss ∧ Ext w0 w) := by
  have E := Ext.refl w0
  refine Ret.of (args := [r]) Tryd.func20 rfl rfl rfl ?_
  rintro _ rfl
  show Cq _ _ _ _ [(0, r)] _
  refine Cq.seq ?_
  refine Cq.region ?_
  refine Sq.assign .plain rfl rfl ?_
  refine Sq.nil ?_
  refine Eq.next ?_
  refine Cq.seq ?_
  refine Cq.region ?_
  refine Sq.move .plain rfl rfl ?_
  obtain ⟨eq1, rsq1, heq1, hlq1⟩ := RowsX.len hr
  refine Sq.val .plain rfl rfl (Still.lenRow (heq1.ext E) und22 rfl) ?_
  rw [hlq1]
  refine Sq.make sl22 .plain rfl rfl rfl rfl (by omega) (fun b2 w3 e4 hlo5 ho6 => ?_)
  have hs7 := Below.size e4
  replace E := E.trans e4
  have hor := OwnRows.made (U := w3.heap.size) (e' := 3) (ho6 w0.heap.size (by omega))
  refine Sq.assign .plain rfl rfl ?_
  refine Sq.nil ?_
  refine Eq.next ?_
  refine Cq.seq ?_
  refine Cq.seq ?_
  refine Cq.region ?_
  refine Sq.assign .plain rfl rfl ?_
  refine Sq.nil ?_
  refine Eq.next ?_
  refine Cq.block ?_
  refine Cq.loop (fun nn w ls => ∃ (k : Int), ls = [(0, r), (3, Value.slice (some ⟨b2, 0, none⟩) (List.length xss : Int).toNat (List.length xss : Int).toNat), (4, Value.int .i64 k)] ∧ (0 ≤ k ∧ k ≤ xss.length) ∧ OwnRows w w0.heap.size w.heap.size 27 3 (Value.slice (some ⟨b2, 0, none⟩) (List.length xss : Int).toNat (List.length xss : Int).toNat) (fillTo xss [] k.toNat) ∧ Ext w0 w ∧ nn = ((xss.length : Int) - k).toNat) _ _ ⟨0, rfl, by omega, by rw [show (0 : Int).toNat = 0 from rfl, fillTo_zero]; exact hor, E, rfl⟩ (.cons rfl (.cons rfl (.cons rfl (.nil)))) ?_
  rintro nn wl1 ls ⟨k, rfl, hk, hor, E, rfl⟩
  have hs8 := Below.size E
  refine Cq.seq ?_
  refine Cq.seq ?_
  refine Cq.region ?_
  refine Sq.move .plain rfl rfl ?_
  refine Sq.move .plain rfl rfl ?_
  obtain ⟨eq9, rsq9, heq9, hlq9⟩ := RowsX.len hr
  refine Sq.val .plain rfl rfl (Still.lenRow (heq9.ext E) und22 rfl) ?_
  rw [hlq9]
  refine Sq.lss .plain rfl rfl rfl ?_
  refine Sq.part (fun c10 => ?_) (fun c10 => ?_)
  · refine Sq.nil ?_
    refine Eq.next ?_
    refine Cq.thn rfl ?_
    refine Cq.skip ?_
    refine Eq.next ?_
    refine Cq.seq ?_
    refine Cq.block ?_
    refine Cq.region ?_
    refine Sq.move .plain rfl rfl ?_
    refine Sq.move .plain rfl rfl ?_
    refine Sq.move .plain rfl rfl ?_
    refine Sq.move .plain rfl rfl ?_
    obtain ⟨eq11, pq11, rq11, hpq11, hrq11⟩ := RowsX.at hr (i := k) (by omega) (by omega)
    refine Sq.val .plain rfl rfl (Still.at' sl22 (hpq11.ext E) rfl rfl) ?_
    refine Sq.val .plain rfl rfl (Still.loadA one27 rfl (hpq11.ext E).1) ?_
    refine Sq.call fn35 .plain rfl rfl (toIntS_c _ _ _ (hrq11.ext E) (by exact hll _ (getD_mem (by omega)))) ?_
    rintro v12 w13 ⟨ho15, e14⟩
    have hs16 := Below.size E
    have hs17 := Below.size e14
    replace E := E.trans e14
    replace hor := hor.ext e14
    obtain ⟨rs3, hq1, hq2, hq3⟩ := OwnRows.put hor (by decide)
    have hfl := fillTo_length xss [] (k := k.toNat) (by omega)
    obtain ⟨pq, hpq⟩ := Own.at hq1 (i := k) (by omega) (by omega)
    refine Sq.atO sl22 hpq .plain rfl rfl rfl ?_
    refine Sq.storeO one27 hq1 hpq .plain rfl rfl (Row.one (Own.row ho15)) (fun w18 g19 ho20 => ?_)
    have hs21 := World.grownBy.size g19
    have hor := hq3 k.toNat _ _ _ (by omega) (Own.mono ho15 (by omega)) (by omega) ho20 g19
    replace E := E.owned hq1 g19 (by omega)
    refine Sq.nil ?_
    refine Eq.end ?_
    refine Eq.next ?_
    refine Cq.region ?_
    refine Sq.move .plain rfl rfl ?_
    refine Sq.add .plain rfl rfl rfl (by omega) ?_
    refine Sq.assign .plain rfl rfl ?_
    refine Sq.nil ?_
    have e1 := toNat_succ hk.1
    refine Eq.round _ _ ⟨k + 1, rfl, by omega, by rw [e1, ← fillTo_succ (by omega)]; exact hor, E, rfl⟩ (by omega) (.cons rfl (.cons rfl (.cons rfl (.nil))))
  refine Sq.nil ?_
  refine Eq.next ?_
  refine Cq.els rfl ?_
  refine Cq.exit ?_
  refine Eq.past ?_
  refine Eq.past ?_
  refine Eq.hit ?_
  refine Eq.next ?_
  refine Cq.seq ?_
  refine Cq.region ?_
  refine Sq.move .plain rfl rfl ?_
  refine Sq.assign .plain rfl rfl ?_
  refine Sq.nil ?_
  refine Eq.next ?_
  refine Cq.ret ?_
  refine Eq.ret1 rfl rfl ?_
  rw [fillTo_all (by omega)] at hor
  exact ⟨hor, E⟩
set_option maxRecDepth 100000 in
theorem toA_c (w0 : World) (a : A) (nx ac : Value) (hnx : RowsX w0 nx a.next) (hac : BoolsX w0 ac a.acc) (hsm : SmX a) : Ret Tryd.prog 7 #[Value.agg #[Value.int .i64 a.al, nx, ac]] w0 (fun v w => OwnA w w0.heap.size v a ∧ Ext w0 w) := by
  have E := Ext.refl w0
  refine Ret.of (args := [Value.agg #[Value.int .i64 a.al, nx, ac]]) Tryd.func7 rfl rfl rfl ?_
  rintro _ rfl
  show Cq _ _ _ _ [(0, Value.agg #[Value.int .i64 a.al, nx, ac])] _
  refine Cq.seq ?_
  refine Cq.region ?_
  refine Sq.box .plain rfl rfl (fun b1 w2 e3 hB4 hlo5 => ?_)
  have hd6 := Nat.le_trans (Below.size E) hlo5
  have hs7 := Below.size e3
  replace E := E.trans e3
  refine Sq.alloc zero29 .plain rfl (fun b8 w9 e10 hB11 hlo12 => ?_)
  have hd13 := Nat.le_trans (Below.size E) hlo12
  have hd14 := Nat.lt_of_lt_of_le hB4.lt hlo12
  have hs15 := Below.size e10
  replace E := E.trans e10
  replace hB4 := hB4.ext e10
  refine Sq.nil ?_
  refine Eq.next ?_
  refine Cq.seq ?_
  refine Cq.region ?_
  refine Sq.alloc zero29 .plain rfl (fun b16 w17 e18 hB19 hlo20 => ?_)
  have hd21 := Nat.le_trans (Below.size E) hlo20
  have hd22 := Nat.lt_of_lt_of_le hB4.lt hlo20
  have hd23 := Nat.lt_of_lt_of_le hB11.lt hlo20
  have hs24 := Below.size e18
  replace E := E.trans e18
  replace hB4 := hB4.ext e18
  replace hB11 := hB11.ext e18
  refine Sq.nil ?_
  refine Eq.next ?_
  refine Cq.seq ?_
  refine Cq.region ?_
  refine Sq.fieldAddr fld25_0 .plain rfl rfl ?_
  refine Sq.loadB one3 .plain rfl rfl hB4 rfl ?_
  refine Sq.fieldAddr fld29_0 .plain rfl rfl ?_
  refine Sq.store one3 .plain rfl rfl rfl hB19 (by simp) (fun w25 g26 hB27 => ?_)
  have hs28 := World.grownBy.size g26
  replace E := E.grown g26 (fun k hk => by injection hk with hk; subst hk; omega)
  replace hB4 := hB4.grown g26 (by intro h; injection h with h; omega)
  replace hB11 := hB11.grown g26 (by intro h; injection h with h; omega)
  replace hB19 := hB27
  refine Sq.nil ?_
  refine Eq.next ?_
  refine Cq.seq ?_
  refine Cq.region ?_
  refine Sq.fieldAddr fld25_1 .plain rfl rfl ?_
  refine Sq.loadB one22 .plain rfl rfl hB4 rfl ?_
  have hd33 := hB4.lt
  have hd34 := hB11.lt
  have hd35 := hB19.lt
  refine Sq.call fn20 .plain rfl rfl (toIntSS_c _ _ _ (hnx.ext E) hsm.1 hsm.2.1) ?_
  rintro v29 w30 ⟨ho32, e31⟩
  have hs36 := Below.size E
  have hs37 := Below.size e31
  replace E := E.trans e31
  replace hB4 := hB4.ext e31
  replace hB11 := hB11.ext e31
  replace hB19 := hB19.ext e31
  refine Sq.fieldAddr fld29_1 .plain rfl rfl ?_
  refine Sq.store one22 .plain rfl rfl (Rows.one (OwnRows.rows ho32)) hB19 (by simp) (fun w38 g39 hB40 => ?_)
  have hs41 := World.grownBy.size g39
  replace E := E.grown g39 (fun k hk => by injection hk with hk; subst hk; omega)
  replace hB4 := hB4.grown g39 (by intro h; injection h with h; omega)
  replace hB11 := hB11.grown g39 (by intro h; injection h with h; omega)
  replace ho32 := ho32.stored g39 hB19 (by decide) (by decide)
  replace hB19 := hB40
  refine Sq.nil ?_
  refine Eq.next ?_
  refine Cq.seq ?_
  refine Cq.region ?_
  refine Sq.fieldAddr fld25_2 .plain rfl rfl ?_
  refine Sq.loadB one23 .plain rfl rfl hB4 rfl ?_
  have hd46 := hB4.lt
  have hd47 := hB11.lt
  have hd48 := hB19.lt
  refine Sq.call fn21 .plain rfl rfl (toBoolS_c _ _ _ (hac.ext E) (by exact hsm.2.2)) ?_
  rintro v42 w43 ⟨ho45, e44⟩
  have hs49 := Below.size E
  have hs50 := Below.size e44
  replace E := E.trans e44
  replace hB11 := hB11.ext e44
  replace hB19 := hB19.ext e44
  replace ho32 := ho32.ext e44
  refine Sq.fieldAddr fld29_2 .plain rfl rfl ?_
  refine Sq.store one23 .plain rfl rfl (Row.one (Own.row ho45)) hB19 (by simp) (fun w51 g52 hB53 => ?_)
  have hs54 := World.grownBy.size g52
  replace E := E.grown g52 (fun k hk => by injection hk with hk; subst hk; omega)
  replace hB11 := hB11.grown g52 (by intro h; injection h with h; omega)
  replace ho32 := ho32.stored g52 hB19 (by decide) (by decide)
  replace ho45 := ho45.stored g52 hB19 (by decide)
  replace hB19 := hB53
  refine Sq.nil ?_
  refine Eq.next ?_
  refine Cq.seq ?_
  refine Cq.region ?_
  refine Sq.loadAgg agg29 .plain rfl rfl hB19 rfl ?_
  refine Sq.storeAgg agg29 .plain rfl rfl (one_cons rfl (one_cons (Rows.one (OwnRows.rows ho32)) (one_cons (Row.one (Own.row ho45)) one_nil))) hB11 rfl rfl (fun w55 g56 hB57 => ?_)
  have hs58 := World.grownBy.size g56
  replace E := E.grown g56 (fun k hk => by injection hk with hk; subst hk; omega)
  replace ho32 := ho32.stored g56 hB11 (by decide) (by decide)
  replace ho45 := ho45.stored g56 hB11 (by decide)
  replace hB11 := hB57
  refine Sq.nil ?_
  refine Eq.next ?_
  refine Cq.ret ?_
  refine Eq.retCell rfl rfl agg29 hB11 rfl ?_
  exact ⟨⟨_, _, rfl, OwnRows.now (OwnRows.mono ho32 (by omega)), Own.mono ho45 (by omega)⟩, E⟩
set_option maxRecDepth 100000 in
theorem eqIntS_c (w0 : World) (xs ys : List Int) (r q : Value) (hr : Ints w0 3 r xs) (hq : Ints w0 3 q ys) (hx : xs.length ≤ 1000000000) : Ret Tryd.prog 9 #[r, q] w0 (fun v w => v = .bool (xs == ys) ∧ Ext w0 w) := by
  have E := Ext.refl w0
  refine Ret.of (args := [r, q]) Tryd.func9 rfl rfl rfl ?_
  rintro _ rfl
  show Cq _ _ _ _ [(0, r), (1, q)] _
  refine Cq.seq ?_
  refine Cq.region ?_
  refine Sq.assign .plain rfl rfl ?_
  refine Sq.nil ?_
  refine Eq.next ?_
  refine Cq.seq ?_
  refine Cq.seq ?_
  refine Cq.region ?_
  refine Sq.move .plain rfl rfl ?_
  refine Sq.lenInts (hr.ext E) .plain rfl und27 rfl ?_
  refine Sq.move .plain rfl rfl ?_
  refine Sq.lenInts (hq.ext E) .plain rfl und27 rfl ?_
  refine Sq.neq .plain rfl rfl rfl ?_
  refine Sq.part (fun c1 => ?_) (fun c1 => ?_)
  · refine Sq.nil ?_
    refine Eq.next ?_
    refine Cq.thn rfl ?_
    refine Cq.seq ?_
    refine Cq.region ?_
    refine Sq.assign .plain rfl rfl ?_
    refine Sq.nil ?_
    refine Eq.next ?_
    refine Cq.ret ?_
    refine Eq.pastRet ?_
    refine Eq.ret1 rfl rfl ?_
    exact ⟨by first | rw [beq_len (by omega)] | rw [beq_at (k := k.toNat) 0 (by simpa using hne)] | rw [beq_done (k := k.toNat) hp (by omega) (by omega)], E⟩
  refine Sq.nil ?_
  refine Eq.next ?_
  refine Cq.els rfl ?_
  refine Cq.skip ?_
  refine Eq.next ?_
  refine Cq.seq ?_
  refine Cq.seq ?_
  refine Cq.region ?_
  refine Sq.assign .plain rfl rfl ?_
  refine Sq.nil ?_
  refine Eq.next ?_
  refine Cq.block ?_
  refine Cq.loop (fun nn w ls => ∃ (k : Int), ls = [(0, r), (1, q), (5, Value.int .i64 k)] ∧ xs.length = ys.length ∧ (0 ≤ k ∧ k ≤ xs.length) ∧ xs.take k.toNat = ys.take k.toNat ∧ Ext w0 w ∧ nn = ((xs.length : Int) - k).toNat) _ _ ⟨0, rfl, by omega, by omega, rfl, E, rfl⟩ (.cons rfl (.cons rfl (.cons rfl (.nil)))) ?_
  rintro nn wl1 ls ⟨k, rfl, hl, hk, hp, E, rfl⟩
  have hs2 := Below.size E
  refine Cq.seq ?_
  refine Cq.seq ?_
  refine Cq.region ?_
  refine Sq.move .plain rfl rfl ?_
  refine Sq.move .plain rfl rfl ?_
  refine Sq.lenInts (hr.ext E) .plain rfl und27 rfl ?_
  refine Sq.lss .plain rfl rfl rfl ?_
  refine Sq.part (fun c3 => ?_) (fun c3 => ?_)
  · refine Sq.nil ?_
    refine Eq.next ?_
    refine Cq.thn rfl ?_
    refine Cq.skip ?_
    refine Eq.next ?_
    refine Cq.seq ?_
    refine Cq.block ?_
    refine Cq.seq ?_
    refine Cq.draw 9 none mixed (fun w4 e5 => ?_)
    have hs6 := Below.size e5
    replace E := E.trans e5
    have E_w4 := E
    refine Gq.st 0 rfl (by kernel_rfl) rfl .plain rfl (fun _ _ _ h => h) (World.grownBy.refl w4 _) (fun w' x => Still.move rfl) ?_
    refine Gq.st 1 rfl (by kernel_rfl) rfl .plain rfl (fun _ _ _ h => h) (World.grownBy.refl w4 _) (fun w' x => Still.move rfl) ?_
    obtain ⟨p7, hp8_w4⟩ := Ints.at hr (i := k) (by omega) (by omega)
    refine Gq.st 2 rfl (by kernel_rfl) rfl .plain rfl (fun _ _ _ h => h) (World.grownBy.refl w4 _) (fun w' x => Still.at' sl27 hp8_w4 rfl rfl) ?_
    refine Gq.st 3 rfl (by kernel_rfl) rfl .plain rfl (fun _ _ _ h => h) (World.grownBy.refl w4 _) (fun w' x => Still.loadA one3 rfl (hp8_w4.ext (E_w4.trans (Ext.of_grown x))).1) ?_
    refine Gq.st 4 rfl (by kernel_rfl) rfl .plain rfl (fun _ _ _ h => h) (World.grownBy.refl w4 _) (fun w' x => Still.move rfl) ?_
    refine Gq.st 5 rfl (by kernel_rfl) rfl .plain rfl (fun _ _ _ h => h) (World.grownBy.refl w4 _) (fun w' x => Still.move rfl) ?_
    obtain ⟨p9, hp10_w4⟩ := Ints.at hq (i := k) (by omega) (by omega)
    refine Gq.st 6 rfl (by kernel_rfl) rfl .plain rfl (fun _ _ _ h => h) (World.grownBy.refl w4 _) (fun w' x => Still.at' sl27 hp10_w4 rfl rfl) ?_
    refine Gq.st 7 rfl (by kernel_rfl) rfl .plain rfl (fun _ _ _ h => h) (World.grownBy.refl w4 _) (fun w' x => Still.loadA one3 rfl (hp10_w4.ext (E_w4.trans (Ext.of_grown x))).1) ?_
    refine Gq.st 8 rfl (by kernel_rfl) rfl .plain rfl (fun _ _ _ h => h) (World.grownBy.refl w4 _) (fun w' x => Still.neq rfl rfl) ?_
    refine Gq.part (fun hne => ?_) (fun hne => ?_)
    · refine Gq.done (by kernel_rfl) ?_
      refine Eq.next ?_
      refine Cq.thn rfl ?_
      refine Cq.seq ?_
      refine Cq.region ?_
      refine Sq.assign .plain rfl rfl ?_
      refine Sq.nil ?_
      refine Eq.next ?_
      refine Cq.ret ?_
      refine Eq.outRet ?_
      refine Eq.pastRet ?_
      refine Eq.pastRet ?_
      refine Eq.outRet ?_
      refine Eq.pastRet ?_
      refine Eq.ret1 rfl rfl ?_
      exact ⟨by first | rw [beq_len (by omega)] | rw [beq_at (k := k.toNat) 0 (by simpa using hne)] | rw [beq_done (k := k.toNat) hp (by omega) (by omega)], E⟩
    refine Gq.done (by kernel_rfl) ?_
    refine Eq.next ?_
    refine Cq.els rfl ?_
    refine Cq.skip ?_
    refine Eq.end ?_
    refine Eq.next ?_
    refine Cq.region ?_
    refine Sq.move .plain rfl rfl ?_
    refine Sq.add .plain rfl rfl rfl (by omega) ?_
    refine Sq.assign .plain rfl rfl ?_
    refine Sq.nil ?_
    have e1 := toNat_succ hk.1
    refine Eq.round _ _ ⟨k + 1, rfl, hl, by omega, by rw [e1]; exact take_eq_snoc 0 hl hp (by omega) (by simpa using hne), E, rfl⟩ (by omega) (.cons rfl (.cons rfl (.cons rfl (.nil))))
  refine Sq.nil ?_
  refine Eq.next ?_
  refine Cq.els rfl ?_
  refine Cq.exit ?_
  refine Eq.past ?_
  refine Eq.past ?_
  refine Eq.hit ?_
  refine Eq.next ?_
  refine Cq.seq ?_
  refine Cq.region ?_
  refine Sq.assign .plain rfl rfl ?_
  refine Sq.nil ?_
  refine Eq.next ?_
  refine Cq.ret ?_
  refine Eq.ret1 rfl rfl ?_
  exact ⟨by first | rw [beq_len (by omega)] | rw [beq_at (k := k.toNat) 0 (by simpa using hne)] | rw [beq_done (k := k.toNat) hp (by omega) (by omega)], E⟩
set_option maxRecDepth 100000 in
theorem eqBoolS_c (w0 : World) (xs ys : List Bool) (r q : Value) (hr : Bools w0 4 r xs) (hq : Bools w0 4 q ys) (hx : xs.length ≤ 1000000000) : Ret Tryd.prog 25 #[r, q] w0 (fun v w => v = .bool (xs == ys) ∧ Ext w0 w) := by
  have E := Ext.refl w0
  refine Ret.of (args := [r, q]) Tryd.func25 rfl rfl rfl ?_
  rintro _ rfl
  show Cq _ _ _ _ [(0, r), (1, q)] _
  refine Cq.seq ?_
  refine Cq.region ?_
  refine Sq.assign .plain rfl rfl ?_
  refine Sq.nil ?_
  refine Eq.next ?_
  refine Cq.seq ?_
  refine Cq.seq ?_
  refine Cq.region ?_
  refine Sq.move .plain rfl rfl ?_
  refine Sq.lenBools (hr.ext E) .plain rfl und23 rfl ?_
  refine Sq.move .plain rfl rfl ?_
  refine Sq.lenBools (hq.ext E) .plain rfl und23 rfl ?_
  refine Sq.neq .plain rfl rfl rfl ?_
  refine Sq.part (fun c1 => ?_) (fun c1 => ?_)
  · refine Sq.nil ?_
    refine Eq.next ?_
    refine Cq.thn rfl ?_
    refine Cq.seq ?_
    refine Cq.region ?_
    refine Sq.assign .plain rfl rfl ?_
    refine Sq.nil ?_
    refine Eq.next ?_
    refine Cq.ret ?_
    refine Eq.pastRet ?_
    refine Eq.ret1 rfl rfl ?_
    exact ⟨by first | rw [beq_len (by omega)] | rw [beq_at (k := k.toNat) false (by simpa using hne)] | rw [beq_done (k := k.toNat) hp (by omega) (by omega)], E⟩
  refine Sq.nil ?_
  refine Eq.next ?_
  refine Cq.els rfl ?_
  refine Cq.skip ?_
  refine Eq.next ?_
  refine Cq.seq ?_
  refine Cq.seq ?_
  refine Cq.region ?_
  refine Sq.assign .plain rfl rfl ?_
  refine Sq.nil ?_
  refine Eq.next ?_
  refine Cq.block ?_
  refine Cq.loop (fun nn w ls => ∃ (k : Int), ls = [(0, r), (1, q), (5, Value.int .i64 k)] ∧ xs.length = ys.length ∧ (0 ≤ k ∧ k ≤ xs.length) ∧ xs.take k.toNat = ys.take k.toNat ∧ Ext w0 w ∧ nn = ((xs.length : Int) - k).toNat) _ _ ⟨0, rfl, by omega, by omega, rfl, E, rfl⟩ (.cons rfl (.cons rfl (.cons rfl (.nil)))) ?_
  rintro nn wl1 ls ⟨k, rfl, hl, hk, hp, E, rfl⟩
  have hs2 := Below.size E
  refine Cq.seq ?_
  refine Cq.seq ?_
  refine Cq.region ?_
  refine Sq.move .plain rfl rfl ?_
  refine Sq.move .plain rfl rfl ?_
  refine Sq.lenBools (hr.ext E) .plain rfl und23 rfl ?_
  refine Sq.lss .plain rfl rfl rfl ?_
  refine Sq.part (fun c3 => ?_) (fun c3 => ?_)
  · refine Sq.nil ?_
    refine Eq.next ?_
    refine Cq.thn rfl ?_
    refine Cq.skip ?_
    refine Eq.next ?_
    refine Cq.seq ?_
    refine Cq.block ?_
    refine Cq.seq ?_
    refine Cq.draw 9 none mixed (fun w4 e5 => ?_)
    have hs6 := Below.size e5
    replace E := E.trans e5
    have E_w4 := E
    refine Gq.st 0 rfl (by kernel_rfl) rfl .plain rfl (fun _ _ _ h => h) (World.grownBy.refl w4 _) (fun w' x => Still.move rfl) ?_
    refine Gq.st 1 rfl (by kernel_rfl) rfl .plain rfl (fun _ _ _ h => h) (World.grownBy.refl w4 _) (fun w' x => Still.move rfl) ?_
    obtain ⟨p7, hp8_w4⟩ := Bools.at hr (i := k) (by omega) (by omega)
    refine Gq.st 2 rfl (by kernel_rfl) rfl .plain rfl (fun _ _ _ h => h) (World.grownBy.refl w4 _) (fun w' x => Still.at' sl23 hp8_w4 rfl rfl) ?_
    refine Gq.st 3 rfl (by kernel_rfl) rfl .plain rfl (fun _ _ _ h => h) (World.grownBy.refl w4 _) (fun w' x => Still.loadA one4 rfl (hp8_w4.ext (E_w4.trans (Ext.of_grown x))).1) ?_
    refine Gq.st 4 rfl (by kernel_rfl) rfl .plain rfl (fun _ _ _ h => h) (World.grownBy.refl w4 _) (fun w' x => Still.move rfl) ?_
    refine Gq.st 5 rfl (by kernel_rfl) rfl .plain rfl (fun _ _ _ h => h) (World.grownBy.refl w4 _) (fun w' x => Still.move rfl) ?_
    obtain ⟨p9, hp10_w4⟩ := Bools.at hq (i := k) (by omega) (by omega)
    refine Gq.st 6 rfl (by kernel_rfl) rfl .plain rfl (fun _ _ _ h => h) (World.grownBy.refl w4 _) (fun w' x => Still.at' sl23 hp10_w4 rfl rfl) ?_
    refine Gq.st 7 rfl (by kernel_rfl) rfl .plain rfl (fun _ _ _ h => h) (World.grownBy.refl w4 _) (fun w' x => Still.loadA one4 rfl (hp10_w4.ext (E_w4.trans (Ext.of_grown x))).1) ?_
    refine Gq.st 8 rfl (by kernel_rfl) rfl .plain rfl (fun _ _ _ h => h) (World.grownBy.refl w4 _) (fun w' x => Still.neqB und4 rfl rfl) ?_
    refine Gq.partB (fun hne => ?_) (fun hne => ?_)
    · refine Gq.done (by kernel_rfl) ?_
      refine Eq.next ?_
      refine Cq.thn rfl ?_
      refine Cq.seq ?_
      refine Cq.region ?_
      refine Sq.assign .plain rfl rfl ?_
      refine Sq.nil ?_
      refine Eq.next ?_
      refine Cq.ret ?_
      refine Eq.outRet ?_
      refine Eq.pastRet ?_
      refine Eq.pastRet ?_
      refine Eq.outRet ?_
      refine Eq.pastRet ?_
      refine Eq.ret1 rfl rfl ?_
      exact ⟨by first | rw [beq_len (by omega)] | rw [beq_at (k := k.toNat) false (by simpa using hne)] | rw [beq_done (k := k.toNat) hp (by omega) (by omega)], E⟩
    refine Gq.done (by kernel_rfl) ?_
    refine Eq.next ?_
    refine Cq.els rfl ?_
    refine Cq.skip ?_
    refine Eq.end ?_
    refine Eq.next ?_
    refine Cq.region ?_
    refine Sq.move .plain rfl rfl ?_
    refine Sq.add .plain rfl rfl rfl (by omega) ?_
    refine Sq.assign .plain rfl rfl ?_
    refine Sq.nil ?_
    have e1 := toNat_succ hk.1
    refine Eq.round _ _ ⟨k + 1, rfl, hl, by omega, by rw [e1]; exact take_eq_snoc false hl hp (by omega) (by simpa using hne), E, rfl⟩ (by omega) (.cons rfl (.cons rfl (.cons rfl (.nil))))
  refine Sq.nil ?_
  refine Eq.next ?_
  refine Cq.els rfl ?_
  refine Cq.exit ?_
  refine Eq.past ?_
  refine Eq.past ?_
  refine Eq.hit ?_
  refine Eq.next ?_
  refine Cq.seq ?_
  refine Cq.region ?_
  refine Sq.assign .plain rfl rfl ?_
  refine Sq.nil ?_
  refine Eq.next ?_
  refine Cq.ret ?_
  refine Eq.ret1 rfl rfl ?_
  exact ⟨by first | rw [beq_len (by omega)] | rw [beq_at (k := k.toNat) false (by simpa using hne)] | rw [beq_done (k := k.toNat) hp (by omega) (by omega)], E⟩
set_option maxRecDepth 100000 in
theorem eqIntSS_c (w0 : World) (xss yss : List (List Int)) (r q : Value) (hr : Rows w0 27 3 r xss) (hq : Rows w0 27 3 q yss) (hx : xss.length ≤ 1048576) (hxx : ∀ r ∈ xss, r.length ≤ 1048576) : Ret Tryd.prog 24 #[r, q] w0 (fun v w => v = .bool (xss == yss) ∧ Ext w0 w) := by
  have E := Ext.refl w0
  refine Ret.of (args := [r, q]) Tryd.func24 rfl rfl rfl ?_
  rintro _ rfl
  show Cq _ _ _ _ [(0, r), (1, q)] _
  refine Cq.seq ?_
  refine Cq.region ?_
  refine Sq.assign .plain rfl rfl ?_
  refine Sq.nil ?_
  refine Eq.next ?_
  refine Cq.seq ?_
  refine Cq.seq ?_
  refine Cq.region ?_
  refine Sq.move .plain rfl rfl ?_
  refine Sq.lenRows (hr.ext E) .plain rfl und22 rfl ?_
  refine Sq.move .plain rfl rfl ?_
  refine Sq.lenRows (hq.ext E) .plain rfl und22 rfl ?_
  refine Sq.neq .plain rfl rfl rfl ?_
  refine Sq.part (fun c1 => ?_) (fun c1 => ?_)
  · refine Sq.nil ?_
    refine Eq.next ?_
    refine Cq.thn rfl ?_
    refine Cq.seq ?_
    refine Cq.region ?_
    refine Sq.assign .plain rfl rfl ?_
    refine Sq.nil ?_
    refine Eq.next ?_
    refine Cq.ret ?_
    refine Eq.pastRet ?_
    refine Eq.ret1 rfl rfl ?_
    exact ⟨by first | rw [beq_len (by omega)] | rw [beq_at (k := k.toNat) [] (by simpa using hne)] | rw [beq_done (k := k.toNat) hp (by omega) (by omega)], E⟩
  refine Sq.nil ?_
  refine Eq.next ?_
  refine Cq.els rfl ?_
  refine Cq.skip ?_
  refine Eq.next ?_
  refine Cq.seq ?_
  refine Cq.seq ?_
  refine Cq.region ?_
  refine Sq.assign .plain rfl rfl ?_
  refine Sq.nil ?_
  refine Eq.next ?_
  refine Cq.block ?_
  refine Cq.loop (fun nn w ls => ∃ (k : Int), ls = [(0, r), (1, q), (5, Value.int .i64 k)] ∧ xss.length = yss.length ∧ (0 ≤ k ∧ k ≤ xss.length) ∧ xss.take k.toNat = yss.take k.toNat ∧ Ext w0 w ∧ nn = ((xss.length : Int) - k).toNat) _ _ ⟨0, rfl, by omega, by omega, rfl, E, rfl⟩ (.cons rfl (.cons rfl (.cons rfl (.nil)))) ?_
  rintro nn wl1 ls ⟨k, rfl, hl, hk, hp, E, rfl⟩
  have hs2 := Below.size E
  refine Cq.seq ?_
  refine Cq.seq ?_
  refine Cq.region ?_
  refine Sq.move .plain rfl rfl ?_
  refine Sq.move .plain rfl rfl ?_
  refine Sq.lenRows (hr.ext E) .plain rfl und22 rfl ?_
  refine Sq.lss .plain rfl rfl rfl ?_
  refine Sq.part (fun c3 => ?_) (fun c3 => ?_)
  · refine Sq.nil ?_
    refine Eq.next ?_
    refine Cq.thn rfl ?_
    refine Cq.skip ?_
    refine Eq.next ?_
    refine Cq.seq ?_
    refine Cq.block ?_
    refine Cq.seq ?_
    refine Cq.draw 10 none mixed (fun w4 e5 => ?_)
    have hs6 := Below.size e5
    replace E := E.trans e5
    have E_w4 := E
    refine Gq.st 0 rfl (by kernel_rfl) rfl .plain rfl (fun _ _ _ h => h) (World.grownBy.refl w4 _) (fun w' x => Still.move rfl) ?_
    refine Gq.st 1 rfl (by kernel_rfl) rfl .plain rfl (fun _ _ _ h => h) (World.grownBy.refl w4 _) (fun w' x => Still.move rfl) ?_
    obtain ⟨p7, r9, hp8_w4, hr10⟩ := Rows.at hr (i := k) (by omega) (by omega)
    refine Gq.st 2 rfl (by kernel_rfl) rfl .plain rfl (fun _ _ _ h => h) (World.grownBy.refl w4 _) (fun w' x => Still.at' sl22 hp8_w4 rfl rfl) ?_
    refine Gq.st 3 rfl (by kernel_rfl) rfl .plain rfl (fun _ _ _ h => h) (World.grownBy.refl w4 _) (fun w' x => Still.loadA one27 rfl (hp8_w4.ext (E_w4.trans (Ext.of_grown x))).1) ?_
    refine Gq.st 4 rfl (by kernel_rfl) rfl .plain rfl (fun _ _ _ h => h) (World.grownBy.refl w4 _) (fun w' x => Still.move rfl) ?_
    refine Gq.st 5 rfl (by kernel_rfl) rfl .plain rfl (fun _ _ _ h => h) (World.grownBy.refl w4 _) (fun w' x => Still.move rfl) ?_
    obtain ⟨p11, r13, hp12_w4, hr14⟩ := Rows.at hq (i := k) (by omega) (by omega)
    refine Gq.st 6 rfl (by kernel_rfl) rfl .plain rfl (fun _ _ _ h => h) (World.grownBy.refl w4 _) (fun w' x => Still.at' sl22 hp12_w4 rfl rfl) ?_
    refine Gq.st 7 rfl (by kernel_rfl) rfl .plain rfl (fun _ _ _ h => h) (World.grownBy.refl w4 _) (fun w' x => Still.loadA one27 rfl (hp12_w4.ext (E_w4.trans (Ext.of_grown x))).1) ?_
    refine Gq.one 8 rfl (by kernel_rfl) ?_
    refine Sq.call fn9 .plain rfl rfl (eqIntS_c _ _ _ _ _ (hr10.ext E) (hr14.ext E) (by exact Nat.le_trans (hxx _ (getD_mem (by omega))) (by decide))) ?_
    rintro _ w16 ⟨rfl, e17⟩
    have hs18 := Below.size E
    have hs19 := Below.size e17
    replace E := E.trans e17
    refine Sq.partB (fun hne => ?_) (fun hne => ?_)
    · refine Sq.nil ?_
      refine Eq.goes (fun _ => (grown_trans (World.grownBy.refl w4 _) (Ext.to_grown e17 _))) ?_
      refine Gq.st 9 rfl (by kernel_rfl) rfl .plain rfl (fun _ _ _ h => h) (grown_trans (World.grownBy.refl w4 _) (Ext.to_grown e17 _)) (fun w' x => Still.notT rfl) ?_
      refine Gq.done (by kernel_rfl) ?_
      refine Eq.next ?_
      refine Cq.els rfl ?_
      refine Cq.skip ?_
      refine Eq.end ?_
      refine Eq.next ?_
      refine Cq.region ?_
      refine Sq.move .plain rfl rfl ?_
      refine Sq.add .plain rfl rfl rfl (by omega) ?_
      refine Sq.assign .plain rfl rfl ?_
      refine Sq.nil ?_
      have e1 := toNat_succ hk.1
      refine Eq.round _ _ ⟨k + 1, rfl, hl, by omega, by rw [e1]; exact take_eq_snoc [] hl hp (by omega) (by simpa using hne), E, rfl⟩ (by omega) (.cons rfl (.cons rfl (.cons rfl (.nil))))
    refine Sq.nil ?_
    refine Eq.goes (fun _ => (grown_trans (World.grownBy.refl w4 _) (Ext.to_grown e17 _))) ?_
    refine Gq.st 9 rfl (by kernel_rfl) rfl .plain rfl (fun _ _ _ h => h) (grown_trans (World.grownBy.refl w4 _) (Ext.to_grown e17 _)) (fun w' x => Still.notF rfl) ?_
    refine Gq.done (by kernel_rfl) ?_
    refine Eq.next ?_
    refine Cq.thn rfl ?_
    refine Cq.seq ?_
    refine Cq.region ?_
    refine Sq.assign .plain rfl rfl ?_
    refine Sq.nil ?_
    refine Eq.next ?_
    refine Cq.ret ?_
    refine Eq.outRet ?_
    refine Eq.pastRet ?_
    refine Eq.pastRet ?_
    refine Eq.outRet ?_
    refine Eq.pastRet ?_
    refine Eq.ret1 rfl rfl ?_
    exact ⟨by first | rw [beq_len (by omega)] | rw [beq_at (k := k.toNat) [] (by simpa using hne)] | rw [beq_done (k := k.toNat) hp (by omega) (by omega)], E⟩
  refine Sq.nil ?_
  refine Eq.next ?_
  refine Cq.els rfl ?_
  refine Cq.exit ?_
  refine Eq.past ?_
  refine Eq.past ?_
  refine Eq.hit ?_
  refine Eq.next ?_
  refine Cq.seq ?_
  refine Cq.region ?_
  refine Sq.assign .plain rfl rfl ?_
  refine Sq.nil ?_
  refine Eq.next ?_
  refine Cq.ret ?_
  refine Eq.ret1 rfl rfl ?_
  exact ⟨by first | rw [beq_len (by omega)] | rw [beq_at (k := k.toNat) [] (by simpa using hne)] | rw [beq_done (k := k.toNat) hp (by omega) (by omega)], E⟩
set_option maxRecDepth 100000 in
theorem eqAut_c (w0 : World) (a b : A) (nx ac nx' ac' : Value) (hnx : Rows w0 27 3 nx a.next) (hac : Bools w0 4 ac a.acc) (hnx' : Rows w0 27 3 nx' b.next) (hac' : Bools w0 4 ac' b.acc) (hsm : SmX a) : Ret Tryd.prog 10 #[Value.agg #[Value.int .i64 a.al, nx, ac], Value.agg #[Value.int .i64 b.al, nx', ac']] w0 (fun v w => v = .bool (eqA a b) ∧ Ext w0 w) := by
  have E := Ext.refl w0
  refine Ret.of (args := [Value.agg #[Value.int .i64 a.al, nx, ac], Value.agg #[Value.int .i64 b.al, nx', ac']]) Tryd.func10 rfl rfl rfl ?_
  rintro _ rfl
  show Cq _ _ _ _ [(0, Value.agg #[Value.int .i64 a.al, nx, ac]), (1, Value.agg #[Value.int .i64 b.al, nx', ac'])] _
  refine Cq.seq ?_
  refine Cq.region ?_
  refine Sq.box .plain rfl rfl (fun b1 w2 e3 hB4 hlo5 => ?_)
  have hd6 := Nat.le_trans (Below.size E) hlo5
  have hs7 := Below.size e3
  replace E := E.trans e3
  refine Sq.box .plain rfl rfl (fun b8 w9 e10 hB11 hlo12 => ?_)
  have hd13 := Nat.le_trans (Below.size E) hlo12
  have hd14 := Nat.lt_of_lt_of_le hB4.lt hlo12
  have hs15 := Below.size e10
  replace E := E.trans e10
  replace hB4 := hB4.ext e10
  refine Sq.assign .plain rfl rfl ?_
  refine Sq.nil ?_
  refine Eq.next ?_
  refine Cq.seq ?_
  refine Cq.seq ?_
  refine Cq.region ?_
  refine Sq.fieldAddr fld29_0 .plain rfl rfl ?_
  refine Sq.loadB one3 .plain rfl rfl hB4 rfl ?_
  refine Sq.fieldAddr fld29_0 .plain rfl rfl ?_
  refine Sq.loadB one3 .plain rfl rfl hB11 rfl ?_
  refine Sq.neq .plain rfl rfl rfl ?_
  refine Sq.part (fun h0 => ?_) (fun h0 => ?_)
  · refine Sq.nil ?_
    refine Eq.next ?_
    refine Cq.thn rfl ?_
    refine Cq.seq ?_
    refine Cq.region ?_
    refine Sq.assign .plain rfl rfl ?_
    refine Sq.nil ?_
    refine Eq.next ?_
    refine Cq.ret ?_
    refine Eq.pastRet ?_
    refine Eq.ret1 rfl rfl ?_
    exact ⟨by simp [eqA, h0], E⟩
  refine Sq.nil ?_
  refine Eq.next ?_
  refine Cq.els rfl ?_
  refine Cq.skip ?_
  refine Eq.next ?_
  refine Cq.seq ?_
  refine Cq.seq ?_
  refine Cq.region ?_
  refine Sq.fieldAddr fld29_1 .plain rfl rfl ?_
  refine Sq.loadB one22 .plain rfl rfl hB4 rfl ?_
  refine Sq.fieldAddr fld29_1 .plain rfl rfl ?_
  refine Sq.loadB one22 .plain rfl rfl hB11 rfl ?_
  have hd19 := hB4.lt
  have hd20 := hB11.lt
  refine Sq.call fn24 .plain rfl rfl (eqIntSS_c _ _ _ _ _ (hnx.ext E) (hnx'.ext E) hsm.1 hsm.2.1) ?_
  rintro _ w17 ⟨rfl, e18⟩
  have hs21 := Below.size E
  have hs22 := Below.size e18
  replace E := E.trans e18
  replace hB4 := hB4.ext e18
  replace hB11 := hB11.ext e18
  refine Sq.partB (fun h1 => ?_) (fun h1 => ?_)
  · refine Sq.notT .plain rfl rfl ?_
    refine Sq.nil ?_
    refine Eq.next ?_
    refine Cq.els rfl ?_
    refine Cq.skip ?_
    refine Eq.next ?_
    refine Cq.seq ?_
    refine Cq.seq ?_
    refine Cq.region ?_
    refine Sq.fieldAddr fld29_2 .plain rfl rfl ?_
    refine Sq.loadB one23 .plain rfl rfl hB4 rfl ?_
    refine Sq.fieldAddr fld29_2 .plain rfl rfl ?_
    refine Sq.loadB one23 .plain rfl rfl hB11 rfl ?_
    have hd26 := hB4.lt
    have hd27 := hB11.lt
    refine Sq.call fn25 .plain rfl rfl (eqBoolS_c _ _ _ _ _ (hac.ext E) (hac'.ext E) (by exact Nat.le_trans hsm.2.2 (by decide))) ?_
    rintro _ w24 ⟨rfl, e25⟩
    have hs28 := Below.size E
    have hs29 := Below.size e25
    replace E := E.trans e25
    refine Sq.partB (fun h2 => ?_) (fun h2 => ?_)
    · refine Sq.notT .plain rfl rfl ?_
      refine Sq.nil ?_
      refine Eq.next ?_
      refine Cq.els rfl ?_
      refine Cq.skip ?_
      refine Eq.next ?_
      refine Cq.seq ?_
      refine Cq.region ?_
      refine Sq.assign .plain rfl rfl ?_
      refine Sq.nil ?_
      refine Eq.next ?_
      refine Cq.ret ?_
      refine Eq.ret1 rfl rfl ?_
      have h0' : a.al = b.al := by omega
      exact ⟨by unfold eqA; rw [h1, h2, h0', beq_self_eq_true]; rfl, E⟩
    refine Sq.notF .plain rfl rfl ?_
    refine Sq.nil ?_
    refine Eq.next ?_
    refine Cq.thn rfl ?_
    refine Cq.seq ?_
    refine Cq.region ?_
    refine Sq.assign .plain rfl rfl ?_
    refine Sq.nil ?_
    refine Eq.next ?_
    refine Cq.ret ?_
    refine Eq.pastRet ?_
    refine Eq.ret1 rfl rfl ?_
    have h0' : a.al = b.al := by omega
    exact ⟨by unfold eqA; rw [h1, h2, h0', beq_self_eq_true]; rfl, E⟩
  refine Sq.notF .plain rfl rfl ?_
  refine Sq.nil ?_
  refine Eq.next ?_
  refine Cq.thn rfl ?_
  refine Cq.seq ?_
  refine Cq.region ?_
  refine Sq.assign .plain rfl rfl ?_
  refine Sq.nil ?_
  refine Eq.next ?_
  refine Cq.ret ?_
  refine Eq.pastRet ?_
  refine Eq.ret1 rfl rfl ?_
  have h0' : a.al = b.al := by omega
  exact ⟨by unfold eqA; rw [h1, h0', beq_self_eq_true]; rfl, E⟩
end Go.Proofs.YtdkdpmmfebdeaaaDoor
set_option linter.unusedSimpArgs false
set_option linter.unusedVariables false
namespace Go.Proofs.YtdkdpmmfebdeaaaDoor
open Go.RowKit
set_option maxRecDepth 100000 in
theorem lExMin (w0 : World) (a : A) (nx ac : Value) (hnx : RowsX w0 nx a.next) (hac : BoolsX w0 ac a.acc) : Ret Tryd.prog 4 #[Value.agg #[Value.int .i64 a.al, nx, ac]] w0 (fun v w => v = .bool true ∧ Ext w0 w) := by
  have E := Ext.refl w0
  refine Ret.of (args := [Value.agg #[Value.int .i64 a.al, nx, ac]]) Tryd.func4 rfl rfl rfl ?_
  rintro _ rfl
  show Cq _ _ _ _ [(0, Value.agg #[Value.int .i64 a.al, nx, ac])] _
  refine Cq.seq ?_
  refine Cq.region ?_
  refine Sq.box .plain rfl rfl (fun b1 w2 e3 hB4 hlo5 => ?_)
  have hd6 := Nat.le_trans (Below.size E) hlo5
  have hs7 := Below.size e3
  replace E := E.trans e3
  refine Sq.assign .plain rfl rfl ?_
  refine Sq.nil ?_
  refine Eq.next ?_
  refine Cq.seq ?_
  refine Cq.region ?_
  refine Sq.assign .plain rfl rfl ?_
  refine Sq.nil ?_
  refine Eq.next ?_
  refine Cq.seq ?_
  refine Cq.region ?_
  refine Sq.loadAgg agg25 .plain rfl rfl hB4 rfl ?_
  refine Sq.move .plain rfl rfl ?_
  have hd14 := hB4.lt
  refine Sq.call fn5 .plain rfl rfl (szA_c _ a _ _ (hnx.ext E) (hac.ext E) 1048576 (by omega)) ?_
  rintro _ w9 ⟨⟨z11, rfl, hz12, hsm13⟩, e10⟩
  have hs15 := Below.size E
  have hs16 := Below.size e10
  replace E := E.trans e10
  replace hB4 := hB4.ext e10
  refine Sq.assign .plain rfl rfl ?_
  refine Sq.nil ?_
  refine Eq.next ?_
  refine Cq.seq ?_
  refine Cq.seq ?_
  refine Cq.region ?_
  refine Sq.move .plain rfl rfl ?_
  refine Sq.lss .plain rfl rfl rfl ?_
  refine Sq.part (fun c17 => ?_) (fun c17 => ?_)
  · refine Sq.nil ?_
    refine Eq.next ?_
    refine Cq.thn rfl ?_
    refine Cq.seq ?_
    refine Cq.region ?_
    refine Sq.assign .plain rfl rfl ?_
    refine Sq.nil ?_
    refine Eq.next ?_
    refine Cq.ret ?_
    refine Eq.pastRet ?_
    refine Eq.ret1 rfl rfl ?_
    exact ⟨rfl, E⟩
  refine Sq.nil ?_
  refine Eq.next ?_
  refine Cq.els rfl ?_
  refine Cq.skip ?_
  refine Eq.next ?_
  refine Cq.seq ?_
  refine Cq.region ?_
  refine Sq.loadAgg agg25 .plain rfl rfl hB4 rfl ?_
  have hd25 := hB4.lt
  refine Sq.call fn7 .plain rfl rfl (toA_c _ a _ _ (hnx.ext E) (hac.ext E) (hsm13 (by omega)).2) ?_
  rintro _ w19 ⟨⟨nx21, ac22, rfl, hn23, ha24⟩, e20⟩
  have hs26 := Below.size E
  have hs27 := Below.size e20
  replace E := E.trans e20
  replace hB4 := hB4.ext e20
  have hl_ha24 := Own.low ha24
  have hd31 := hB4.lt
  refine Sq.call fn14 .plain rfl rfl (sIsMin_c _ a _ _ (OwnRows.rows hn23) (Own.row ha24)) ?_
  rintro _ w29 ⟨rfl, e30⟩
  have hs32 := Below.size E
  have hs33 := Below.size e30
  replace E := E.trans e30
  replace hB4 := hB4.ext e30
  refine Sq.assign .plain rfl rfl ?_
  refine Sq.nil ?_
  refine Eq.next ?_
  refine Cq.seq ?_
  refine Cq.region ?_
  refine Sq.loadAgg agg25 .plain rfl rfl hB4 rfl ?_
  have hd41 := hB4.lt
  refine Sq.call fn7 .plain rfl rfl (toA_c _ a _ _ (hnx.ext E) (hac.ext E) (hsm13 (by omega)).2) ?_
  rintro _ w35 ⟨⟨nx37, ac38, rfl, hn39, ha40⟩, e36⟩
  have hs42 := Below.size E
  have hs43 := Below.size e36
  replace E := E.trans e36
  replace hB4 := hB4.ext e36
  have hl_ha40 := Own.low ha40
  refine Sq.alloc zero29 .plain rfl (fun b44 w45 e46 hB47 hlo48 => ?_)
  have hd49 := Nat.le_trans (Below.size E) hlo48
  have hd50 := Nat.lt_of_lt_of_le hB4.lt hlo48
  have hs51 := Below.size e46
  replace E := E.trans e46
  replace hB4 := hB4.ext e46
  replace hn39 := hn39.ext e46
  replace ha40 := ha40.ext e46
  refine Sq.storeAgg agg29 .plain rfl rfl (one_cons rfl (one_cons (Rows.one (OwnRows.rows hn39)) (one_cons (Row.one (Own.row ha40)) one_nil))) hB47 rfl rfl (fun w52 g53 hB54 => ?_)
  have hs55 := World.grownBy.size g53
  replace E := E.grown g53 (fun k hk => by injection hk with hk; subst hk; omega)
  replace hB4 := hB4.grown g53 (by intro h; injection h with h; omega)
  replace hn39 := hn39.stored g53 hB47 (by decide) (by decide)
  replace ha40 := ha40.stored g53 hB47 (by decide)
  replace hB47 := hB54
  refine Sq.nil ?_
  refine Eq.next ?_
  refine Cq.seq ?_
  refine Cq.region ?_
  refine Sq.loadAgg agg29 .plain rfl rfl hB47 rfl ?_
  have hd59 := hB4.lt
  have hd60 := hB47.lt
  refine Sq.call fn15 .plain rfl rfl (isMin_c _ a _ _ (OwnRows.rows hn39) (Own.row ha40)) ?_
  rintro _ w57 ⟨rfl, e58⟩
  have hs61 := Below.size E
  have hs62 := Below.size e58
  replace E := E.trans e58
  replace hB4 := hB4.ext e58
  replace hn39 := hn39.ext e58
  replace ha40 := ha40.ext e58
  replace hB47 := hB47.ext e58
  refine Sq.assign .plain rfl rfl ?_
  refine Sq.nil ?_
  refine Eq.next ?_
  refine Cq.seq ?_
  refine Cq.seq ?_
  refine Cq.region ?_
  refine Sq.move .plain rfl rfl ?_
  refine Sq.move .plain rfl rfl ?_
  refine Sq.neqB und4 .plain rfl rfl rfl ?_
  refine Sq.beF (by simp) ?_
  refine Sq.nil ?_
  refine Eq.next ?_
  refine Cq.els rfl ?_
  refine Cq.skip ?_
  refine Eq.next ?_
  refine Cq.seq ?_
  refine Cq.seq ?_
  refine Cq.drawS 5 (fun w' => Blk w' b44 29 [Value.int .i64 a.al, nx37, ac38] ∧ Blk w' b1 25 [Value.int .i64 a.al, nx, ac]) mixed (⟨hB47, hB4⟩) (fun w63 e64 hS => ?_)
  clear hS
  have hs65 := Below.size e64
  replace E := E.trans e64
  replace hB4 := hB4.ext e64
  replace hn39 := hn39.ext e64
  replace ha40 := ha40.ext e64
  replace hB47 := hB47.ext e64
  refine Gq.st 0 rfl (by kernel_rfl) rfl .plain rfl (fun _ _ _ h => h) ⟨hB47, hB4⟩ (fun w' x => Still.loadAgg agg29 rfl x.1 rfl) ?_
  refine Gq.st 1 rfl (by kernel_rfl) rfl .plain rfl (fun _ _ _ h => h) ⟨hB47, hB4⟩ (fun w' x => Still.loadAgg agg25 rfl x.2 rfl) ?_
  refine Gq.one 2 rfl (by kernel_rfl) ?_
  have hd73 := hB4.lt
  have hd74 := hB47.lt
  refine Sq.call fn7 .plain rfl rfl (toA_c _ a _ _ (hnx.ext E) (hac.ext E) (hsm13 (by omega)).2) ?_
  rintro _ w67 ⟨⟨nx69, ac70, rfl, hn71, ha72⟩, e68⟩
  have hs75 := Below.size E
  have hs76 := Below.size e68
  replace E := E.trans e68
  replace hB4 := hB4.ext e68
  replace hn39 := hn39.ext e68
  replace ha40 := ha40.ext e68
  replace hB47 := hB47.ext e68
  have hl_ha72 := Own.low ha72
  refine Sq.nil ?_
  refine Eq.goes (fun _ => ⟨hB47, hB4⟩) ?_
  refine Gq.one 3 rfl (by kernel_rfl) ?_
  have hd80 := hB4.lt
  have hd81 := hB47.lt
  refine Sq.call fn10 .plain rfl rfl (eqAut_c _ a a _ _ _ _ (OwnRows.rows hn39) (Own.row ha40) (OwnRows.rows hn71) (Own.row ha72) ((hsm13 (by omega)).2)) ?_
  rintro _ w78 ⟨rfl, e79⟩
  have hs82 := Below.size E
  have hs83 := Below.size e79
  replace E := E.trans e79
  replace hB4 := hB4.ext e79
  replace hB47 := hB47.ext e79
  refine Sq.beT (eqA_refl _) ?_
  refine Sq.nil ?_
  refine Eq.goes (fun _ => ⟨hB47, hB4⟩) ?_
  refine Gq.st 4 rfl (by kernel_rfl) rfl .plain rfl (fun _ _ _ h => h) ⟨hB47, hB4⟩ (fun w' x => Still.notT rfl) ?_
  refine Gq.done (by kernel_rfl) ?_
  refine Eq.next ?_
  refine Cq.els rfl ?_
  refine Cq.skip ?_
  refine Eq.next ?_
  refine Cq.seq ?_
  refine Cq.region ?_
  refine Sq.assign .plain rfl rfl ?_
  refine Sq.nil ?_
  refine Eq.next ?_
  refine Cq.ret ?_
  refine Eq.ret1 rfl rfl ?_
  exact ⟨rfl, E⟩
end Go.Proofs.YtdkdpmmfebdeaaaDoor
