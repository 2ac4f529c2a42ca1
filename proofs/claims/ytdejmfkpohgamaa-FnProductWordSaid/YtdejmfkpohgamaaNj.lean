/-
  Walks, printed by a program out of the translation and a contract for each function; each step is one law.
-/
import Derived.Test.YtdejmfkpohgamaaNi
import Derived.Test.YtdejmfkpohgamaaWj
set_option linter.unusedSimpArgs false
set_option linter.unusedVariables false
namespace Go.Proofs.Ytdejmfkpohgamaa
open Go.RowKit

set_option maxHeartbeats 1000000 in
set_option maxRecDepth 100000 in
theorem sProd_c (w0 : World) (a b : A) (nx ac nx' ac' : Value) (hnx : Rows w0 56 3 nx a.next) (hac : Bools w0 4 ac a.acc) (hnx' : Rows w0 56 3 nx' b.next) (hac' : Bools w0 4 ac' b.acc) (k : Int) : Ret Try.prog 17 #[Value.agg #[Value.int .i64 a.al, nx, ac], Value.agg #[Value.int .i64 b.al, nx', ac'], Value.int .i64 k] w0 (fun v w => (∃ u, v = .tuple #[u, .bool (prodOk a b k)] ∧ OwnA w w0.heap.size u (if prodOk a b k then prodA a b k else zeroA)) ∧ Ext w0 w) := by
  have E := Ext.refl w0
  refine Ret.of (args := [Value.agg #[Value.int .i64 a.al, nx, ac], Value.agg #[Value.int .i64 b.al, nx', ac'], Value.int .i64 k]) Try.func17 rfl rfl rfl ?_
  rintro _ rfl
  show Cq _ _ _ _ [(0, Value.agg #[Value.int .i64 a.al, nx, ac]), (1, Value.agg #[Value.int .i64 b.al, nx', ac']), (2, Value.int .i64 k)] _
  refine Cq.seq ?_
  refine Cq.region ?_
  refine Sq.box .plain rfl rfl (fun b1 w2 e3 hB4 hlo5 => ?_)
  have hd6 := Nat.le_trans (Below.size E) hlo5
  have hs7 := Below.size e3
  replace E := E.trans e3
  refine Sq.box .plain rfl rfl (fun b8 w9 e10 hB11 hlo12 => ?_)
  have hd13 := Nat.le_trans (Below.size E) hlo12
  have hd14 := Nat.lt_of_lt_of_le hB4.lt hlo12
  have hs15 := Below.size e10
  replace E := E.trans e10
  replace hB4 := hB4.ext e10
  refine Sq.alloc zero26 .plain rfl (fun b16 w17 e18 hB19 hlo20 => ?_)
  have hd21 := Nat.le_trans (Below.size E) hlo20
  have hd22 := Nat.lt_of_lt_of_le hB4.lt hlo20
  have hd23 := Nat.lt_of_lt_of_le hB11.lt hlo20
  have hs24 := Below.size e18
  replace E := E.trans e18
  replace hB4 := hB4.ext e18
  replace hB11 := hB11.ext e18
  refine Sq.assign .plain rfl rfl ?_
  refine Sq.nil ?_
  refine Eq.next ?_
  refine Cq.seq ?_
  refine Cq.seq ?_
  refine Cq.region ?_
  refine Sq.loadAgg agg26 .plain rfl rfl hB4 rfl ?_
  have hd28 := hB4.lt
  have hd29 := hB11.lt
  have hd30 := hB19.lt
  refine Sq.call fn52 .plain rfl rfl (sValid_c _ a _ _ (hnx.ext E) (hac.ext E)) ?_
  rintro _ w26 ⟨rfl, e27⟩
  have hs31 := Below.size E
  have hs32 := Below.size e27
  replace E := E.trans e27
  replace hB4 := hB4.ext e27
  replace hB11 := hB11.ext e27
  replace hB19 := hB19.ext e27
  refine Sq.partB (fun hv => ?_) (fun hv => ?_)
  · refine Sq.notT .plain rfl rfl ?_
    refine Sq.move .plain rfl rfl ?_
    refine Sq.loadAgg agg26 (.met rfl rfl rfl) rfl rfl hB11 rfl ?_
    have hd36 := hB4.lt
    have hd37 := hB11.lt
    have hd38 := hB19.lt
    refine Sq.call fn52 (.met rfl rfl rfl) rfl rfl (sValid_c _ b _ _ (hnx'.ext E) (hac'.ext E)) ?_
    rintro _ w34 ⟨rfl, e35⟩
    have hs39 := Below.size E
    have hs40 := Below.size e35
    replace E := E.trans e35
    replace hB4 := hB4.ext e35
    replace hB11 := hB11.ext e35
    replace hB19 := hB19.ext e35
    refine Sq.partB (fun hv' => ?_) (fun hv' => ?_)
    · refine Sq.notT (.met rfl rfl rfl) rfl rfl ?_
      refine Sq.pickF .plain rfl rfl rfl ?_
      refine Sq.move .plain rfl rfl ?_
      refine Sq.move (.met rfl rfl rfl) rfl rfl ?_
      refine Sq.lss (.met rfl rfl rfl) rfl rfl rfl ?_
      refine Sq.part (fun hka => ?_) (fun hka => ?_)
      · refine Sq.pickF .plain rfl rfl rfl ?_
        refine Sq.move .plain rfl rfl ?_
        refine Sq.off rfl rfl rfl rfl rfl rfl ?_
        refine Sq.off rfl rfl rfl rfl rfl rfl ?_
        refine Sq.pickT .plain rfl rfl rfl ?_
        refine Sq.nil ?_
        refine Eq.next ?_
        refine Cq.thn rfl ?_
        refine Cq.seq ?_
        refine Cq.region ?_
        refine Sq.build st26 rfl rfl .plain rfl rfl one_nil rfl ?_
        refine Sq.storeAgg agg26 .plain rfl rfl (one_cons rfl (one_cons rfl (one_cons rfl one_nil))) hB19 rfl rfl (fun w41 g42 hB43 => ?_)
        have hs44 := World.grownBy.size g42
        replace E := E.grown g42 (fun k hk => by injection hk with hk; subst hk; omega)
        replace hB4 := hB4.grown g42 (by intro h; injection h with h; omega)
        replace hB11 := hB11.grown g42 (by intro h; injection h with h; omega)
        replace hB19 := hB43
        refine Sq.assign .plain rfl rfl ?_
        refine Sq.nil ?_
        refine Eq.next ?_
        refine Cq.ret ?_
        refine Eq.pastRet ?_
        refine Eq.retCell2 rfl rfl agg26 hB19 rfl rfl ?_
        have hno : prodOk a b k = false := prodOk_no (.inr (.inr (by omega)))
        exact ⟨⟨_, by rw [hno], by rw [if_neg (by rw [hno]; decide)]; exact ⟨_, _, rfl, OwnRows.nil _ _ _ _ _, Own.nil _ _ _⟩⟩, E⟩
      · refine Sq.pickF .plain rfl rfl rfl ?_
        refine Sq.move .plain rfl rfl ?_
        refine Sq.move (.met rfl rfl rfl) rfl rfl ?_
        refine Sq.gtr (.met rfl rfl rfl) rfl rfl rfl ?_
        refine Sq.part (fun hkb => ?_) (fun hkb => ?_)
        · refine Sq.pickF .plain rfl rfl rfl ?_
          refine Sq.nil ?_
          refine Eq.next ?_
          refine Cq.thn rfl ?_
          refine Cq.seq ?_
          refine Cq.region ?_
          refine Sq.build st26 rfl rfl .plain rfl rfl one_nil rfl ?_
          refine Sq.storeAgg agg26 .plain rfl rfl (one_cons rfl (one_cons rfl (one_cons rfl one_nil))) hB19 rfl rfl (fun w45 g46 hB47 => ?_)
          have hs48 := World.grownBy.size g46
          replace E := E.grown g46 (fun k hk => by injection hk with hk; subst hk; omega)
          replace hB4 := hB4.grown g46 (by intro h; injection h with h; omega)
          replace hB11 := hB11.grown g46 (by intro h; injection h with h; omega)
          replace hB19 := hB47
          refine Sq.assign .plain rfl rfl ?_
          refine Sq.nil ?_
          refine Eq.next ?_
          refine Cq.ret ?_
          refine Eq.pastRet ?_
          refine Eq.retCell2 rfl rfl agg26 hB19 rfl rfl ?_
          have hno : prodOk a b k = false := prodOk_no (.inr (.inr (by omega)))
          exact ⟨⟨_, by rw [hno], by rw [if_neg (by rw [hno]; decide)]; exact ⟨_, _, rfl, OwnRows.nil _ _ _ _ _, Own.nil _ _ _⟩⟩, E⟩
        · refine Sq.pickF .plain rfl rfl rfl ?_
          refine Sq.nil ?_
          refine Eq.next ?_
          refine Cq.els rfl ?_
          refine Cq.skip ?_
          refine Eq.next ?_
          refine Cq.seq ?_
          refine Cq.region ?_
          refine Sq.fieldAddr fld26_0 .plain rfl rfl ?_
          refine Sq.loadB one3 .plain rfl rfl hB4 rfl ?_
          refine Sq.fieldAddr fld26_0 .plain rfl rfl ?_
          refine Sq.loadB one3 .plain rfl rfl hB11 rfl ?_
          refine Sq.or .plain rfl rfl rfl (by have := (validA_spec.1 hv).1; have := (validA_spec.1 hv').1; omega) ?_
          refine Sq.build st26 rfl rfl .plain rfl rfl (one_cons rfl one_nil) rfl ?_
          refine Sq.alloc zero26 .plain rfl (fun b49 w50 e51 hB52 hlo53 => ?_)
          have hd54 := Nat.le_trans (Below.size E) hlo53
          have hd55 := Nat.lt_of_lt_of_le hB4.lt hlo53
          have hd56 := Nat.lt_of_lt_of_le hB11.lt hlo53
          have hd57 := Nat.lt_of_lt_of_le hB19.lt hlo53
          have hs58 := Below.size e51
          replace E := E.trans e51
          replace hB4 := hB4.ext e51
          replace hB11 := hB11.ext e51
          replace hB19 := hB19.ext e51
          refine Sq.storeAgg agg26 .plain rfl rfl (one_cons rfl (one_cons rfl (one_cons rfl one_nil))) hB52 rfl rfl (fun w59 g60 hB61 => ?_)
          have hs62 := World.grownBy.size g60
          replace E := E.grown g60 (fun k hk => by injection hk with hk; subst hk; omega)
          replace hB4 := hB4.grown g60 (by intro h; injection h with h; omega)
          replace hB11 := hB11.grown g60 (by intro h; injection h with h; omega)
          replace hB19 := hB19.grown g60 (by intro h; injection h with h; omega)
          replace hB52 := hB61
          refine Sq.nil ?_
          refine Eq.next ?_
          refine Cq.seq ?_
          refine Cq.region ?_
          have hpal := prod_al hv hv'
          refine Sq.fieldAddr fld26_0 .plain rfl rfl ?_
          refine Sq.loadB one3 .plain rfl rfl hB52 rfl ?_
          have hd67 := hB4.lt
          have hd68 := hB11.lt
          have hd69 := hB19.lt
          have hd70 := hB52.lt
          refine Sq.call fn53 .plain rfl rfl (l1Letters_c (orI a.al b.al) (by omega) _) ?_
          rintro v63 w64 ⟨hl66, e65⟩
          have hs71 := Below.size E
          have hs72 := Below.size e65
          replace E := E.trans e65
          replace hB4 := hB4.ext e65
          replace hB11 := hB11.ext e65
          replace hB19 := hB19.ext e65
          replace hB52 := hB52.ext e65
          refine Sq.assign .plain rfl rfl ?_
          refine Sq.nil ?_
          refine Eq.next ?_
          refine Cq.seq ?_
          refine Cq.region ?_
          refine Sq.build st65 rfl rfl .plain rfl rfl one_nil rfl ?_
          refine Sq.litW slw66 rfl rfl (by decide) .plain rfl (rows := [[Value.int .i64 0, Value.int .i64 0]]) rfl (fun r hr => by rw [List.mem_singleton.1 hr]; exact ⟨rfl, one_cons rfl (one_cons rfl one_nil)⟩) (fun b73 w74 e75 hlo76 hw77 hk78 => ?_)
          have hs79 := Below.size e75
          replace E := E.trans e75
          replace hB4 := hB4.ext e75
          replace hB11 := hB11.ext e75
          replace hB19 := hB19.ext e75
          replace hB52 := hB52.ext e75
          replace hl66 := hl66.ext e75
          have hW : Wid w74 w0.heap.size 65 2 _ (rows2 [(0, 0)]) := hw77 w0.heap.size (by omega)
          refine Sq.assign .plain rfl rfl ?_
          refine Sq.nil ?_
          refine Eq.next ?_
          refine Cq.seq ?_
          refine Cq.seq ?_
          refine Cq.region ?_
          refine Sq.assign .plain rfl rfl ?_
          refine Sq.nil ?_
          refine Eq.next ?_
          refine Cq.block ?_
          have hz1 := (validA_spec.1 hv).2
          have hz2 := (validA_spec.1 hv').2
          have h144 := le144 hv hv'
          have hlet := letters_len6 (orI a.al b.al)
          refine Cq.loop (fun nn w ls => ∃ (i : Int), ∃ (lv : Value), ∃ (nxv : Value), ∃ (acv : Value), ∃ (xss : List (List Int)), ∃ (ys : List Bool), ls = [(2, Value.int .i64 k), (3, Value.pointer (some ⟨b1, 0, none⟩)), (4, Value.pointer (some ⟨b8, 0, none⟩)), (6, Value.pointer (some ⟨b16, 0, none⟩)), (7, Value.bool false), (8, Value.pointer (some ⟨b49, 0, none⟩)), (9, v63), (10, lv), (11, Value.int .i64 i)] ∧ (0 ≤ i ∧ i ≤ (bfs (step2 a b) (0, 0) (letters (orI a.al b.al)) i.toNat).length) ∧ Wid w w0.heap.size 65 2 lv (rows2 (bfs (step2 a b) (0, 0) (letters (orI a.al b.al)) i.toNat)) ∧ Blk w b49 26 [Value.int .i64 (orI a.al b.al), nxv, acv] ∧ OwnRows w w0.heap.size w.heap.size 56 3 nxv xss ∧ Own w w0.heap.size 4 acv (ys.map Value.bool) ∧ xss = rowsAt (step2 a b) (letters (orI a.al b.al)) (bfs (step2 a b) (0, 0) (letters (orI a.al b.al)) i.toNat) i.toNat ∧ ys = ((bfs (step2 a b) (0, 0) (letters (orI a.al b.al)) i.toNat).take i.toNat).map (acc2 a b k) ∧ ((bfs (step2 a b) (0, 0) (letters (orI a.al b.al)) i.toNat).length ≤ 12) ∧ Ext w0 w ∧ Blk w b1 26 [Value.int .i64 a.al, nx, ac] ∧ Blk w b8 26 [Value.int .i64 b.al, nx', ac'] ∧ Blk w b16 26 [Value.int .i64 0, Value.slice none 0 0, Value.slice none 0 0] ∧ Own w w59.heap.size 3 v63 ((letters (orI a.al b.al)).map (Value.int .i64)) ∧ nn = (14 - i).toNat) _ _ ⟨0, _, _, _, [], [], rfl, ⟨by omega, by show (0 : Int) ≤ ((1 : Nat) : Int); omega⟩, hW, hB52, OwnRows.nil _ _ _ _ _, Own.nil _ _ _, rfl, rfl, by show 1 ≤ 12; omega, E, hB4, hB11, hB19, hl66, rfl⟩ (.cons rfl (.cons rfl (.cons rfl (.cons rfl (.cons rfl (.cons rfl (.cons rfl (.cons rfl (.cons rfl (.nil)))))))))) ?_
          rintro nn wl1 ls ⟨i, lv, nxv, acv, xss, ys, rfl, hi, hW, hBr, hor, hoa, hxs, hys, hlm, E, hB4, hB11, hB19, hl66, rfl⟩
          have hs80 := Below.size E
          have hlow := Own.low hl66
          have hb0 := bfs_all (f := step2 a b) (s := ((0, 0) : Int × Int)) (L := (letters (orI a.al b.al))) (P := In2 a b) (in_zero hv hv') (in_step hv hv') i.toNat
          have hxl : xss.length ≤ 20 := by rw [hxs, rowsAt_length _ _ (by omega)]; omega
          have hyl : ys.length ≤ 20 := by rw [hys, List.length_map, List.length_take]; omega
          refine Cq.seq ?_
          refine Cq.seq ?_
          refine Cq.region ?_
          refine Sq.move .plain rfl rfl ?_
          refine Sq.move .plain rfl rfl ?_
          refine Sq.lenWid hW .plain rfl und66 rfl ?_
          rw [rows2_length]
          refine Sq.lss .plain rfl rfl rfl ?_
          refine Sq.part (fun c81 => ?_) (fun c81 => ?_)
          · refine Sq.nil ?_
            refine Eq.next ?_
            refine Cq.thn rfl ?_
            refine Cq.skip ?_
            refine Eq.next ?_
            refine Cq.seq ?_
            refine Cq.block ?_
            refine Cq.seq ?_
            refine Cq.region ?_
            refine Sq.lit sl56 rfl rfl .plain rfl rfl one_nil (fun b82 w83 e84 hlo85 ho86 _ => ?_)
            replace ho86 := ho86 wl1.heap.size (Nat.le_refl _)
            have hs88 := Below.size e84
            replace E := E.trans e84
            replace hB4 := hB4.ext e84
            replace hB11 := hB11.ext e84
            replace hB19 := hB19.ext e84
            replace hl66 := hl66.ext e84
            replace hW := hW.ext e84
            replace hBr := hBr.ext e84
            replace hor := hor.ext e84
            replace hoa := hoa.ext e84
            refine Sq.assign .plain rfl rfl ?_
            refine Sq.nil ?_
            refine Eq.next ?_
            refine Cq.seq ?_
            refine Cq.seq ?_
            refine Cq.region ?_
            refine Sq.assign .plain rfl rfl ?_
            refine Sq.nil ?_
            refine Eq.next ?_
            refine Cq.block ?_
            obtain ⟨q, hq⟩ : ∃ q, (bfs (step2 a b) (0, 0) (letters (orI a.al b.al)) i.toNat)[i.toNat]? = some q := ⟨_, List.getElem?_eq_getElem (by omega)⟩
            have hqi : In2 a b q := hb0 _ (List.mem_of_getElem? hq)
            have hqi' := hqi
            have hqi1 := hqi.1
            have hqi2 := hqi.2
            refine Cq.loop (fun nn w ls => ∃ (k2 : Int), ∃ (lv2 : Value), ∃ (rv : Value), ∃ (row : List Int), ls = [(2, Value.int .i64 k), (3, Value.pointer (some ⟨b1, 0, none⟩)), (4, Value.pointer (some ⟨b8, 0, none⟩)), (6, Value.pointer (some ⟨b16, 0, none⟩)), (7, Value.bool false), (8, Value.pointer (some ⟨b49, 0, none⟩)), (9, v63), (10, lv2), (11, Value.int .i64 i), (12, rv), (13, Value.int .i64 k2)] ∧ (0 ≤ k2 ∧ k2 ≤ (letters (orI a.al b.al)).length) ∧ wl1.heap.size ≤ w.heap.size ∧ Wid w w0.heap.size 65 2 lv2 (rows2 (mid (step2 a b) (0, 0) (letters (orI a.al b.al)) i.toNat q k2.toNat)) ∧ Own w wl1.heap.size 3 rv (row.map (Value.int .i64)) ∧ row = rowTo (step2 a b) (letters (orI a.al b.al)) (mid (step2 a b) (0, 0) (letters (orI a.al b.al)) i.toNat q k2.toNat) q k2.toNat ∧ Ext w0 w ∧ Blk w b1 26 [Value.int .i64 a.al, nx, ac] ∧ Blk w b8 26 [Value.int .i64 b.al, nx', ac'] ∧ Blk w b16 26 [Value.int .i64 0, Value.slice none 0 0, Value.slice none 0 0] ∧ Blk w b49 26 [Value.int .i64 (orI a.al b.al), nxv, acv] ∧ OwnRows w w0.heap.size wl1.heap.size 56 3 nxv xss ∧ Own w w0.heap.size 4 acv (ys.map Value.bool) ∧ Own w w59.heap.size 3 v63 ((letters (orI a.al b.al)).map (Value.int .i64)) ∧ nn = ((letters (orI a.al b.al)).length - k2).toNat) _ _ ⟨0, _, _, [], rfl, by omega, by omega, hW, ho86, rfl, E, hB4, hB11, hB19, hBr, hor, hoa, hl66, rfl⟩ (.cons rfl (.cons rfl (.cons rfl (.cons rfl (.cons rfl (.cons rfl (.cons rfl (.cons rfl (.cons rfl (.cons rfl (.cons rfl (.nil)))))))))))) ?_
            rintro nn wl2 ls ⟨k2, lv2, rv, row, rfl, hk, hsz, hW, hro, hrow, E, hB4, hB11, hB19, hBr, hor, hoa, hl66, rfl⟩
            have hs89 := Below.size E
            have hWl := Wid.low hW
            have hdd0 := Blk.lt hB4
            have hdd1 := Blk.lt hB11
            have hdd2 := Blk.lt hB19
            have hdd3 := Blk.lt hBr
            have hlt : k2 < (letters (orI a.al b.al)).length → 0 ≤ ((letters (orI a.al b.al)).getD k2.toNat 0) ∧ ((letters (orI a.al b.al)).getD k2.toNat 0) < 6 := fun h => letters_at (orI a.al b.al) (by omega)
            have hml := (mid_prefix0 (f := step2 a b) (s := ((0, 0) : Int × Int)) (L := (letters (orI a.al b.al))) i.toNat q k2.toNat).length_le
            have hmh := mid_le (f := step2 a b) (s := ((0, 0) : Int × Int)) (L := (letters (orI a.al b.al))) (i := i.toNat) (q := q) (k := k2.toNat)
            have hcm := mid_at2 (k := k2.toNat) hq
            have hrl : row.length ≤ 6 := by rw [hrow, rowTo, List.length_map, List.length_take]; omega
            have hc1 : 0 ≤ ((mid (step2 a b) (0, 0) (letters (orI a.al b.al)) i.toNat q k2.toNat).getD i.toNat (0, 0)).1 ∧ ((mid (step2 a b) (0, 0) (letters (orI a.al b.al)) i.toNat q k2.toNat).getD i.toNat (0, 0)).1 < a.next.length := by rw [hcm]; exact hqi.1
            have hc2 : 0 ≤ ((mid (step2 a b) (0, 0) (letters (orI a.al b.al)) i.toNat q k2.toNat).getD i.toNat (0, 0)).2 ∧ ((mid (step2 a b) (0, 0) (letters (orI a.al b.al)) i.toNat q k2.toNat).getD i.toNat (0, 0)).2 < b.next.length := by rw [hcm]; exact hqi.2
            refine Cq.seq ?_
            refine Cq.seq ?_
            refine Cq.region ?_
            refine Sq.move .plain rfl rfl ?_
            refine Sq.move .plain rfl rfl ?_
            refine Sq.lenInts (Own.row hl66) .plain rfl und56 rfl ?_
            refine Sq.lss .plain rfl rfl rfl ?_
            refine Sq.part (fun c90 => ?_) (fun c90 => ?_)
            · refine Sq.nil ?_
              refine Eq.next ?_
              refine Cq.thn rfl ?_
              refine Cq.skip ?_
              refine Eq.next ?_
              refine Cq.seq ?_
              refine Cq.block ?_
              refine Cq.seq ?_
              refine Cq.cut (fun ls w => ∃ (bp : Nat), ls = [(2, Value.int .i64 k), (3, Value.pointer (some ⟨b1, 0, none⟩)), (4, Value.pointer (some ⟨b8, 0, none⟩)), (6, Value.pointer (some ⟨b16, 0, none⟩)), (7, Value.bool false), (8, Value.pointer (some ⟨b49, 0, none⟩)), (9, v63), (10, lv2), (11, Value.int .i64 i), (12, rv), (13, Value.int .i64 k2), (14, Value.pointer (some ⟨bp, 0, none⟩))] ∧ Blk w bp 65 [Value.int .i64 (goA a (((mid (step2 a b) (0, 0) (letters (orI a.al b.al)) i.toNat q k2.toNat).getD i.toNat (0, 0)).1) ((letters (orI a.al b.al)).getD k2.toNat 0)), Value.int .i64 (goA b (((mid (step2 a b) (0, 0) (letters (orI a.al b.al)) i.toNat q k2.toNat).getD i.toNat (0, 0)).2) ((letters (orI a.al b.al)).getD k2.toNat 0))] ∧ wl2.heap.size ≤ bp ∧ Ext w0 w ∧ Blk w b1 26 [Value.int .i64 a.al, nx, ac] ∧ Blk w b8 26 [Value.int .i64 b.al, nx', ac'] ∧ Blk w b16 26 [Value.int .i64 0, Value.slice none 0 0, Value.slice none 0 0] ∧ Blk w b49 26 [Value.int .i64 (orI a.al b.al), nxv, acv] ∧ OwnRows w w0.heap.size wl1.heap.size 56 3 nxv xss ∧ Own w w0.heap.size 4 acv (ys.map Value.bool) ∧ Own w w59.heap.size 3 v63 ((letters (orI a.al b.al)).map (Value.int .i64)) ∧ Wid w w0.heap.size 65 2 lv2 (rows2 (mid (step2 a b) (0, 0) (letters (orI a.al b.al)) i.toNat q k2.toNat)) ∧ Own w wl1.heap.size 3 rv (row.map (Value.int .i64))) ?_ ?_
              · have hlx := hlt (by omega)
                obtain ⟨pL, hpL⟩ := Ints.at (Own.row hl66) (i := k2) (by omega) (by omega)
                refine Cq.drawS 24 (fun w' => Blk w' b1 26 [Value.int .i64 a.al, nx, ac] ∧ Blk w' b8 26 [Value.int .i64 b.al, nx', ac'] ∧ Wid w' w0.heap.size 65 2 lv2 (rows2 (mid (step2 a b) (0, 0) (letters (orI a.al b.al)) i.toNat q k2.toNat)) ∧ At w' 3 v63 k2 pL (.int .i64 ((letters (orI a.al b.al)).getD k2.toNat 0))) mixed (⟨hB4, hB11, hW, hpL⟩) (fun w91 e92 hS => ?_)
                clear hS
                have hs93 := Below.size e92
                replace E := E.trans e92
                replace hB4 := hB4.ext e92
                replace hB11 := hB11.ext e92
                replace hB19 := hB19.ext e92
                replace hBr := hBr.ext e92
                replace hor := hor.ext e92
                replace hoa := hoa.ext e92
                replace hl66 := hl66.ext e92
                replace hW := hW.ext e92
                replace hro := hro.ext e92
                replace hpL := hpL.ext e92
                have E_w91 := E
                have hB4_w91 := hB4
                have hB11_w91 := hB11
                have hB19_w91 := hB19
                have hBr_w91 := hBr
                have hor_w91 := hor
                have hoa_w91 := hoa
                have hl66_w91 := hl66
                have hW_w91 := hW
                have hro_w91 := hro
                have hpL_w91 := hpL
                refine Gq.st 0 rfl (by kernel_rfl) rfl .plain rfl (fun _ _ _ h => h) ⟨hB4, hB11, hW, hpL⟩ (fun w' x => Still.loadAgg agg26 rfl x.1 rfl) ?_
                refine Gq.st 1 rfl (by kernel_rfl) rfl .plain rfl (fun _ _ _ h => h) ⟨hB4, hB11, hW, hpL⟩ (fun w' x => Still.move rfl) ?_
                refine Gq.st 2 rfl (by kernel_rfl) rfl .plain rfl (fun _ _ _ h => h) ⟨hB4, hB11, hW, hpL⟩ (fun w' x => Still.move rfl) ?_
                obtain ⟨ghgw94, chgw94, hgw94⟩ := Wid.pair hW_w91 (i := i) (by omega) (by omega)
                refine Gq.st 3 rfl (by kernel_rfl) rfl .plain rfl (fun _ _ _ h => h) ⟨hB4, hB11, hW, hpL⟩ (fun w' x => Still.ixV slw66 hgw94 rfl rfl (by omega)) ?_
                refine Gq.st 4 rfl (by kernel_rfl) rfl .plain rfl (fun _ _ _ h => h) ⟨hB4, hB11, hW, hpL⟩ (fun w' x => Still.fieldAddr fld65_0 rfl) ?_
                refine Gq.st 5 rfl (by kernel_rfl) rfl .plain rfl (fun _ _ _ h => h) ⟨hB4, hB11, hW, hpL⟩ (fun w' x => Still.load one3 rfl (Wid.cell2 hgw94 x.2.2.1 (by omega) (by omega)).1) ?_
                refine Gq.st 6 rfl (by kernel_rfl) rfl .plain rfl (fun _ _ _ h => h) ⟨hB4, hB11, hW, hpL⟩ (fun w' x => Still.move rfl) ?_
                refine Gq.st 7 rfl (by kernel_rfl) rfl .plain rfl (fun _ _ _ h => h) ⟨hB4, hB11, hW, hpL⟩ (fun w' x => Still.move rfl) ?_
                refine Gq.st 8 rfl (by kernel_rfl) rfl .plain rfl (fun _ _ _ h => h) ⟨hB4, hB11, hW, hpL⟩ (fun w' x => Still.at' sl56 hpL rfl rfl) ?_
                refine Gq.st 9 rfl (by kernel_rfl) rfl .plain rfl (fun _ _ _ h => h) ⟨hB4, hB11, hW, hpL⟩ (fun w' x => Still.loadA one3 rfl (x.2.2.2).1) ?_
                refine Gq.st 11 rfl (by kernel_rfl) rfl .plain rfl (fun _ _ _ h => h) ⟨hB4, hB11, hW, hpL⟩ (fun w' x => Still.loadAgg agg26 rfl x.2.1 rfl) ?_
                refine Gq.st 12 rfl (by kernel_rfl) rfl .plain rfl (fun _ _ _ h => h) ⟨hB4, hB11, hW, hpL⟩ (fun w' x => Still.move rfl) ?_
                refine Gq.st 13 rfl (by kernel_rfl) rfl .plain rfl (fun _ _ _ h => h) ⟨hB4, hB11, hW, hpL⟩ (fun w' x => Still.move rfl) ?_
                obtain ⟨ghgw95, chgw95, hgw95⟩ := Wid.pair hW_w91 (i := i) (by omega) (by omega)
                refine Gq.st 14 rfl (by kernel_rfl) rfl .plain rfl (fun _ _ _ h => h) ⟨hB4, hB11, hW, hpL⟩ (fun w' x => Still.ixV slw66 hgw95 rfl rfl (by omega)) ?_
                refine Gq.st 15 rfl (by kernel_rfl) rfl .plain rfl (fun _ _ _ h => h) ⟨hB4, hB11, hW, hpL⟩ (fun w' x => Still.fieldAddr fld65_1 rfl) ?_
                refine Gq.st 16 rfl (by kernel_rfl) rfl .plain rfl (fun _ _ _ h => h) ⟨hB4, hB11, hW, hpL⟩ (fun w' x => Still.load one3 rfl (Wid.cell2 hgw95 x.2.2.1 (by omega) (by omega)).2) ?_
                refine Gq.st 17 rfl (by kernel_rfl) rfl .plain rfl (fun _ _ _ h => h) ⟨hB4, hB11, hW, hpL⟩ (fun w' x => Still.move rfl) ?_
                refine Gq.st 18 rfl (by kernel_rfl) rfl .plain rfl (fun _ _ _ h => h) ⟨hB4, hB11, hW, hpL⟩ (fun w' x => Still.move rfl) ?_
                refine Gq.st 19 rfl (by kernel_rfl) rfl .plain rfl (fun _ _ _ h => h) ⟨hB4, hB11, hW, hpL⟩ (fun w' x => Still.at' sl56 hpL rfl rfl) ?_
                refine Gq.st 20 rfl (by kernel_rfl) rfl .plain rfl (fun _ _ _ h => h) ⟨hB4, hB11, hW, hpL⟩ (fun w' x => Still.loadA one3 rfl (x.2.2.2).1) ?_
                refine Gq.two 10 23 rfl rfl (by kernel_rfl) ?_ ?_
                · have hd99 := hB4.lt
                  have hd100 := hB11.lt
                  have hd101 := hB19.lt
                  have hd102 := hBr.lt
                  refine Sq.call fn54 .plain rfl rfl (l3Go_c _ a _ _ (hnx.ext E) (hac.ext E) hv (((mid (step2 a b) (0, 0) (letters (orI a.al b.al)) i.toNat q k2.toNat).getD i.toNat (0, 0)).1) (((letters (orI a.al b.al)).getD k2.toNat 0)) (by omega) (by omega)) ?_
                  rintro _ w97 ⟨rfl, e98⟩
                  have hs103 := Below.size E
                  have hs104 := Below.size e98
                  replace E := E.trans e98
                  replace hB4 := hB4.ext e98
                  replace hB11 := hB11.ext e98
                  replace hB19 := hB19.ext e98
                  replace hBr := hBr.ext e98
                  replace hor := hor.ext e98
                  replace hoa := hoa.ext e98
                  replace hl66 := hl66.ext e98
                  replace hW := hW.ext e98
                  replace hro := hro.ext e98
                  replace hpL := hpL.ext e98
                  refine Sq.nil ?_
                  refine Eq.goes (fun _ => ⟨hB4, hB11, hW, hpL⟩) ?_
                  refine Gq.two 21 23 rfl rfl (by kernel_rfl) ?_ ?_
                  · have hd108 := hB4.lt
                    have hd109 := hB11.lt
                    have hd110 := hB19.lt
                    have hd111 := hBr.lt
                    refine Sq.call fn54 .plain rfl rfl (l3Go_c _ b _ _ (hnx'.ext E) (hac'.ext E) hv' (((mid (step2 a b) (0, 0) (letters (orI a.al b.al)) i.toNat q k2.toNat).getD i.toNat (0, 0)).2) (((letters (orI a.al b.al)).getD k2.toNat 0)) (by omega) (by omega)) ?_
                    rintro _ w106 ⟨rfl, e107⟩
                    have hs112 := Below.size E
                    have hs113 := Below.size e107
                    replace E := E.trans e107
                    replace hB4 := hB4.ext e107
                    replace hB11 := hB11.ext e107
                    replace hB19 := hB19.ext e107
                    replace hBr := hBr.ext e107
                    replace hor := hor.ext e107
                    replace hoa := hoa.ext e107
                    replace hl66 := hl66.ext e107
                    replace hW := hW.ext e107
                    replace hro := hro.ext e107
                    replace hpL := hpL.ext e107
                    refine Sq.nil ?_
                    refine Eq.goes (fun _ => ⟨hB4, hB11, hW, hpL⟩) ?_
                    refine Gq.st 22 rfl (by kernel_rfl) rfl .plain rfl (fun _ _ _ h => h) ⟨hB4, hB11, hW, hpL⟩ (fun w' x => Still.build st65 rfl rfl rfl (one_cons rfl (one_cons rfl one_nil)) rfl) ?_
                    refine Gq.one 23 rfl (by kernel_rfl) ?_
                    refine Sq.alloc zero65 .plain rfl (fun b114 w115 e116 hB117 hlo118 => ?_)
                    have hd119 := Nat.le_trans (Below.size E) hlo118
                    have hd120 := Nat.lt_of_lt_of_le hB4.lt hlo118
                    have hd121 := Nat.lt_of_lt_of_le hB11.lt hlo118
                    have hd122 := Nat.lt_of_lt_of_le hB19.lt hlo118
                    have hd123 := Nat.lt_of_lt_of_le hBr.lt hlo118
                    have hs124 := Below.size e116
                    replace E := E.trans e116
                    replace hB4 := hB4.ext e116
                    replace hB11 := hB11.ext e116
                    replace hB19 := hB19.ext e116
                    replace hBr := hBr.ext e116
                    replace hor := hor.ext e116
                    replace hoa := hoa.ext e116
                    replace hl66 := hl66.ext e116
                    replace hW := hW.ext e116
                    replace hro := hro.ext e116
                    replace hpL := hpL.ext e116
                    refine Sq.nil ?_
                    refine Eq.goes (fun _ => ⟨hB4, hB11, hW, hpL⟩) ?_
                    refine Gq.one 24 rfl (by kernel_rfl) ?_
                    refine Sq.storeAgg agg65 .plain rfl rfl (one_cons rfl (one_cons rfl one_nil)) hB117 rfl rfl (fun w125 g126 hB127 => ?_)
                    have hs128 := World.grownBy.size g126
                    replace E := E.grown g126 (fun k hk => by injection hk with hk; subst hk; omega)
                    replace hB4 := hB4.grown g126 (by intro h; injection h with h; omega)
                    replace hB11 := hB11.grown g126 (by intro h; injection h with h; omega)
                    replace hB19 := hB19.grown g126 (by intro h; injection h with h; omega)
                    replace hBr := hBr.grown g126 (by intro h; injection h with h; omega)
                    replace hor := hor.stored g126 hB117 (by decide) (by decide)
                    replace hoa := hoa.stored g126 hB117 (by decide)
                    replace hl66 := hl66.stored g126 hB117 (by decide)
                    replace hW := hW.storedN g126 hWl (by omega)
                    replace hro := hro.stored g126 hB117 (by decide)
                    replace hpL := hpL.stored g126 hB117 (by decide)
                    replace hB117 := hB127
                    refine Sq.nil ?_
                    refine Eq.goes (fun h => absurd h (by decide)) ?_
                    refine Gq.done (by kernel_rfl) ?_
                    refine Eq.left _ ⟨b114, rfl, hB117, by omega, E, hB4, hB11, hB19, hBr, hor, hoa, hl66, hW, hro⟩ (.cons rfl (.cons rfl (.cons rfl (.cons rfl (.cons rfl (.cons rfl (.cons rfl (.cons rfl (.cons rfl (.cons rfl (.cons rfl (.cons rfl (.nil)))))))))))))
                  · refine Sq.alloc zero65 .plain rfl (fun b129 w130 e131 hB132 hlo133 => ?_)
                    have hd134 := Nat.le_trans (Below.size E) hlo133
                    have hd135 := Nat.lt_of_lt_of_le hB4.lt hlo133
                    have hd136 := Nat.lt_of_lt_of_le hB11.lt hlo133
                    have hd137 := Nat.lt_of_lt_of_le hB19.lt hlo133
                    have hd138 := Nat.lt_of_lt_of_le hBr.lt hlo133
                    have hs139 := Below.size e131
                    replace E := E.trans e131
                    replace hB4 := hB4.ext e131
                    replace hB11 := hB11.ext e131
                    replace hB19 := hB19.ext e131
                    replace hBr := hBr.ext e131
                    replace hor := hor.ext e131
                    replace hoa := hoa.ext e131
                    replace hl66 := hl66.ext e131
                    replace hW := hW.ext e131
                    replace hro := hro.ext e131
                    replace hpL := hpL.ext e131
                    refine Sq.nil ?_
                    refine Eq.goes (fun _ => ⟨hB4, hB11, hW, hpL⟩) ?_
                    refine Gq.one 21 rfl (by kernel_rfl) ?_
                    have hd143 := hB4.lt
                    have hd144 := hB11.lt
                    have hd145 := hB19.lt
                    have hd146 := hBr.lt
                    have hd147 := hB132.lt
                    refine Sq.call fn54 .plain rfl rfl (l3Go_c _ b _ _ (hnx'.ext E) (hac'.ext E) hv' (((mid (step2 a b) (0, 0) (letters (orI a.al b.al)) i.toNat q k2.toNat).getD i.toNat (0, 0)).2) (((letters (orI a.al b.al)).getD k2.toNat 0)) (by omega) (by omega)) ?_
                    rintro _ w141 ⟨rfl, e142⟩
                    have hs148 := Below.size E
                    have hs149 := Below.size e142
                    replace E := E.trans e142
                    replace hB4 := hB4.ext e142
                    replace hB11 := hB11.ext e142
                    replace hB19 := hB19.ext e142
                    replace hBr := hBr.ext e142
                    replace hor := hor.ext e142
                    replace hoa := hoa.ext e142
                    replace hl66 := hl66.ext e142
                    replace hW := hW.ext e142
                    replace hro := hro.ext e142
                    replace hpL := hpL.ext e142
                    replace hB132 := hB132.ext e142
                    refine Sq.nil ?_
                    refine Eq.goes (fun _ => ⟨hB4, hB11, hW, hpL⟩) ?_
                    refine Gq.st 22 rfl (by kernel_rfl) rfl .plain rfl (fun _ _ _ h => h) ⟨hB4, hB11, hW, hpL⟩ (fun w' x => Still.build st65 rfl rfl rfl (one_cons rfl (one_cons rfl one_nil)) rfl) ?_
                    refine Gq.one 24 rfl (by kernel_rfl) ?_
                    refine Sq.storeAgg agg65 .plain rfl rfl (one_cons rfl (one_cons rfl one_nil)) hB132 rfl rfl (fun w150 g151 hB152 => ?_)
                    have hs153 := World.grownBy.size g151
                    replace E := E.grown g151 (fun k hk => by injection hk with hk; subst hk; omega)
                    replace hB4 := hB4.grown g151 (by intro h; injection h with h; omega)
                    replace hB11 := hB11.grown g151 (by intro h; injection h with h; omega)
                    replace hB19 := hB19.grown g151 (by intro h; injection h with h; omega)
                    replace hBr := hBr.grown g151 (by intro h; injection h with h; omega)
                    replace hor := hor.stored g151 hB132 (by decide) (by decide)
                    replace hoa := hoa.stored g151 hB132 (by decide)
                    replace hl66 := hl66.stored g151 hB132 (by decide)
                    replace hW := hW.storedN g151 hWl (by omega)
                    replace hro := hro.stored g151 hB132 (by decide)
                    replace hpL := hpL.stored g151 hB132 (by decide)
                    replace hB132 := hB152
                    refine Sq.nil ?_
                    refine Eq.goes (fun h => absurd h (by decide)) ?_
                    refine Gq.done (by kernel_rfl) ?_
                    refine Eq.left _ ⟨b129, rfl, hB132, by omega, E, hB4, hB11, hB19, hBr, hor, hoa, hl66, hW, hro⟩ (.cons rfl (.cons rfl (.cons rfl (.cons rfl (.cons rfl (.cons rfl (.cons rfl (.cons rfl (.cons rfl (.cons rfl (.cons rfl (.cons rfl (.nil)))))))))))))
                · refine Sq.alloc zero65 .plain rfl (fun b154 w155 e156 hB157 hlo158 => ?_)
                  have hd159 := Nat.le_trans (Below.size E) hlo158
                  have hd160 := Nat.lt_of_lt_of_le hB4.lt hlo158
                  have hd161 := Nat.lt_of_lt_of_le hB11.lt hlo158
                  have hd162 := Nat.lt_of_lt_of_le hB19.lt hlo158
                  have hd163 := Nat.lt_of_lt_of_le hBr.lt hlo158
                  have hs164 := Below.size e156
                  replace E := E.trans e156
                  replace hB4 := hB4.ext e156
                  replace hB11 := hB11.ext e156
                  replace hB19 := hB19.ext e156
                  replace hBr := hBr.ext e156
                  replace hor := hor.ext e156
                  replace hoa := hoa.ext e156
                  replace hl66 := hl66.ext e156
                  replace hW := hW.ext e156
                  replace hro := hro.ext e156
                  replace hpL := hpL.ext e156
                  refine Sq.nil ?_
                  refine Eq.goes (fun _ => ⟨hB4, hB11, hW, hpL⟩) ?_
                  refine Gq.one 10 rfl (by kernel_rfl) ?_
                  have hd168 := hB4.lt
                  have hd169 := hB11.lt
                  have hd170 := hB19.lt
                  have hd171 := hBr.lt
                  have hd172 := hB157.lt
                  refine Sq.call fn54 .plain rfl rfl (l3Go_c _ a _ _ (hnx.ext E) (hac.ext E) hv (((mid (step2 a b) (0, 0) (letters (orI a.al b.al)) i.toNat q k2.toNat).getD i.toNat (0, 0)).1) (((letters (orI a.al b.al)).getD k2.toNat 0)) (by omega) (by omega)) ?_
                  rintro _ w166 ⟨rfl, e167⟩
                  have hs173 := Below.size E
                  have hs174 := Below.size e167
                  replace E := E.trans e167
                  replace hB4 := hB4.ext e167
                  replace hB11 := hB11.ext e167
                  replace hB19 := hB19.ext e167
                  replace hBr := hBr.ext e167
                  replace hor := hor.ext e167
                  replace hoa := hoa.ext e167
                  replace hl66 := hl66.ext e167
                  replace hW := hW.ext e167
                  replace hro := hro.ext e167
                  replace hpL := hpL.ext e167
                  replace hB157 := hB157.ext e167
                  refine Sq.nil ?_
                  refine Eq.goes (fun _ => ⟨hB4, hB11, hW, hpL⟩) ?_
                  refine Gq.one 21 rfl (by kernel_rfl) ?_
                  have hd178 := hB4.lt
                  have hd179 := hB11.lt
                  have hd180 := hB19.lt
                  have hd181 := hBr.lt
                  have hd182 := hB157.lt
                  refine Sq.call fn54 .plain rfl rfl (l3Go_c _ b _ _ (hnx'.ext E) (hac'.ext E) hv' (((mid (step2 a b) (0, 0) (letters (orI a.al b.al)) i.toNat q k2.toNat).getD i.toNat (0, 0)).2) (((letters (orI a.al b.al)).getD k2.toNat 0)) (by omega) (by omega)) ?_
                  rintro _ w176 ⟨rfl, e177⟩
                  have hs183 := Below.size E
                  have hs184 := Below.size e177
                  replace E := E.trans e177
                  replace hB4 := hB4.ext e177
                  replace hB11 := hB11.ext e177
                  replace hB19 := hB19.ext e177
                  replace hBr := hBr.ext e177
                  replace hor := hor.ext e177
                  replace hoa := hoa.ext e177
                  replace hl66 := hl66.ext e177
                  replace hW := hW.ext e177
                  replace hro := hro.ext e177
                  replace hpL := hpL.ext e177
                  replace hB157 := hB157.ext e177
                  refine Sq.nil ?_
                  refine Eq.goes (fun _ => ⟨hB4, hB11, hW, hpL⟩) ?_
                  refine Gq.st 22 rfl (by kernel_rfl) rfl .plain rfl (fun _ _ _ h => h) ⟨hB4, hB11, hW, hpL⟩ (fun w' x => Still.build st65 rfl rfl rfl (one_cons rfl (one_cons rfl one_nil)) rfl) ?_
                  refine Gq.one 24 rfl (by kernel_rfl) ?_
                  refine Sq.storeAgg agg65 .plain rfl rfl (one_cons rfl (one_cons rfl one_nil)) hB157 rfl rfl (fun w185 g186 hB187 => ?_)
                  have hs188 := World.grownBy.size g186
                  replace E := E.grown g186 (fun k hk => by injection hk with hk; subst hk; omega)
                  replace hB4 := hB4.grown g186 (by intro h; injection h with h; omega)
                  replace hB11 := hB11.grown g186 (by intro h; injection h with h; omega)
                  replace hB19 := hB19.grown g186 (by intro h; injection h with h; omega)
                  replace hBr := hBr.grown g186 (by intro h; injection h with h; omega)
                  replace hor := hor.stored g186 hB157 (by decide) (by decide)
                  replace hoa := hoa.stored g186 hB157 (by decide)
                  replace hl66 := hl66.stored g186 hB157 (by decide)
                  replace hW := hW.storedN g186 hWl (by omega)
                  replace hro := hro.stored g186 hB157 (by decide)
                  replace hpL := hpL.stored g186 hB157 (by decide)
                  replace hB157 := hB187
                  refine Sq.nil ?_
                  refine Eq.goes (fun h => absurd h (by decide)) ?_
                  refine Gq.done (by kernel_rfl) ?_
                  refine Eq.left _ ⟨b154, rfl, hB157, by omega, E, hB4, hB11, hB19, hBr, hor, hoa, hl66, hW, hro⟩ (.cons rfl (.cons rfl (.cons rfl (.cons rfl (.cons rfl (.cons rfl (.cons rfl (.cons rfl (.cons rfl (.cons rfl (.cons rfl (.cons rfl (.nil)))))))))))))
              · rintro ls wc13 ⟨bp, rfl, hBp, hbp, E, hB4, hB11, hB19, hBr, hor, hoa, hl66, hW, hro⟩
                have hs189 := Below.size E
                refine Eq.next ?_
                refine Cq.seq ?_
                refine Cq.seq ?_
                refine Cq.region ?_
                refine Sq.move .plain rfl rfl ?_
                refine Sq.loadAgg agg65 .plain rfl rfl hBp rfl ?_
                have hd193 := hB4.lt
                have hd194 := hB11.lt
                have hd195 := hB19.lt
                have hd196 := hBr.lt
                have hd197 := hBp.lt
                refine Sq.call fn55 .plain rfl rfl (l5Find_c _ _ _ ((mid (step2 a b) (0, 0) (letters (orI a.al b.al)) i.toNat q k2.toNat)) hW (step2 a b ((mid (step2 a b) (0, 0) (letters (orI a.al b.al)) i.toNat q k2.toNat).getD i.toNat (0, 0)) ((letters (orI a.al b.al)).getD k2.toNat 0)) (by first | omega | (rw [List.length_append, List.length_singleton]; omega))) ?_
                rintro _ w191 ⟨rfl, e192⟩
                have hs198 := Below.size E
                have hs199 := Below.size e192
                replace E := E.trans e192
                replace hB4 := hB4.ext e192
                replace hB11 := hB11.ext e192
                replace hB19 := hB19.ext e192
                replace hBr := hBr.ext e192
                replace hor := hor.ext e192
                replace hoa := hoa.ext e192
                replace hl66 := hl66.ext e192
                replace hW := hW.ext e192
                replace hro := hro.ext e192
                replace hBp := hBp.ext e192
                refine Sq.lss .plain rfl rfl rfl ?_
                refine Sq.part (fun hin => ?_) (fun hin => ?_)
                · refine Sq.nil ?_
                  refine Eq.next ?_
                  refine Cq.thn rfl ?_
                  refine Cq.region ?_
                  refine Sq.move .plain rfl rfl ?_
                  refine Sq.loadAgg agg65 .plain rfl rfl hBp rfl ?_
                  refine Sq.litW slw66 rfl rfl (by decide) .plain rfl (rows := [[Value.int .i64 (goA a (((mid (step2 a b) (0, 0) (letters (orI a.al b.al)) i.toNat q k2.toNat).getD i.toNat (0, 0)).1) ((letters (orI a.al b.al)).getD k2.toNat 0)), Value.int .i64 (goA b (((mid (step2 a b) (0, 0) (letters (orI a.al b.al)) i.toNat q k2.toNat).getD i.toNat (0, 0)).2) ((letters (orI a.al b.al)).getD k2.toNat 0))]]) rfl (fun r hr => by rw [List.mem_singleton.1 hr]; exact ⟨rfl, one_cons rfl (one_cons rfl one_nil)⟩) (fun b200 w201 e202 hlo203 hw204 hk205 => ?_)
                  have hs206 := Below.size e202
                  replace E := E.trans e202
                  replace hB4 := hB4.ext e202
                  replace hB11 := hB11.ext e202
                  replace hB19 := hB19.ext e202
                  replace hBr := hBr.ext e202
                  replace hor := hor.ext e202
                  replace hoa := hoa.ext e202
                  replace hl66 := hl66.ext e202
                  replace hW := hW.ext e202
                  replace hro := hro.ext e202
                  replace hBp := hBp.ext e202
                  refine Sq.appS slw66 hW (by omega) (by rw [rows2_length]; omega) (r := [Value.int .i64 (goA a (((mid (step2 a b) (0, 0) (letters (orI a.al b.al)) i.toNat q k2.toNat).getD i.toNat (0, 0)).1) ((letters (orI a.al b.al)).getD k2.toNat 0)), Value.int .i64 (goA b (((mid (step2 a b) (0, 0) (letters (orI a.al b.al)) i.toNat q k2.toNat).getD i.toNat (0, 0)).2) ((letters (orI a.al b.al)).getD k2.toNat 0))]) hk205 ⟨rfl, one_cons rfl (one_cons rfl one_nil)⟩ .plain rfl rfl rfl (fun v207 w208 hW210 g209 _ _ => ?_)
                  have hs211 := World.grownBy.size g209
                  replace E := E.wid hW g209 (by omega)
                  replace hB4 := hB4.wid hW g209 (by decide)
                  replace hB11 := hB11.wid hW g209 (by decide)
                  replace hB19 := hB19.wid hW g209 (by decide)
                  replace hBr := hBr.wid hW g209 (by decide)
                  replace hor := hor.wid hW g209 (by decide) (by decide)
                  replace hoa := hoa.wid hW g209 (by decide)
                  replace hl66 := hl66.wid hW g209 (by decide)
                  replace hro := hro.wid hW g209 (by decide)
                  replace hBp := hBp.widN g209 hWl (by omega)
                  replace hW : Wid w208 w0.heap.size 65 2 v207 (rows2 ((mid (step2 a b) (0, 0) (letters (orI a.al b.al)) i.toNat q k2.toNat) ++ [(step2 a b ((mid (step2 a b) (0, 0) (letters (orI a.al b.al)) i.toNat q k2.toNat).getD i.toNat (0, 0)) ((letters (orI a.al b.al)).getD k2.toNat 0))])) := by rw [rows2_snoc]; exact hW210
                  refine Sq.assign .plain rfl rfl ?_
                  refine Sq.nil ?_
                  refine Eq.next ?_
                  refine Cq.region ?_
                  refine Sq.move .plain rfl rfl ?_
                  refine Sq.move .plain rfl rfl ?_
                  refine Sq.loadAgg agg65 .plain rfl rfl hBp rfl ?_
                  have hd215 := hB4.lt
                  have hd216 := hB11.lt
                  have hd217 := hB19.lt
                  have hd218 := hBr.lt
                  have hd219 := hBp.lt
                  refine Sq.call fn55 .plain rfl rfl (l5Find_c _ _ _ (((mid (step2 a b) (0, 0) (letters (orI a.al b.al)) i.toNat q k2.toNat) ++ [(step2 a b ((mid (step2 a b) (0, 0) (letters (orI a.al b.al)) i.toNat q k2.toNat).getD i.toNat (0, 0)) ((letters (orI a.al b.al)).getD k2.toNat 0))])) hW (step2 a b ((mid (step2 a b) (0, 0) (letters (orI a.al b.al)) i.toNat q k2.toNat).getD i.toNat (0, 0)) ((letters (orI a.al b.al)).getD k2.toNat 0)) (by first | omega | (rw [List.length_append, List.length_singleton]; omega))) ?_
                  rintro _ w213 ⟨rfl, e214⟩
                  have hs220 := Below.size E
                  have hs221 := Below.size e214
                  replace E := E.trans e214
                  replace hB4 := hB4.ext e214
                  replace hB11 := hB11.ext e214
                  replace hB19 := hB19.ext e214
                  replace hBr := hBr.ext e214
                  replace hor := hor.ext e214
                  replace hoa := hoa.ext e214
                  replace hl66 := hl66.ext e214
                  replace hW := hW.ext e214
                  replace hro := hro.ext e214
                  replace hBp := hBp.ext e214
                  refine Sq.app1 sl56 hro (by omega) (by first | omega | (simp; omega)) .plain rfl rfl rfl rfl rfl rfl rfl (fun v222 w223 ho225 g224 _ => ?_)
                  have hs226 := g224.size
                  replace E := E.owned hro g224 (by omega)
                  replace hB4 := hB4.owned hro g224 (by decide)
                  replace hB11 := hB11.owned hro g224 (by decide)
                  replace hB19 := hB19.owned hro g224 (by decide)
                  replace hBr := hBr.owned hro g224 (by decide)
                  replace hor := hor.apart hro g224 (by omega) (by decide)
                  replace hoa := hoa.owned hro g224 (by decide)
                  replace hl66 := hl66.apart hlow hro g224 (by omega)
                  replace hW := hW.owned hro g224 (by decide)
                  replace hBp := hBp.owned hro g224 (by decide)
                  refine Sq.assign .plain rfl rfl ?_
                  refine Sq.nil ?_
                  refine Eq.end ?_
                  refine Eq.next ?_
                  refine Cq.region ?_
                  refine Sq.move .plain rfl rfl ?_
                  refine Sq.add .plain rfl rfl rfl (by omega) ?_
                  refine Sq.assign .plain rfl rfl ?_
                  refine Sq.nil ?_
                  have e2 := toNat_succ hk.1
                  have e5 := mid_succ (f := step2 a b) (s := ((0, 0) : Int × Int)) (i := i.toNat) (q := q) (k := k2.toNat) (L := (letters (orI a.al b.al))) (by omega)
                  have e6 := rowTo_step (f := step2 a b) (q := q) (k := k2.toNat) (L := (letters (orI a.al b.al))) (by omega) (mid_mem (f := step2 a b) (s := ((0, 0) : Int × Int)) (i := i.toNat))
                  rw [← e5] at e6
                  have h8 := findI_neg hin
                  rw [hcm] at h8 hW
                  rw [addNode_F h8] at e5
                  refine Eq.round _ _ ⟨k2 + 1, _, _, _, rfl, by omega, by omega, by rw [e2, e5]; exact hW, Own.snocI ho225, by rw [e2, e6, ← hrow, e5, hcm, findI_in (List.mem_append_right _ (List.mem_singleton.2 rfl))]; first | done | rfl, E, hB4, hB11, hB19, hBr, hor, hoa, hl66, rfl⟩ (by omega) (.cons rfl (.cons rfl (.cons rfl (.cons rfl (.cons rfl (.cons rfl (.cons rfl (.cons rfl (.cons rfl (.cons rfl (.cons rfl (.nil))))))))))))
                · refine Sq.nil ?_
                  refine Eq.next ?_
                  refine Cq.els rfl ?_
                  refine Cq.skip ?_
                  refine Eq.next ?_
                  refine Cq.region ?_
                  refine Sq.move .plain rfl rfl ?_
                  refine Sq.move .plain rfl rfl ?_
                  refine Sq.loadAgg agg65 .plain rfl rfl hBp rfl ?_
                  have hd230 := hB4.lt
                  have hd231 := hB11.lt
                  have hd232 := hB19.lt
                  have hd233 := hBr.lt
                  have hd234 := hBp.lt
                  refine Sq.call fn55 .plain rfl rfl (l5Find_c _ _ _ ((mid (step2 a b) (0, 0) (letters (orI a.al b.al)) i.toNat q k2.toNat)) hW (step2 a b ((mid (step2 a b) (0, 0) (letters (orI a.al b.al)) i.toNat q k2.toNat).getD i.toNat (0, 0)) ((letters (orI a.al b.al)).getD k2.toNat 0)) (by first | omega | (rw [List.length_append, List.length_singleton]; omega))) ?_
                  rintro _ w228 ⟨rfl, e229⟩
                  have hs235 := Below.size E
                  have hs236 := Below.size e229
                  replace E := E.trans e229
                  replace hB4 := hB4.ext e229
                  replace hB11 := hB11.ext e229
                  replace hB19 := hB19.ext e229
                  replace hBr := hBr.ext e229
                  replace hor := hor.ext e229
                  replace hoa := hoa.ext e229
                  replace hl66 := hl66.ext e229
                  replace hW := hW.ext e229
                  replace hro := hro.ext e229
                  replace hBp := hBp.ext e229
                  refine Sq.app1 sl56 hro (by omega) (by first | omega | (simp; omega)) .plain rfl rfl rfl rfl rfl rfl rfl (fun v237 w238 ho240 g239 _ => ?_)
                  have hs241 := g239.size
                  replace E := E.owned hro g239 (by omega)
                  replace hB4 := hB4.owned hro g239 (by decide)
                  replace hB11 := hB11.owned hro g239 (by decide)
                  replace hB19 := hB19.owned hro g239 (by decide)
                  replace hBr := hBr.owned hro g239 (by decide)
                  replace hor := hor.apart hro g239 (by omega) (by decide)
                  replace hoa := hoa.owned hro g239 (by decide)
                  replace hl66 := hl66.apart hlow hro g239 (by omega)
                  replace hW := hW.owned hro g239 (by decide)
                  replace hBp := hBp.owned hro g239 (by decide)
                  refine Sq.assign .plain rfl rfl ?_
                  refine Sq.nil ?_
                  refine Eq.end ?_
                  refine Eq.next ?_
                  refine Cq.region ?_
                  refine Sq.move .plain rfl rfl ?_
                  refine Sq.add .plain rfl rfl rfl (by omega) ?_
                  refine Sq.assign .plain rfl rfl ?_
                  refine Sq.nil ?_
                  have e2 := toNat_succ hk.1
                  have e5 := mid_succ (f := step2 a b) (s := ((0, 0) : Int × Int)) (i := i.toNat) (q := q) (k := k2.toNat) (L := (letters (orI a.al b.al))) (by omega)
                  have e6 := rowTo_step (f := step2 a b) (q := q) (k := k2.toNat) (L := (letters (orI a.al b.al))) (by omega) (mid_mem (f := step2 a b) (s := ((0, 0) : Int × Int)) (i := i.toNat))
                  rw [← e5] at e6
                  have h8 := findI_pos hin
                  rw [hcm] at h8
                  rw [addNode_T h8] at e5
                  refine Eq.round _ _ ⟨k2 + 1, _, _, _, rfl, by omega, by omega, by rw [e2, e5]; exact hW, Own.snocI ho240, by rw [e2, e6, ← hrow, e5, hcm, findI_in h8]; first | done | rfl, E, hB4, hB11, hB19, hBr, hor, hoa, hl66, rfl⟩ (by omega) (.cons rfl (.cons rfl (.cons rfl (.cons rfl (.cons rfl (.cons rfl (.cons rfl (.cons rfl (.cons rfl (.cons rfl (.cons rfl (.nil))))))))))))
            · refine Sq.nil ?_
              refine Eq.next ?_
              refine Cq.els rfl ?_
              refine Cq.exit ?_
              refine Eq.past ?_
              refine Eq.past ?_
              refine Eq.hit ?_
              refine Eq.next ?_
              refine Cq.seq ?_
              refine Cq.seq ?_
              refine Cq.region ?_
              refine Sq.move .plain rfl rfl ?_
              refine Sq.lenWid hW .plain rfl und66 rfl ?_
              rw [rows2_length]
              refine Sq.gtr .plain rfl rfl rfl ?_
              refine Sq.part (fun hbig => ?_) (fun hbig => ?_)
              · refine Sq.nil ?_
                refine Eq.next ?_
                refine Cq.thn rfl ?_
                refine Cq.seq ?_
                refine Cq.region ?_
                refine Sq.build st26 rfl rfl .plain rfl rfl one_nil rfl ?_
                refine Sq.storeAgg agg26 .plain rfl rfl (one_cons rfl (one_cons rfl (one_cons rfl one_nil))) hB19 rfl rfl (fun w242 g243 hB244 => ?_)
                have hs245 := World.grownBy.size g243
                replace E := E.grown g243 (fun k hk => by injection hk with hk; subst hk; omega)
                replace hB4 := hB4.grown g243 (by intro h; injection h with h; omega)
                replace hB11 := hB11.grown g243 (by intro h; injection h with h; omega)
                replace hBr := hBr.grown g243 (by intro h; injection h with h; omega)
                replace hor := hor.stored g243 hB19 (by decide) (by decide)
                replace hoa := hoa.stored g243 hB19 (by decide)
                replace hl66 := hl66.stored g243 hB19 (by decide)
                replace hW := hW.stored g243 hB19 (by decide)
                replace hro := hro.stored g243 hB19 (by decide)
                replace hB19 := hB244
                refine Sq.assign .plain rfl rfl ?_
                refine Sq.nil ?_
                refine Eq.next ?_
                refine Cq.ret ?_
                refine Eq.pastRet ?_
                refine Eq.outRet ?_
                refine Eq.pastRet ?_
                refine Eq.pastRet ?_
                refine Eq.outRet ?_
                refine Eq.pastRet ?_
                refine Eq.retCell2 rfl rfl agg26 hB19 rfl rfl ?_
                have hmd := mid_done (k := k2.toNat) (by omega) hq
                have e9 := (ord_prefix (f := step2 a b) (s := ((0, 0) : Int × Int)) (L := (letters (orI a.al b.al))) (i := i.toNat + 1) (by omega)).length_le
                rw [← hmd] at e9
                have hno : prodOk a b k = false := prodOk_long (by omega)
                exact ⟨⟨_, by rw [hno], by rw [if_neg (by rw [hno]; decide)]; exact ⟨_, _, rfl, OwnRows.nil _ _ _ _ _, Own.nil _ _ _⟩⟩, E⟩
              · refine Sq.nil ?_
                refine Eq.next ?_
                refine Cq.els rfl ?_
                refine Cq.skip ?_
                refine Eq.next ?_
                refine Cq.seq ?_
                refine Cq.region ?_
                refine Sq.fieldAddr fld26_1 .plain rfl rfl ?_
                refine Sq.loadB one23 .plain rfl rfl hBr rfl ?_
                refine Sq.move .plain rfl rfl ?_
                obtain ⟨rs250, q251, q252, q253⟩ := OwnRows.open hor (by decide)
                have q253x := Ext.refl wl2
                refine Sq.app1 sl23 q251 (by omega) (by rw [q252]; first | omega | (simp; omega)) .plain rfl rfl rfl rfl rfl rfl (Row.one (Own.row hro)) (fun v246 w247 ho249 g248 _ => ?_)
                have hs254 := g248.size
                have ho249r := q253 _ row _ _ _ (Ext.refl _) (Own.mono hro (by omega)) (by omega) ho249 g248
                replace E := E.owned q251 g248 (by omega)
                replace hB4 := hB4.owned q251 g248 (by decide)
                replace hB11 := hB11.owned q251 g248 (by decide)
                replace hB19 := hB19.owned q251 g248 (by decide)
                replace hBr := hBr.owned q251 g248 (by decide)
                replace hoa := hoa.owned q251 g248 (by decide)
                replace hl66 := hl66.owned q251 g248 (by decide)
                replace hW := hW.owned q251 g248 (by decide)
                replace hro := hro.owned q251 g248 (by decide)
                refine Sq.fieldAddr fld26_1 .plain rfl rfl ?_
                refine Sq.store one23 .plain rfl rfl (Rows.one (OwnRows.rows ho249r)) hBr (by simp) (fun w255 g256 hB257 => ?_)
                have hs258 := World.grownBy.size g256
                replace E := E.grown g256 (fun k hk => by injection hk with hk; subst hk; omega)
                replace hB4 := hB4.grown g256 (by intro h; injection h with h; omega)
                replace hB11 := hB11.grown g256 (by intro h; injection h with h; omega)
                replace hB19 := hB19.grown g256 (by intro h; injection h with h; omega)
                replace hoa := hoa.stored g256 hBr (by decide)
                replace hl66 := hl66.stored g256 hBr (by decide)
                replace hW := hW.stored g256 hBr (by decide)
                replace hro := hro.stored g256 hBr (by decide)
                replace ho249r := ho249r.stored g256 hBr (by decide) (by decide)
                replace hBr := hB257
                refine Sq.nil ?_
                refine Eq.next ?_
                refine Cq.drawS 24 (fun w' => Blk w' b1 26 [Value.int .i64 a.al, nx, ac] ∧ Blk w' b8 26 [Value.int .i64 b.al, nx', ac'] ∧ Blk w' b49 26 [Value.int .i64 (orI a.al b.al), v246, acv] ∧ Wid w' w0.heap.size 65 2 lv2 (rows2 (mid (step2 a b) (0, 0) (letters (orI a.al b.al)) i.toNat q k2.toNat)) ∧ Ext w0 w') mixed (⟨hB4, hB11, hBr, hW, E⟩) (fun w259 e260 hS => ?_)
                clear hS
                have hs261 := Below.size e260
                replace E := E.trans e260
                replace hB4 := hB4.ext e260
                replace hB11 := hB11.ext e260
                replace hB19 := hB19.ext e260
                replace hBr := hBr.ext e260
                replace hoa := hoa.ext e260
                replace hl66 := hl66.ext e260
                replace hW := hW.ext e260
                replace hro := hro.ext e260
                replace ho249r := ho249r.ext e260
                have E_w259 := E
                have hB4_w259 := hB4
                have hB11_w259 := hB11
                have hB19_w259 := hB19
                have hBr_w259 := hBr
                have hoa_w259 := hoa
                have hl66_w259 := hl66
                have hW_w259 := hW
                have hro_w259 := hro
                have ho249r_w259 := ho249r
                refine Gq.st 0 rfl (by kernel_rfl) rfl .plain rfl (fun _ _ _ h => h) ⟨hB4, hB11, hBr, hW, E⟩ (fun w' x => Still.fieldAddr fld26_2 rfl) ?_
                refine Gq.st 1 rfl (by kernel_rfl) rfl .plain rfl (fun _ _ _ h => h) ⟨hB4, hB11, hBr, hW, E⟩ (fun w' x => Still.loadB one24 rfl x.2.2.1 rfl) ?_
                refine Gq.st 2 rfl (by kernel_rfl) rfl .plain rfl (fun _ _ _ h => h) ⟨hB4, hB11, hBr, hW, E⟩ (fun w' x => Still.fieldAddr fld26_2 rfl) ?_
                refine Gq.st 3 rfl (by kernel_rfl) rfl .plain rfl (fun _ _ _ h => h) ⟨hB4, hB11, hBr, hW, E⟩ (fun w' x => Still.loadB one24 rfl x.1 rfl) ?_
                refine Gq.st 4 rfl (by kernel_rfl) rfl .plain rfl (fun _ _ _ h => h) ⟨hB4, hB11, hBr, hW, E⟩ (fun w' x => Still.move rfl) ?_
                refine Gq.st 5 rfl (by kernel_rfl) rfl .plain rfl (fun _ _ _ h => h) ⟨hB4, hB11, hBr, hW, E⟩ (fun w' x => Still.move rfl) ?_
                obtain ⟨ghgw262, chgw262, hgw262⟩ := Wid.pair hW_w259 (i := i) (by omega) (by omega)
                refine Gq.st 6 rfl (by kernel_rfl) rfl .plain rfl (fun _ _ _ h => h) ⟨hB4, hB11, hBr, hW, E⟩ (fun w' x => Still.ixV slw66 hgw262 rfl rfl (by omega)) ?_
                refine Gq.st 7 rfl (by kernel_rfl) rfl .plain rfl (fun _ _ _ h => h) ⟨hB4, hB11, hBr, hW, E⟩ (fun w' x => Still.fieldAddr fld65_0 rfl) ?_
                refine Gq.st 8 rfl (by kernel_rfl) rfl .plain rfl (fun _ _ _ h => h) ⟨hB4, hB11, hBr, hW, E⟩ (fun w' x => Still.load one3 rfl (Wid.cell2 hgw262 x.2.2.2.1 (by omega) (by omega)).1) ?_
                obtain ⟨p263, hp264_w259⟩ := Bools.at hac (i := ((mid (step2 a b) (0, 0) (letters (orI a.al b.al)) i.toNat q k2.toNat).getD i.toNat (0, 0)).1) (by omega) (by omega)
                refine Gq.st 9 rfl (by kernel_rfl) rfl .plain rfl (fun _ _ _ h => h) ⟨hB4, hB11, hBr, hW, E⟩ (fun w' x => Still.at' sl24 hp264_w259 rfl rfl) ?_
                refine Gq.st 10 rfl (by kernel_rfl) rfl .plain rfl (fun _ _ _ h => h) ⟨hB4, hB11, hBr, hW, E⟩ (fun w' x => Still.loadA one4 rfl (hp264_w259.ext (x.2.2.2.2)).1) ?_
                refine Gq.st 11 rfl (by kernel_rfl) rfl .plain rfl (fun _ _ _ h => h) ⟨hB4, hB11, hBr, hW, E⟩ (fun w' x => Still.fieldAddr fld26_2 rfl) ?_
                refine Gq.st 12 rfl (by kernel_rfl) rfl .plain rfl (fun _ _ _ h => h) ⟨hB4, hB11, hBr, hW, E⟩ (fun w' x => Still.loadB one24 rfl x.2.1 rfl) ?_
                refine Gq.st 13 rfl (by kernel_rfl) rfl .plain rfl (fun _ _ _ h => h) ⟨hB4, hB11, hBr, hW, E⟩ (fun w' x => Still.move rfl) ?_
                refine Gq.st 14 rfl (by kernel_rfl) rfl .plain rfl (fun _ _ _ h => h) ⟨hB4, hB11, hBr, hW, E⟩ (fun w' x => Still.move rfl) ?_
                obtain ⟨ghgw265, chgw265, hgw265⟩ := Wid.pair hW_w259 (i := i) (by omega) (by omega)
                refine Gq.st 15 rfl (by kernel_rfl) rfl .plain rfl (fun _ _ _ h => h) ⟨hB4, hB11, hBr, hW, E⟩ (fun w' x => Still.ixV slw66 hgw265 rfl rfl (by omega)) ?_
                refine Gq.st 16 rfl (by kernel_rfl) rfl .plain rfl (fun _ _ _ h => h) ⟨hB4, hB11, hBr, hW, E⟩ (fun w' x => Still.fieldAddr fld65_1 rfl) ?_
                refine Gq.st 17 rfl (by kernel_rfl) rfl .plain rfl (fun _ _ _ h => h) ⟨hB4, hB11, hBr, hW, E⟩ (fun w' x => Still.load one3 rfl (Wid.cell2 hgw265 x.2.2.2.1 (by omega) (by omega)).2) ?_
                obtain ⟨p266, hp267_w259⟩ := Bools.at hac' (i := ((mid (step2 a b) (0, 0) (letters (orI a.al b.al)) i.toNat q k2.toNat).getD i.toNat (0, 0)).2) (by omega) (by omega)
                refine Gq.st 18 rfl (by kernel_rfl) rfl .plain rfl (fun _ _ _ h => h) ⟨hB4, hB11, hBr, hW, E⟩ (fun w' x => Still.at' sl24 hp267_w259 rfl rfl) ?_
                refine Gq.st 19 rfl (by kernel_rfl) rfl .plain rfl (fun _ _ _ h => h) ⟨hB4, hB11, hBr, hW, E⟩ (fun w' x => Still.loadA one4 rfl (hp267_w259.ext (x.2.2.2.2)).1) ?_
                refine Gq.st 20 rfl (by kernel_rfl) rfl .plain rfl (fun _ _ _ h => h) ⟨hB4, hB11, hBr, hW, E⟩ (fun w' x => Still.move rfl) ?_
                refine Gq.one 21 rfl (by kernel_rfl) ?_
                refine Sq.call fn56 .plain rfl rfl (l5Accepts_c _ _ k _) ?_
                rintro _ _ ⟨rfl, rfl⟩
                refine Sq.nil ?_
                refine Eq.goes (fun _ => ⟨hB4, hB11, hBr, hW, E⟩) ?_
                refine Gq.one 22 rfl (by kernel_rfl) ?_
                refine Sq.lit sl24 rfl rfl .plain rfl rfl (one_cons rfl one_nil) (fun b268 w269 e270 hlo271 ho272 _ => ?_)
                replace ho272 := ho272 w259.heap.size (Nat.le_refl _)
                have hs274 := Below.size e270
                replace E := E.trans e270
                replace hB4 := hB4.ext e270
                replace hB11 := hB11.ext e270
                replace hB19 := hB19.ext e270
                replace hBr := hBr.ext e270
                replace hoa := hoa.ext e270
                replace hl66 := hl66.ext e270
                replace hW := hW.ext e270
                replace hro := hro.ext e270
                replace ho249r := ho249r.ext e270
                refine Sq.nil ?_
                refine Eq.goes (fun _ => ⟨hB4, hB11, hBr, hW, E⟩) ?_
                refine Gq.one 23 rfl (by kernel_rfl) ?_
                refine Sq.app sl24 hoa (by omega) (Own.row ho272) (one_cons rfl one_nil) (by first | omega | (simp; omega)) .plain rfl rfl rfl rfl (fun v275 w276 ho278 g277 => ?_)
                have hs279 := g277.size
                replace E := E.owned hoa g277 (by omega)
                replace hB4 := hB4.owned hoa g277 (by decide)
                replace hB11 := hB11.owned hoa g277 (by decide)
                replace hB19 := hB19.owned hoa g277 (by decide)
                replace hBr := hBr.owned hoa g277 (by decide)
                replace hl66 := hl66.owned hoa g277 (by decide)
                replace hW := hW.owned hoa g277 (by decide)
                replace hro := hro.owned hoa g277 (by decide)
                replace ho249r := ho249r.owned hoa g277 (by decide) (by decide)
                refine Sq.nil ?_
                refine Eq.goes (fun _ => ⟨hB4, hB11, hBr, hW, E⟩) ?_
                refine Gq.one 24 rfl (by kernel_rfl) ?_
                refine Sq.fieldAddr fld26_2 .plain rfl rfl ?_
                refine Sq.nil ?_
                refine Eq.goes (fun h => absurd h (by decide)) ?_
                refine Gq.one 25 rfl (by kernel_rfl) ?_
                refine Sq.store one24 .plain rfl rfl (Row.one (Own.row ho278)) hBr (by simp) (fun w280 g281 hB282 => ?_)
                have hs283 := World.grownBy.size g281
                replace E := E.grown g281 (fun k hk => by injection hk with hk; subst hk; omega)
                replace hB4 := hB4.grown g281 (by intro h; injection h with h; omega)
                replace hB11 := hB11.grown g281 (by intro h; injection h with h; omega)
                replace hB19 := hB19.grown g281 (by intro h; injection h with h; omega)
                replace hl66 := hl66.stored g281 hBr (by decide)
                replace hW := hW.stored g281 hBr (by decide)
                replace hro := hro.stored g281 hBr (by decide)
                replace ho249r := ho249r.stored g281 hBr (by decide) (by decide)
                replace ho278 := ho278.stored g281 hBr (by decide)
                replace hBr := hB282
                refine Sq.nil ?_
                refine Eq.goes (fun h => absurd h (by decide)) ?_
                refine Gq.done (by kernel_rfl) ?_
                refine Eq.end ?_
                refine Eq.next ?_
                refine Cq.region ?_
                refine Sq.move .plain rfl rfl ?_
                refine Sq.add .plain rfl rfl rfl (by omega) ?_
                refine Sq.assign .plain rfl rfl ?_
                refine Sq.nil ?_
                have e1 := toNat_succ hi.1
                have hmd := mid_done (k := k2.toNat) (by omega) hq
                have e4 := (bfs_prefix1 (f := step2 a b) (s := ((0, 0) : Int × Int)) (L := (letters (orI a.al b.al))) i.toNat).length_le
                have hacc : kindB k (a.acc.getD (((mid (step2 a b) (0, 0) (letters (orI a.al b.al)) i.toNat q k2.toNat).getD i.toNat (0, 0)).1).toNat false) (b.acc.getD (((mid (step2 a b) (0, 0) (letters (orI a.al b.al)) i.toNat q k2.toNat).getD i.toNat (0, 0)).2).toNat false) = acc2 a b k q := by rw [hcm]; rfl
                refine Eq.round _ _ ⟨i + 1, _, _, _, _, _, rfl, by rw [e1]; omega, by rw [e1, ← hmd]; exact hW, hBr, OwnRows.now ho249r, Own.snocB ho278, by rw [e1, rowsAt_step hq, ← hxs, hrow, rowTo_done (k := k2.toNat) (by omega), hmd], by rw [e1, take_bfs2 hq, List.map_append, ← hys, List.map_cons, List.map_nil, ← hacc], by rw [e1, ← hmd]; omega, E, hB4, hB11, hB19, hl66, rfl⟩ (by omega) (.cons rfl (.cons rfl (.cons rfl (.cons rfl (.cons rfl (.cons rfl (.cons rfl (.cons rfl (.cons rfl (.nil))))))))))
          · refine Sq.nil ?_
            refine Eq.next ?_
            refine Cq.els rfl ?_
            refine Cq.exit ?_
            refine Eq.past ?_
            refine Eq.past ?_
            refine Eq.hit ?_
            refine Eq.next ?_
            refine Cq.seq ?_
            refine Cq.region ?_
            refine Sq.loadAgg agg26 .plain rfl rfl hBr rfl ?_
            refine Sq.storeAgg agg26 .plain rfl rfl (one_cons rfl (one_cons (Rows.one (OwnRows.rows hor)) (one_cons (Row.one (Own.row hoa)) one_nil))) hB19 rfl rfl (fun w284 g285 hB286 => ?_)
            have hs287 := World.grownBy.size g285
            replace E := E.grown g285 (fun k hk => by injection hk with hk; subst hk; omega)
            replace hB4 := hB4.grown g285 (by intro h; injection h with h; omega)
            replace hB11 := hB11.grown g285 (by intro h; injection h with h; omega)
            replace hl66 := hl66.stored g285 hB19 (by decide)
            replace hW := hW.stored g285 hB19 (by decide)
            replace hBr := hBr.grown g285 (by intro h; injection h with h; omega)
            replace hor := hor.stored g285 hB19 (by decide) (by decide)
            replace hoa := hoa.stored g285 hB19 (by decide)
            replace hB19 := hB286
            refine Sq.assign .plain rfl rfl ?_
            refine Sq.nil ?_
            refine Eq.next ?_
            refine Cq.ret ?_
            refine Eq.retCell2 rfl rfl agg26 hB19 rfl rfl ?_
            have e8 := ord_done (f := step2 a b) (s := ((0, 0) : Int × Int)) (L := (letters (orI a.al b.al))) (i := i.toNat) (by omega) (by omega)
            rw [List.take_of_length_le (by omega), e8] at hys
            have e10 := rowsAt_fin2 (f := step2 a b) (s := ((0, 0) : Int × Int)) (L := (letters (orI a.al b.al))) (i := i.toNat) (by omega) (by omega)
            rw [e10] at hxs
            have hok : prodOk a b k = true := prodOk_spec.2 ⟨hv, hv', by omega, by rw [ord2, ← e8]; exact hlm⟩
            have e : prodA a b k = (⟨(orI a.al b.al), xss, ys⟩ : A) := by rw [hxs, hys]; rfl
            exact ⟨⟨_, by rw [hok], by rw [if_pos hok, e]; exact ⟨_, _, rfl, OwnRows.now hor, hoa⟩⟩, E⟩
    · refine Sq.notF (.met rfl rfl rfl) rfl rfl ?_
      refine Sq.pickF .plain rfl rfl rfl ?_
      refine Sq.move .plain rfl rfl ?_
      refine Sq.off rfl rfl rfl rfl rfl rfl ?_
      refine Sq.off rfl rfl rfl rfl rfl rfl ?_
      refine Sq.pickT .plain rfl rfl rfl ?_
      refine Sq.move .plain rfl rfl ?_
      refine Sq.off rfl rfl rfl rfl rfl rfl ?_
      refine Sq.off rfl rfl rfl rfl rfl rfl ?_
      refine Sq.pickT .plain rfl rfl rfl ?_
      refine Sq.nil ?_
      refine Eq.next ?_
      refine Cq.thn rfl ?_
      refine Cq.seq ?_
      refine Cq.region ?_
      refine Sq.build st26 rfl rfl .plain rfl rfl one_nil rfl ?_
      refine Sq.storeAgg agg26 .plain rfl rfl (one_cons rfl (one_cons rfl (one_cons rfl one_nil))) hB19 rfl rfl (fun w288 g289 hB290 => ?_)
      have hs291 := World.grownBy.size g289
      replace E := E.grown g289 (fun k hk => by injection hk with hk; subst hk; omega)
      replace hB4 := hB4.grown g289 (by intro h; injection h with h; omega)
      replace hB11 := hB11.grown g289 (by intro h; injection h with h; omega)
      replace hB19 := hB290
      refine Sq.assign .plain rfl rfl ?_
      refine Sq.nil ?_
      refine Eq.next ?_
      refine Cq.ret ?_
      refine Eq.pastRet ?_
      refine Eq.retCell2 rfl rfl agg26 hB19 rfl rfl ?_
      have hno : prodOk a b k = false := prodOk_no (.inr (.inl hv'))
      exact ⟨⟨_, by rw [hno], by rw [if_neg (by rw [hno]; decide)]; exact ⟨_, _, rfl, OwnRows.nil _ _ _ _ _, Own.nil _ _ _⟩⟩, E⟩
  · refine Sq.notF .plain rfl rfl ?_
    refine Sq.move .plain rfl rfl ?_
    refine Sq.off rfl rfl rfl rfl rfl rfl ?_
    refine Sq.off rfl rfl rfl rfl rfl rfl ?_
    refine Sq.off rfl rfl rfl rfl rfl rfl ?_
    refine Sq.pickT .plain rfl rfl rfl ?_
    refine Sq.move .plain rfl rfl ?_
    refine Sq.off rfl rfl rfl rfl rfl rfl ?_
    refine Sq.off rfl rfl rfl rfl rfl rfl ?_
    refine Sq.pickT .plain rfl rfl rfl ?_
    refine Sq.move .plain rfl rfl ?_
    refine Sq.off rfl rfl rfl rfl rfl rfl ?_
    refine Sq.off rfl rfl rfl rfl rfl rfl ?_
    refine Sq.pickT .plain rfl rfl rfl ?_
    refine Sq.nil ?_
    refine Eq.next ?_
    refine Cq.thn rfl ?_
    refine Cq.seq ?_
    refine Cq.region ?_
    refine Sq.build st26 rfl rfl .plain rfl rfl one_nil rfl ?_
    refine Sq.storeAgg agg26 .plain rfl rfl (one_cons rfl (one_cons rfl (one_cons rfl one_nil))) hB19 rfl rfl (fun w292 g293 hB294 => ?_)
    have hs295 := World.grownBy.size g293
    replace E := E.grown g293 (fun k hk => by injection hk with hk; subst hk; omega)
    replace hB4 := hB4.grown g293 (by intro h; injection h with h; omega)
    replace hB11 := hB11.grown g293 (by intro h; injection h with h; omega)
    replace hB19 := hB294
    refine Sq.assign .plain rfl rfl ?_
    refine Sq.nil ?_
    refine Eq.next ?_
    refine Cq.ret ?_
    refine Eq.pastRet ?_
    refine Eq.retCell2 rfl rfl agg26 hB19 rfl rfl ?_
    have hno : prodOk a b k = false := prodOk_no (.inl hv)
    exact ⟨⟨_, by rw [hno], by rw [if_neg (by rw [hno]; decide)]; exact ⟨_, _, rfl, OwnRows.nil _ _ _ _ _, Own.nil _ _ _⟩⟩, E⟩

theorem sProd_c_T (w0 : World) (a b : A) (nx ac nx' ac' : Value) (hnx : Rows w0 56 3 nx a.next) (hac : Bools w0 4 ac a.acc) (hnx' : Rows w0 56 3 nx' b.next) (hac' : Bools w0 4 ac' b.acc) (k : Int) (hC : prodOk a b k = true) : Ret Try.prog 17 #[Value.agg #[Value.int .i64 a.al, nx, ac], Value.agg #[Value.int .i64 b.al, nx', ac'], Value.int .i64 k] w0 (fun v w => (∃ u, v = .tuple #[u, .bool true] ∧ OwnA w w0.heap.size u (prodA a b k)) ∧ Ext w0 w) :=
  (sProd_c w0 a b nx ac nx' ac' hnx hac hnx' hac' k).mono fun v w h => by rw [hC, if_pos rfl] at h; exact h
theorem sProd_c_F (w0 : World) (a b : A) (nx ac nx' ac' : Value) (hnx : Rows w0 56 3 nx a.next) (hac : Bools w0 4 ac a.acc) (hnx' : Rows w0 56 3 nx' b.next) (hac' : Bools w0 4 ac' b.acc) (k : Int) (hC : prodOk a b k = false) : Ret Try.prog 17 #[Value.agg #[Value.int .i64 a.al, nx, ac], Value.agg #[Value.int .i64 b.al, nx', ac'], Value.int .i64 k] w0 (fun v w => (∃ u, v = .tuple #[u, .bool false] ∧ OwnA w w0.heap.size u (zeroA)) ∧ Ext w0 w) :=
  (sProd_c w0 a b nx ac nx' ac' hnx hac hnx' hac' k).mono fun v w h => by rw [hC, if_neg (by decide)] at h; exact h

end Go.Proofs.Ytdejmfkpohgamaa
