/-
  Walks, printed by a program out of the translation and a contract for each function; each step is one law.
-/
import Derived.Test.YtdejmfkpohgamaaWj
set_option linter.unusedSimpArgs false
set_option linter.unusedVariables false
namespace Go.Proofs.Ytdejmfkpohgamaa
open Go.RowKit

set_option maxRecDepth 100000 in
theorem extend_c (w0 : World) (a : A) (nx ac : Value) (hnx : Rows w0 56 3 nx a.next) (hac : Bools w0 4 ac a.acc) (al : Int) : Ret Try.prog 20 #[Value.agg #[Value.int .i64 a.al, nx, ac], Value.int .i64 al] w0 (fun v w => (∃ u, v = .tuple #[u, .bool (validA a && decide (0 ≤ al ∧ al ≤ 63))] ∧ OwnA w w0.heap.size u (if validA a && decide (0 ≤ al ∧ al ≤ 63) then extend a al else zeroA)) ∧ Ext w0 w) := by
  have E := Ext.refl w0
  refine Ret.of (args := [Value.agg #[Value.int .i64 a.al, nx, ac], Value.int .i64 al]) Try.func20 rfl rfl rfl ?_
  rintro _ rfl
  show Cq _ _ _ _ [(0, Value.agg #[Value.int .i64 a.al, nx, ac]), (1, Value.int .i64 al)] _
  refine Cq.seq ?_
  refine Cq.region ?_
  refine Sq.box .plain rfl rfl (fun b1 w2 e3 hB4 hlo5 => ?_)
  have hd6 := Nat.le_trans (Below.size E) hlo5
  have hs7 := Below.size e3
  replace E := E.trans e3
  refine Sq.alloc zero26 .plain rfl (fun b8 w9 e10 hB11 hlo12 => ?_)
  have hd13 := Nat.le_trans (Below.size E) hlo12
  have hd14 := Nat.lt_of_lt_of_le hB4.lt hlo12
  have hs15 := Below.size e10
  replace E := E.trans e10
  replace hB4 := hB4.ext e10
  refine Sq.assign .plain rfl rfl ?_
  refine Sq.nil ?_
  refine Eq.next ?_
  refine Cq.seq ?_
  refine Cq.seq ?_
  refine Cq.region ?_
  refine Sq.loadAgg agg26 .plain rfl rfl hB4 rfl ?_
  have hd19 := hB4.lt
  have hd20 := hB11.lt
  refine Sq.call fn22 .plain rfl rfl (valid_c _ a _ _ (hnx.ext E) (hac.ext E)) ?_
  rintro _ w17 ⟨rfl, e18⟩
  have hs21 := Below.size E
  have hs22 := Below.size e18
  replace E := E.trans e18
  replace hB4 := hB4.ext e18
  replace hB11 := hB11.ext e18
  refine Sq.partB (fun hv => ?_) (fun hv => ?_)
  · refine Sq.notT .plain rfl rfl ?_
    refine Sq.move .plain rfl rfl ?_
    refine Sq.move (.met rfl rfl rfl) rfl rfl ?_
    refine Sq.call fn60 (.met rfl rfl rfl) rfl rfl (isAlphabet_c _ _) ?_
    rintro _ _ ⟨rfl, rfl⟩
    refine Sq.part (fun hc => ?_) (fun hc => ?_)
    · refine Sq.notT (.met rfl rfl rfl) rfl rfl ?_
      refine Sq.pickF .plain rfl rfl rfl ?_
      refine Sq.nil ?_
      refine Eq.next ?_
      refine Cq.els rfl ?_
      refine Cq.skip ?_
      refine Eq.next ?_
      refine Cq.seq ?_
      refine Cq.region ?_
      refine Sq.loadAgg agg26 .plain rfl rfl hB4 rfl ?_
      have hd31 := hB4.lt
      have hd32 := hB11.lt
      refine Sq.call fn48 .plain rfl rfl (tableOf_c _ a _ _ (hnx.ext E) (hac.ext E) hv) ?_
      rintro _ w24 ⟨⟨b26, xs27, rfl, hlo28, hT29, hTab30⟩, e25⟩
      have hs33 := Below.size E
      have hs34 := Below.size e25
      replace E := E.trans e25
      replace hB4 := hB4.ext e25
      replace hB11 := hB11.ext e25
      refine Sq.assign .plain rfl rfl ?_
      refine Sq.nil ?_
      refine Eq.next ?_
      refine Cq.seq ?_
      refine Cq.cut (fun ls w => ∃ (b3 : Nat), ∃ (ac3 : Value), ls = [(1, Value.int .i64 al), (2, Value.pointer (some ⟨b1, 0, none⟩)), (4, Value.pointer (some ⟨b8, 0, none⟩)), (6, Value.slice (some ⟨b26, 0, none⟩) a.next.length a.next.length), (7, Value.pointer (some ⟨b3, 0, none⟩))] ∧ Blk w b3 26 [Value.int .i64 (orI a.al al), Value.slice none 0 0, ac3] ∧ (w0.heap.size ≤ b3 ∧ b1 < b3 ∧ b8 < b3 ∧ b26 < b3) ∧ Own w w0.heap.size 4 ac3 (a.acc.map Value.bool) ∧ Ext w0 w ∧ Blk w b1 26 [Value.int .i64 a.al, nx, ac] ∧ Blk w b8 26 [Value.int .i64 0, Value.slice none 0 0, Value.slice none 0 0] ∧ Blk w b26 62 (xs27.map (Value.int .i64))) ?_ ?_
      · refine Cq.draw 9 none mixed (fun w35 e36 => ?_)
        have hs37 := Below.size e36
        replace E := E.trans e36
        replace hB4 := hB4.ext e36
        replace hB11 := hB11.ext e36
        replace hT29 := hT29.ext e36
        have E_w35 := E
        have hB4_w35 := hB4
        have hB11_w35 := hB11
        have hT29_w35 := hT29
        refine Gq.st 0 rfl (by kernel_rfl) rfl .plain rfl (fun _ _ _ h => h) (World.grownBy.refl w35 _) (fun w' x => Still.fieldAddr fld26_0 rfl) ?_
        refine Gq.st 1 rfl (by kernel_rfl) rfl .plain rfl (fun _ _ _ h => h) (World.grownBy.refl w35 _) (fun w' x => Still.loadB one3 rfl (hB4_w35.ext (Ext.of_grown x)) rfl) ?_
        refine Gq.st 2 rfl (by kernel_rfl) rfl .plain rfl (fun _ _ _ h => h) (World.grownBy.refl w35 _) (fun w' x => Still.move rfl) ?_
        refine Gq.st 3 rfl (by kernel_rfl) rfl .plain rfl (fun _ _ _ h => h) (World.grownBy.refl w35 _) (fun w' x => Still.or rfl rfl (by have := (validA_spec.1 hv).1; omega)) ?_
        refine Gq.st 4 rfl (by kernel_rfl) rfl .plain rfl (fun _ _ _ h => h) (World.grownBy.refl w35 _) (fun w' x => Still.fieldAddr fld26_2 rfl) ?_
        refine Gq.st 5 rfl (by kernel_rfl) rfl .plain rfl (fun _ _ _ h => h) (World.grownBy.refl w35 _) (fun w' x => Still.loadB one24 rfl (hB4_w35.ext (Ext.of_grown x)) rfl) ?_
        refine Gq.two 6 8 rfl rfl (by kernel_rfl) ?_ ?_
        · have hd42 := hB4.lt
          have hd43 := hB11.lt
          have hd44 := hT29.lt
          refine Sq.call fn61 .plain rfl rfl (cloneB_c _ _ (a.acc.map Value.bool) (hac.ext E) (one_bools _) (by rw [List.length_map]; have := (fit_of_valid hv).acc; omega)) ?_
          rintro v38 w39 ⟨hc41, e40⟩
          have hs45 := Below.size E
          have hs46 := Below.size e40
          replace E := E.trans e40
          replace hB4 := hB4.ext e40
          replace hB11 := hB11.ext e40
          replace hT29 := hT29.ext e40
          refine Sq.nil ?_
          refine Eq.goes (fun _ => (grown_trans (World.grownBy.refl w35 _) (Ext.to_grown e40 _))) ?_
          refine Gq.st 7 rfl (by kernel_rfl) rfl .plain rfl (fun _ _ _ h => h) (grown_trans (World.grownBy.refl w35 _) (Ext.to_grown e40 _)) (fun w' x => Still.build st26 rfl rfl rfl (one_cons rfl (one_cons (Row.one (Own.row hc41)) one_nil)) rfl) ?_
          refine Gq.one 8 rfl (by kernel_rfl) ?_
          refine Sq.alloc zero26 .plain rfl (fun b47 w48 e49 hB50 hlo51 => ?_)
          have hd52 := Nat.le_trans (Below.size E) hlo51
          have hd53 := Nat.lt_of_lt_of_le hB4.lt hlo51
          have hd54 := Nat.lt_of_lt_of_le hB11.lt hlo51
          have hd55 := Nat.lt_of_lt_of_le hT29.lt hlo51
          have hs56 := Below.size e49
          replace E := E.trans e49
          replace hB4 := hB4.ext e49
          replace hB11 := hB11.ext e49
          replace hT29 := hT29.ext e49
          replace hc41 := hc41.ext e49
          refine Sq.nil ?_
          refine Eq.goes (fun _ => (grown_trans (grown_trans (World.grownBy.refl w35 _) (Ext.to_grown e40 _)) (Ext.to_grown e49 _))) ?_
          refine Gq.one 9 rfl (by kernel_rfl) ?_
          refine Sq.storeAgg agg26 .plain rfl rfl (one_cons rfl (one_cons rfl (one_cons (Row.one (Own.row hc41)) one_nil))) hB50 rfl rfl (fun w57 g58 hB59 => ?_)
          have hs60 := World.grownBy.size g58
          replace E := E.grown g58 (fun k hk => by injection hk with hk; subst hk; omega)
          replace hB4 := hB4.grown g58 (by intro h; injection h with h; omega)
          replace hB11 := hB11.grown g58 (by intro h; injection h with h; omega)
          replace hT29 := hT29.grown g58 (by intro h; injection h with h; omega)
          replace hc41 := hc41.stored g58 hB50 (by decide)
          replace hB50 := hB59
          refine Sq.nil ?_
          refine Eq.goes (fun h => absurd h (by decide)) ?_
          refine Gq.done (by kernel_rfl) ?_
          refine Eq.left _ ⟨b47, v38, rfl, hB50, by omega, Own.mono hc41 (by omega), E, hB4, hB11, hT29⟩ (.cons rfl (.cons rfl (.cons rfl (.cons rfl (.cons rfl (.nil))))))
        · refine Sq.alloc zero26 .plain rfl (fun b61 w62 e63 hB64 hlo65 => ?_)
          have hd66 := Nat.le_trans (Below.size E) hlo65
          have hd67 := Nat.lt_of_lt_of_le hB4.lt hlo65
          have hd68 := Nat.lt_of_lt_of_le hB11.lt hlo65
          have hd69 := Nat.lt_of_lt_of_le hT29.lt hlo65
          have hs70 := Below.size e63
          replace E := E.trans e63
          replace hB4 := hB4.ext e63
          replace hB11 := hB11.ext e63
          replace hT29 := hT29.ext e63
          refine Sq.nil ?_
          refine Eq.goes (fun _ => (grown_trans (World.grownBy.refl w35 _) (Ext.to_grown e63 _))) ?_
          refine Gq.one 6 rfl (by kernel_rfl) ?_
          have hd75 := hB4.lt
          have hd76 := hB11.lt
          have hd77 := hT29.lt
          have hd78 := hB64.lt
          refine Sq.call fn61 .plain rfl rfl (cloneB_c _ _ (a.acc.map Value.bool) (hac.ext E) (one_bools _) (by rw [List.length_map]; have := (fit_of_valid hv).acc; omega)) ?_
          rintro v71 w72 ⟨hc74, e73⟩
          have hs79 := Below.size E
          have hs80 := Below.size e73
          replace E := E.trans e73
          replace hB4 := hB4.ext e73
          replace hB11 := hB11.ext e73
          replace hT29 := hT29.ext e73
          replace hB64 := hB64.ext e73
          refine Sq.nil ?_
          refine Eq.goes (fun _ => (grown_trans (grown_trans (World.grownBy.refl w35 _) (Ext.to_grown e63 _)) (Ext.to_grown e73 _))) ?_
          refine Gq.st 7 rfl (by kernel_rfl) rfl .plain rfl (fun _ _ _ h => h) (grown_trans (grown_trans (World.grownBy.refl w35 _) (Ext.to_grown e63 _)) (Ext.to_grown e73 _)) (fun w' x => Still.build st26 rfl rfl rfl (one_cons rfl (one_cons (Row.one (Own.row hc74)) one_nil)) rfl) ?_
          refine Gq.one 9 rfl (by kernel_rfl) ?_
          refine Sq.storeAgg agg26 .plain rfl rfl (one_cons rfl (one_cons rfl (one_cons (Row.one (Own.row hc74)) one_nil))) hB64 rfl rfl (fun w81 g82 hB83 => ?_)
          have hs84 := World.grownBy.size g82
          replace E := E.grown g82 (fun k hk => by injection hk with hk; subst hk; omega)
          replace hB4 := hB4.grown g82 (by intro h; injection h with h; omega)
          replace hB11 := hB11.grown g82 (by intro h; injection h with h; omega)
          replace hT29 := hT29.grown g82 (by intro h; injection h with h; omega)
          replace hc74 := hc74.stored g82 hB64 (by decide)
          replace hB64 := hB83
          refine Sq.nil ?_
          refine Eq.goes (fun h => absurd h (by decide)) ?_
          refine Gq.done (by kernel_rfl) ?_
          refine Eq.left _ ⟨b61, v71, rfl, hB64, by omega, Own.mono hc74 (by omega), E, hB4, hB11, hT29⟩ (.cons rfl (.cons rfl (.cons rfl (.cons rfl (.cons rfl (.nil))))))
      · rintro ls wc4 ⟨b3, ac3, rfl, hB3, hb3, hoc, E, hB4, hB11, hT29⟩
        have hs85 := Below.size E
        have hvs := validA_spec.1 hv
        have hor1 := orI_le hvs.1 hc
        refine Eq.next ?_
        refine Cq.seq ?_
        refine Cq.seq ?_
        refine Cq.region ?_
        refine Sq.fieldAddr fld26_1 .plain rfl rfl ?_
        refine Sq.loadB one23 .plain rfl rfl hB4 rfl ?_
        refine Sq.lenRows (hnx.ext E) .plain rfl und23 rfl ?_
        refine Sq.move .plain rfl rfl ?_
        refine Sq.nil ?_
        refine Eq.next ?_
        refine Cq.block ?_
        refine Cq.loop (fun nn w ls => ∃ (i : Int), ∃ (v : Value), ls = [(1, Value.int .i64 al), (2, Value.pointer (some ⟨b1, 0, none⟩)), (4, Value.pointer (some ⟨b8, 0, none⟩)), (6, Value.slice (some ⟨b26, 0, none⟩) a.next.length a.next.length), (7, Value.pointer (some ⟨b3, 0, none⟩)), (33, Value.int .i64 (List.length a.next : Int)), (34, Value.int .i64 i)] ∧ (0 ≤ i ∧ i ≤ a.next.length) ∧ Blk w b3 26 [Value.int .i64 (orI a.al al), v, ac3] ∧ OwnRows w w0.heap.size w.heap.size 56 3 v (extTo a (orI a.al al) i.toNat) ∧ Ext w0 w ∧ Blk w b1 26 [Value.int .i64 a.al, nx, ac] ∧ Blk w b8 26 [Value.int .i64 0, Value.slice none 0 0, Value.slice none 0 0] ∧ Blk w b26 62 (xs27.map (Value.int .i64)) ∧ Own w w0.heap.size 4 ac3 (a.acc.map Value.bool) ∧ nn = ((a.next.length : Int) - i).toNat) _ _ ⟨0, _, rfl, by omega, hB3, OwnRows.nil _ _ _ _ _, E, hB4, hB11, hT29, hoc, rfl⟩ (.cons rfl (.cons rfl (.cons rfl (.cons rfl (.cons rfl (.cons rfl (.cons rfl (.nil)))))))) ?_
        rintro nn wl1 ls ⟨i, v, rfl, hi, hB3, hor, E, hB4, hB11, hT29, hoc, rfl⟩
        have hs86 := Below.size E
        have hn := hvs.2.1
        have hel := extTo_length a (orI a.al al) i.toNat
        refine Cq.seq ?_
        refine Cq.region ?_
        refine Sq.lss .plain rfl rfl rfl ?_
        refine Sq.part (fun c87 => ?_) (fun c87 => ?_)
        · refine Sq.nil ?_
          refine Eq.next ?_
          refine Cq.seq ?_
          refine Cq.thn rfl ?_
          refine Cq.skip ?_
          refine Eq.next ?_
          refine Cq.seq ?_
          refine Cq.block ?_
          refine Cq.seq ?_
          refine Cq.region ?_
          refine Sq.move .plain rfl rfl ?_
          refine Sq.assign .plain rfl rfl ?_
          refine Sq.nil ?_
          refine Eq.next ?_
          refine Cq.seq ?_
          refine Cq.region ?_
          refine Sq.assign .plain rfl rfl ?_
          refine Sq.nil ?_
          refine Eq.next ?_
          refine Cq.seq ?_
          refine Cq.seq ?_
          refine Cq.region ?_
          refine Sq.fieldAddr fld26_0 .plain rfl rfl ?_
          refine Sq.loadB one3 .plain rfl rfl hB3 rfl ?_
          have hd92 := hB4.lt
          have hd93 := hB11.lt
          have hd94 := hT29.lt
          have hd95 := hB3.lt
          refine Sq.call fn50 .plain rfl rfl (lettersOf_c _ (by omega) _) ?_
          rintro v88 w89 ⟨hl91, e90⟩
          have hs96 := Below.size E
          have hs97 := Below.size e90
          replace E := E.trans e90
          replace hB4 := hB4.ext e90
          replace hB11 := hB11.ext e90
          replace hT29 := hT29.ext e90
          replace hoc := hoc.ext e90
          replace hB3 := hB3.ext e90
          replace hor := hor.ext e90
          refine Sq.lenInts (Own.row hl91) .plain rfl und56 rfl ?_
          refine Sq.move .plain rfl rfl ?_
          refine Sq.nil ?_
          refine Eq.next ?_
          refine Cq.block ?_
          have hlow := Own.low hl91
          refine Cq.loop (fun nn w ls => ∃ (k : Int), ∃ (rv : Value), ∃ (row : List Int), ls = [(1, Value.int .i64 al), (2, Value.pointer (some ⟨b1, 0, none⟩)), (4, Value.pointer (some ⟨b8, 0, none⟩)), (6, Value.slice (some ⟨b26, 0, none⟩) a.next.length a.next.length), (7, Value.pointer (some ⟨b3, 0, none⟩)), (33, Value.int .i64 (List.length a.next : Int)), (34, Value.int .i64 i), (8, Value.int .i64 i), (39, v88), (40, Value.int .i64 ((List.length (letters (orI a.al al)) : Int))), (9, rv), (41, Value.int .i64 k)] ∧ (0 ≤ k ∧ k ≤ (letters (orI a.al al)).length) ∧ w89.heap.size ≤ w.heap.size ∧ Own w w89.heap.size 3 rv (row.map (Value.int .i64)) ∧ row = ((letters (orI a.al al)).take k.toNat).map (goA a (i.toNat : Nat)) ∧ Ext w0 w ∧ Blk w b1 26 [Value.int .i64 a.al, nx, ac] ∧ Blk w b8 26 [Value.int .i64 0, Value.slice none 0 0, Value.slice none 0 0] ∧ Blk w b26 62 (xs27.map (Value.int .i64)) ∧ Blk w b3 26 [Value.int .i64 (orI a.al al), v, ac3] ∧ OwnRows w w0.heap.size wl1.heap.size 56 3 v (extTo a (orI a.al al) i.toNat) ∧ Own w w0.heap.size 4 ac3 (a.acc.map Value.bool) ∧ Own w wl1.heap.size 3 v88 ((letters (orI a.al al)).map (Value.int .i64)) ∧ nn = ((letters (orI a.al al)).length - k).toNat) _ _ ⟨0, _, [], rfl, by omega, by omega, Own.nil _ _ _, rfl, E, hB4, hB11, hT29, hB3, hor, hoc, hl91, rfl⟩ (.cons rfl (.cons rfl (.cons rfl (.cons rfl (.cons rfl (.cons rfl (.cons rfl (.cons rfl (.cons rfl (.cons rfl (.cons rfl (.cons rfl (.nil))))))))))))) ?_
          rintro nn wl2 ls ⟨k, rv, row, rfl, hk, hsz, hro, hrow, E, hB4, hB11, hT29, hB3, hor, hoc, hl91, rfl⟩
          have hs98 := Below.size E
          have hlet := letters_len6 (orI a.al al)
          have hlt := letters_at (orI a.al al) (k := k.toNat)
          have hrl : row.length ≤ 6 := by rw [hrow, List.length_map, List.length_take]; omega
          refine Cq.seq ?_
          refine Cq.region ?_
          refine Sq.lss .plain rfl rfl rfl ?_
          refine Sq.part (fun c99 => ?_) (fun c99 => ?_)
          · refine Sq.nil ?_
            refine Eq.next ?_
            refine Cq.seq ?_
            refine Cq.thn rfl ?_
            refine Cq.skip ?_
            refine Eq.next ?_
            refine Cq.seq ?_
            refine Cq.block ?_
            refine Cq.seq ?_
            refine Cq.region ?_
            refine Sq.idxInts sl56 one3 (Own.row hl91) .plain rfl rfl rfl .plain rfl rfl (by omega) (by omega) ?_
            refine Sq.assign .plain rfl rfl ?_
            refine Sq.nil ?_
            refine Eq.next ?_
            refine Cq.region ?_
            refine Sq.move .plain rfl rfl ?_
            refine Sq.move .plain rfl rfl ?_
            refine Sq.move .plain rfl rfl ?_
            refine Sq.move .plain rfl rfl ?_
            refine Sq.val .plain rfl rfl (Still.ixS slk57 rfl rfl (by omega) (by omega)) ?_
            refine Sq.val .plain rfl rfl (Still.ixA ar62 rfl rfl (by omega) (by omega)) ?_
            refine Sq.val .plain rfl rfl (Still.loadB one3 rfl hT29 (by rw [Nat.zero_add, List.getElem?_map, hTab30.2 i ((letters (orI a.al al)).getD k.toNat 0) (by omega) (by have := hlt (by omega); omega)]; rfl)) ?_
            refine Sq.app1 sl56 hro (by omega) (by first | omega | (simp; omega)) .plain rfl rfl rfl rfl rfl rfl rfl (fun v100 w101 ho103 g102 _ => ?_)
            have hs104 := g102.size
            replace E := E.owned hro g102 (by omega)
            replace hB4 := hB4.owned hro g102 (by decide)
            replace hB11 := hB11.owned hro g102 (by decide)
            replace hT29 := hT29.owned hro g102 (by decide)
            replace hB3 := hB3.owned hro g102 (by decide)
            replace hor := hor.apart hro g102 (by omega) (by decide)
            replace hoc := hoc.owned hro g102 (by decide)
            replace hl91 := hl91.apart hlow hro g102 (by omega)
            refine Sq.assign .plain rfl rfl ?_
            refine Sq.nil ?_
            refine Eq.end ?_
            refine Eq.next ?_
            refine Cq.region ?_
            refine Sq.add .plain rfl rfl rfl (by omega) ?_
            refine Sq.move .plain rfl rfl ?_
            refine Sq.nil ?_
            have e1 := toNat_succ hk.1
            have e2 := extRowTo_succ (a := a) (b := (orI a.al al)) (q := i.toNat) (k := k.toNat) (by omega)
            rw [Int.toNat_of_nonneg hi.1] at e2 hrow
            refine Eq.round _ _ ⟨k + 1, _, _, rfl, by omega, by omega, Own.snocI ho103, by rw [e1, Int.toNat_of_nonneg hi.1, e2, ← hrow], E, hB4, hB11, hT29, hB3, hor, hoc, hl91, rfl⟩ (by omega) (.cons rfl (.cons rfl (.cons rfl (.cons rfl (.cons rfl (.cons rfl (.cons rfl (.cons rfl (.cons rfl (.cons rfl (.cons rfl (.cons rfl (.nil)))))))))))))
          · refine Sq.nil ?_
            refine Eq.next ?_
            refine Cq.seq ?_
            refine Cq.els rfl ?_
            refine Cq.exit ?_
            refine Eq.past ?_
            refine Eq.past ?_
            refine Eq.hit ?_
            refine Eq.next ?_
            refine Cq.region ?_
            refine Sq.fieldAddr fld26_1 .plain rfl rfl ?_
            refine Sq.loadB one23 .plain rfl rfl hB3 rfl ?_
            refine Sq.move .plain rfl rfl ?_
            obtain ⟨rs109, q110, q111, q112⟩ := OwnRows.open hor (by decide)
            have q112x := Ext.refl wl2
            refine Sq.app1 sl23 q110 (by omega) (by rw [q111]; first | omega | (simp; omega)) .plain rfl rfl rfl rfl rfl rfl (Row.one (Own.row hro)) (fun v105 w106 ho108 g107 _ => ?_)
            have hs113 := g107.size
            have ho108r := q112 _ row _ _ _ (Ext.refl _) (Own.mono hro (by omega)) (by omega) ho108 g107
            replace E := E.owned q110 g107 (by omega)
            replace hB4 := hB4.owned q110 g107 (by decide)
            replace hB11 := hB11.owned q110 g107 (by decide)
            replace hT29 := hT29.owned q110 g107 (by decide)
            replace hB3 := hB3.owned q110 g107 (by decide)
            replace hoc := hoc.owned q110 g107 (by decide)
            replace hl91 := hl91.owned q110 g107 (by decide)
            replace hro := hro.owned q110 g107 (by decide)
            refine Sq.fieldAddr fld26_1 .plain rfl rfl ?_
            refine Sq.store one23 .plain rfl rfl (Rows.one (OwnRows.rows ho108r)) hB3 (by simp) (fun w114 g115 hB116 => ?_)
            have hs117 := World.grownBy.size g115
            replace E := E.grown g115 (fun k hk => by injection hk with hk; subst hk; omega)
            replace hB4 := hB4.grown g115 (by intro h; injection h with h; omega)
            replace hB11 := hB11.grown g115 (by intro h; injection h with h; omega)
            replace hT29 := hT29.grown g115 (by intro h; injection h with h; omega)
            replace hoc := hoc.stored g115 hB3 (by decide)
            replace hl91 := hl91.stored g115 hB3 (by decide)
            replace hro := hro.stored g115 hB3 (by decide)
            replace ho108r := ho108r.stored g115 hB3 (by decide) (by decide)
            replace hB3 := hB116
            refine Sq.nil ?_
            refine Eq.end ?_
            refine Eq.next ?_
            refine Cq.region ?_
            refine Sq.add .plain rfl rfl rfl (by omega) ?_
            refine Sq.move .plain rfl rfl ?_
            refine Sq.nil ?_
            have e1 := toNat_succ hi.1
            refine Eq.round _ _ ⟨i + 1, _, rfl, by omega, hB3, by rw [e1, extTo_succ, ← extRow_done (k := k.toNat) (by omega), ← hrow]; exact OwnRows.now ho108r, E, hB4, hB11, hT29, hoc, rfl⟩ (by omega) (.cons rfl (.cons rfl (.cons rfl (.cons rfl (.cons rfl (.cons rfl (.cons rfl (.nil))))))))
        · refine Sq.nil ?_
          refine Eq.next ?_
          refine Cq.seq ?_
          refine Cq.els rfl ?_
          refine Cq.exit ?_
          refine Eq.past ?_
          refine Eq.past ?_
          refine Eq.hit ?_
          refine Eq.next ?_
          refine Cq.seq ?_
          refine Cq.region ?_
          refine Sq.loadAgg agg26 .plain rfl rfl hB3 rfl ?_
          refine Sq.storeAgg agg26 .plain rfl rfl (one_cons rfl (one_cons (Rows.one (OwnRows.rows hor)) (one_cons (Row.one (Own.row hoc)) one_nil))) hB11 rfl rfl (fun w118 g119 hB120 => ?_)
          have hs121 := World.grownBy.size g119
          replace E := E.grown g119 (fun k hk => by injection hk with hk; subst hk; omega)
          replace hB4 := hB4.grown g119 (by intro h; injection h with h; omega)
          replace hT29 := hT29.grown g119 (by intro h; injection h with h; omega)
          replace hoc := hoc.stored g119 hB11 (by decide)
          replace hB3 := hB3.grown g119 (by intro h; injection h with h; omega)
          replace hor := hor.stored g119 hB11 (by decide) (by decide)
          replace hB11 := hB120
          refine Sq.assign .plain rfl rfl ?_
          refine Sq.nil ?_
          refine Eq.next ?_
          refine Cq.ret ?_
          refine Eq.retCell2 rfl rfl agg26 hB11 rfl rfl ?_
          have e : extTo a (orI a.al al) i.toNat = (extend a al).next := by rw [show i.toNat = a.next.length by omega]; rfl
          rw [e] at hor
          exact ⟨⟨_, by rw [hv, decide_eq_true hc, Bool.and_self], by rw [if_pos (by rw [hv, decide_eq_true hc]; rfl)]; exact ⟨_, _, rfl, OwnRows.now hor, hoc⟩⟩, E⟩
    · refine Sq.notF (.met rfl rfl rfl) rfl rfl ?_
      refine Sq.pickF .plain rfl rfl rfl ?_
      refine Sq.nil ?_
      refine Eq.next ?_
      refine Cq.thn rfl ?_
      refine Cq.seq ?_
      refine Cq.region ?_
      refine Sq.build st26 rfl rfl .plain rfl rfl one_nil rfl ?_
      refine Sq.storeAgg agg26 .plain rfl rfl (one_cons rfl (one_cons rfl (one_cons rfl one_nil))) hB11 rfl rfl (fun w122 g123 hB124 => ?_)
      have hs125 := World.grownBy.size g123
      replace E := E.grown g123 (fun k hk => by injection hk with hk; subst hk; omega)
      replace hB4 := hB4.grown g123 (by intro h; injection h with h; omega)
      replace hB11 := hB124
      refine Sq.assign .plain rfl rfl ?_
      refine Sq.nil ?_
      refine Eq.next ?_
      refine Cq.ret ?_
      refine Eq.pastRet ?_
      refine Eq.retCell2 rfl rfl agg26 hB11 rfl rfl ?_
      exact ⟨⟨_, by rw [hv, decide_eq_false hc, Bool.true_and], by rw [if_neg (by rw [hv, decide_eq_false hc]; decide)]; exact ⟨_, _, rfl, OwnRows.nil _ _ _ _ _, Own.nil _ _ _⟩⟩, E⟩
  · refine Sq.notF .plain rfl rfl ?_
    refine Sq.move .plain rfl rfl ?_
    refine Sq.off rfl rfl rfl rfl rfl rfl ?_
    refine Sq.off rfl rfl rfl rfl rfl rfl ?_
    refine Sq.off rfl rfl rfl rfl rfl rfl ?_
    refine Sq.pickT .plain rfl rfl rfl ?_
    refine Sq.nil ?_
    refine Eq.next ?_
    refine Cq.thn rfl ?_
    refine Cq.seq ?_
    refine Cq.region ?_
    refine Sq.build st26 rfl rfl .plain rfl rfl one_nil rfl ?_
    refine Sq.storeAgg agg26 .plain rfl rfl (one_cons rfl (one_cons rfl (one_cons rfl one_nil))) hB11 rfl rfl (fun w126 g127 hB128 => ?_)
    have hs129 := World.grownBy.size g127
    replace E := E.grown g127 (fun k hk => by injection hk with hk; subst hk; omega)
    replace hB4 := hB4.grown g127 (by intro h; injection h with h; omega)
    replace hB11 := hB128
    refine Sq.assign .plain rfl rfl ?_
    refine Sq.nil ?_
    refine Eq.next ?_
    refine Cq.ret ?_
    refine Eq.pastRet ?_
    refine Eq.retCell2 rfl rfl agg26 hB11 rfl rfl ?_
    exact ⟨⟨_, by rw [hv, Bool.false_and], by rw [if_neg (by rw [hv, Bool.false_and]; decide)]; exact ⟨_, _, rfl, OwnRows.nil _ _ _ _ _, Own.nil _ _ _⟩⟩, E⟩

theorem extend_c_T (w0 : World) (a : A) (nx ac : Value) (hnx : Rows w0 56 3 nx a.next) (hac : Bools w0 4 ac a.acc) (al : Int) (hC : (validA a && decide (0 ≤ al ∧ al ≤ 63)) = true) : Ret Try.prog 20 #[Value.agg #[Value.int .i64 a.al, nx, ac], Value.int .i64 al] w0 (fun v w => (∃ u, v = .tuple #[u, .bool true] ∧ OwnA w w0.heap.size u (extend a al)) ∧ Ext w0 w) :=
  (extend_c w0 a nx ac hnx hac al).mono fun v w h => by rw [hC, if_pos rfl] at h; exact h
theorem extend_c_F (w0 : World) (a : A) (nx ac : Value) (hnx : Rows w0 56 3 nx a.next) (hac : Bools w0 4 ac a.acc) (al : Int) (hC : (validA a && decide (0 ≤ al ∧ al ≤ 63)) = false) : Ret Try.prog 20 #[Value.agg #[Value.int .i64 a.al, nx, ac], Value.int .i64 al] w0 (fun v w => (∃ u, v = .tuple #[u, .bool false] ∧ OwnA w w0.heap.size u (zeroA)) ∧ Ext w0 w) :=
  (extend_c w0 a nx ac hnx hac al).mono fun v w h => by rw [hC, if_neg (by decide)] at h; exact h

end Go.Proofs.Ytdejmfkpohgamaa
