/-
  Walks, printed by a program out of the translation and a contract for each function; each step is one law.
-/
import Derived.Test.YtmlhgkfbiapakaaWj
set_option linter.unusedSimpArgs false
set_option linter.unusedVariables false
namespace Go.Proofs.Ytmlhgkfbiapakaa
open Go.RowKit

set_option maxRecDepth 100000 in
theorem sExtend_c (w0 : World) (a : A) (nx ac : Value) (hnx : Rows w0 47 3 nx a.next) (hac : Bools w0 4 ac a.acc) (al : Int) : Ret Try.prog 23 #[Value.agg #[Value.int .i64 a.al, nx, ac], Value.int .i64 al] w0 (fun v w => (∃ u, v = .tuple #[u, .bool (validA a && decide (0 ≤ al ∧ al ≤ 63))] ∧ OwnA w w0.heap.size u (if validA a && decide (0 ≤ al ∧ al ≤ 63) then extend a al else zeroA)) ∧ Ext w0 w) := by
  have E := Ext.refl w0
  refine Ret.of (args := [Value.agg #[Value.int .i64 a.al, nx, ac], Value.int .i64 al]) Try.func23 rfl rfl rfl ?_
  rintro _ rfl
  show Cq _ _ _ _ [(0, Value.agg #[Value.int .i64 a.al, nx, ac]), (1, Value.int .i64 al)] _
  refine Cq.seq ?_
  refine Cq.region ?_
  refine Sq.box .plain rfl rfl (fun b1 w2 e3 hB4 hlo5 => ?_)
  have hd6 := Nat.le_trans (Below.size E) hlo5
  have hs7 := Below.size e3
  replace E := E.trans e3
  refine Sq.alloc zero26 .plain rfl (fun b8 w9 e10 hB11 hlo12 => ?_)
  have hd13 := Nat.le_trans (Below.size E) hlo12
  have hd14 := Nat.lt_of_lt_of_le hB4.lt hlo12
  have hs15 := Below.size e10
  replace E := E.trans e10
  replace hB4 := hB4.ext e10
  refine Sq.assign .plain rfl rfl ?_
  refine Sq.nil ?_
  refine Eq.next ?_
  refine Cq.seq ?_
  refine Cq.seq ?_
  refine Cq.region ?_
  refine Sq.loadAgg agg26 .plain rfl rfl hB4 rfl ?_
  have hd19 := hB4.lt
  have hd20 := hB11.lt
  refine Sq.call fn44 .plain rfl rfl (sValid_c _ a _ _ (hnx.ext E) (hac.ext E)) ?_
  rintro _ w17 ⟨rfl, e18⟩
  have hs21 := Below.size E
  have hs22 := Below.size e18
  replace E := E.trans e18
  replace hB4 := hB4.ext e18
  replace hB11 := hB11.ext e18
  refine Sq.partB (fun hv => ?_) (fun hv => ?_)
  · refine Sq.notT .plain rfl rfl ?_
    refine Sq.move .plain rfl rfl ?_
    refine Sq.move (.met rfl rfl rfl) rfl rfl ?_
    refine Sq.call fn56 (.met rfl rfl rfl) rfl rfl (l1Alphabet_c _ _) ?_
    rintro _ _ ⟨rfl, rfl⟩
    refine Sq.part (fun hc => ?_) (fun hc => ?_)
    · refine Sq.notT (.met rfl rfl rfl) rfl rfl ?_
      refine Sq.pickF .plain rfl rfl rfl ?_
      refine Sq.nil ?_
      refine Eq.next ?_
      refine Cq.els rfl ?_
      refine Cq.skip ?_
      refine Eq.next ?_
      refine Cq.seq ?_
      refine Cq.cut (fun ls w => ∃ (b3 : Nat), ∃ (ac3 : Value), ls = [(1, Value.int .i64 al), (2, Value.pointer (some ⟨b1, 0, none⟩)), (4, Value.pointer (some ⟨b8, 0, none⟩)), (6, Value.pointer (some ⟨b3, 0, none⟩))] ∧ Blk w b3 26 [Value.int .i64 (orI a.al al), Value.slice none 0 0, ac3] ∧ (w0.heap.size ≤ b3 ∧ b1 < b3 ∧ b8 < b3) ∧ Own w w0.heap.size 4 ac3 (a.acc.map Value.bool) ∧ Ext w0 w ∧ Blk w b1 26 [Value.int .i64 a.al, nx, ac] ∧ Blk w b8 26 [Value.int .i64 0, Value.slice none 0 0, Value.slice none 0 0]) ?_ ?_
      · refine Cq.draw 10 none mixed (fun w23 e24 => ?_)
        have hs25 := Below.size e24
        replace E := E.trans e24
        replace hB4 := hB4.ext e24
        replace hB11 := hB11.ext e24
        have E_w23 := E
        have hB4_w23 := hB4
        have hB11_w23 := hB11
        refine Gq.st 0 rfl (by kernel_rfl) rfl .plain rfl (fun _ _ _ h => h) (World.grownBy.refl w23 _) (fun w' x => Still.fieldAddr fld26_0 rfl) ?_
        refine Gq.st 1 rfl (by kernel_rfl) rfl .plain rfl (fun _ _ _ h => h) (World.grownBy.refl w23 _) (fun w' x => Still.loadB one3 rfl (hB4_w23.ext (Ext.of_grown x)) rfl) ?_
        refine Gq.st 2 rfl (by kernel_rfl) rfl .plain rfl (fun _ _ _ h => h) (World.grownBy.refl w23 _) (fun w' x => Still.move rfl) ?_
        refine Gq.st 3 rfl (by kernel_rfl) rfl .plain rfl (fun _ _ _ h => h) (World.grownBy.refl w23 _) (fun w' x => Still.or rfl rfl (by have := (validA_spec.1 hv).1; omega)) ?_
        refine Gq.st 5 rfl (by kernel_rfl) rfl .plain rfl (fun _ _ _ h => h) (World.grownBy.refl w23 _) (fun w' x => Still.fieldAddr fld26_2 rfl) ?_
        refine Gq.st 6 rfl (by kernel_rfl) rfl .plain rfl (fun _ _ _ h => h) (World.grownBy.refl w23 _) (fun w' x => Still.loadB one24 rfl (hB4_w23.ext (Ext.of_grown x)) rfl) ?_
        refine Gq.two 4 9 rfl rfl (by kernel_rfl) ?_ ?_
        · refine Sq.lit sl24 rfl rfl .plain rfl rfl one_nil (fun b26 w27 e28 hlo29 ho30 _ => ?_)
          replace ho30 := ho30 w23.heap.size (Nat.le_refl _)
          have hs32 := Below.size e28
          replace E := E.trans e28
          replace hB4 := hB4.ext e28
          replace hB11 := hB11.ext e28
          refine Sq.nil ?_
          refine Eq.goes (fun _ => (grown_trans (World.grownBy.refl w23 _) (Ext.to_grown e28 _))) ?_
          refine Gq.two 7 9 rfl rfl (by kernel_rfl) ?_ ?_
          · refine Sq.app sl24 ho30 (by omega) (hac.ext E) (one_bools _) (by rw [List.length_map]; simp only [List.length_nil, Nat.zero_add]; have := (fit_of_valid hv).acc; omega) .plain rfl rfl rfl rfl (fun v33 w34 ho36 g35 => ?_)
            have hs37 := g35.size
            replace E := E.owned ho30 g35 (by omega)
            replace hB4 := hB4.owned ho30 g35 (by decide)
            replace hB11 := hB11.owned ho30 g35 (by decide)
            simp only [List.nil_append] at ho36
            refine Sq.nil ?_
            refine Eq.goes (fun _ => (grown_new (grown_trans (World.grownBy.refl w23 _) (Ext.to_grown e28 _)) ho30 g35 (by omega))) ?_
            refine Gq.st 8 rfl (by kernel_rfl) rfl .plain rfl (fun _ _ _ h => h) (grown_new (grown_trans (World.grownBy.refl w23 _) (Ext.to_grown e28 _)) ho30 g35 (by omega)) (fun w' x => Still.build st26 rfl rfl rfl (one_cons rfl (one_cons (Row.one (Own.row ho36)) one_nil)) rfl) ?_
            refine Gq.one 9 rfl (by kernel_rfl) ?_
            refine Sq.alloc zero26 .plain rfl (fun b38 w39 e40 hB41 hlo42 => ?_)
            have hd43 := Nat.le_trans (Below.size E) hlo42
            have hd44 := Nat.lt_of_lt_of_le hB4.lt hlo42
            have hd45 := Nat.lt_of_lt_of_le hB11.lt hlo42
            have hs46 := Below.size e40
            replace E := E.trans e40
            replace hB4 := hB4.ext e40
            replace hB11 := hB11.ext e40
            replace ho36 := ho36.ext e40
            refine Sq.nil ?_
            refine Eq.goes (fun _ => (grown_trans (grown_new (grown_trans (World.grownBy.refl w23 _) (Ext.to_grown e28 _)) ho30 g35 (by omega)) (Ext.to_grown e40 _))) ?_
            refine Gq.one 10 rfl (by kernel_rfl) ?_
            refine Sq.storeAgg agg26 .plain rfl rfl (one_cons rfl (one_cons rfl (one_cons (Row.one (Own.row ho36)) one_nil))) hB41 rfl rfl (fun w47 g48 hB49 => ?_)
            have hs50 := World.grownBy.size g48
            replace E := E.grown g48 (fun k hk => by injection hk with hk; subst hk; omega)
            replace hB4 := hB4.grown g48 (by intro h; injection h with h; omega)
            replace hB11 := hB11.grown g48 (by intro h; injection h with h; omega)
            replace ho36 := ho36.stored g48 hB41 (by decide)
            replace hB41 := hB49
            refine Sq.nil ?_
            refine Eq.goes (fun h => absurd h (by decide)) ?_
            refine Gq.done (by kernel_rfl) ?_
            refine Eq.left _ ⟨b38, v33, rfl, hB41, by omega, Own.mono ho36 (by omega), E, hB4, hB11⟩ (.cons rfl (.cons rfl (.cons rfl (.cons rfl (.nil)))))
          · refine Sq.alloc zero26 .plain rfl (fun b51 w52 e53 hB54 hlo55 => ?_)
            have hd56 := Nat.le_trans (Below.size E) hlo55
            have hd57 := Nat.lt_of_lt_of_le hB4.lt hlo55
            have hd58 := Nat.lt_of_lt_of_le hB11.lt hlo55
            have hs59 := Below.size e53
            replace E := E.trans e53
            replace hB4 := hB4.ext e53
            replace hB11 := hB11.ext e53
            replace ho30 := ho30.ext e53
            refine Sq.nil ?_
            refine Eq.goes (fun _ => (grown_trans (grown_trans (World.grownBy.refl w23 _) (Ext.to_grown e28 _)) (Ext.to_grown e53 _))) ?_
            refine Gq.one 7 rfl (by kernel_rfl) ?_
            refine Sq.app sl24 ho30 (by omega) (hac.ext E) (one_bools _) (by rw [List.length_map]; simp only [List.length_nil, Nat.zero_add]; have := (fit_of_valid hv).acc; omega) .plain rfl rfl rfl rfl (fun v60 w61 ho63 g62 => ?_)
            have hs64 := g62.size
            replace E := E.owned ho30 g62 (by omega)
            replace hB4 := hB4.owned ho30 g62 (by decide)
            replace hB11 := hB11.owned ho30 g62 (by decide)
            replace hB54 := hB54.owned ho30 g62 (by decide)
            simp only [List.nil_append] at ho63
            refine Sq.nil ?_
            refine Eq.goes (fun _ => (grown_new (grown_trans (grown_trans (World.grownBy.refl w23 _) (Ext.to_grown e28 _)) (Ext.to_grown e53 _)) ho30 g62 (by omega))) ?_
            refine Gq.st 8 rfl (by kernel_rfl) rfl .plain rfl (fun _ _ _ h => h) (grown_new (grown_trans (grown_trans (World.grownBy.refl w23 _) (Ext.to_grown e28 _)) (Ext.to_grown e53 _)) ho30 g62 (by omega)) (fun w' x => Still.build st26 rfl rfl rfl (one_cons rfl (one_cons (Row.one (Own.row ho63)) one_nil)) rfl) ?_
            refine Gq.one 10 rfl (by kernel_rfl) ?_
            refine Sq.storeAgg agg26 .plain rfl rfl (one_cons rfl (one_cons rfl (one_cons (Row.one (Own.row ho63)) one_nil))) hB54 rfl rfl (fun w65 g66 hB67 => ?_)
            have hs68 := World.grownBy.size g66
            replace E := E.grown g66 (fun k hk => by injection hk with hk; subst hk; omega)
            replace hB4 := hB4.grown g66 (by intro h; injection h with h; omega)
            replace hB11 := hB11.grown g66 (by intro h; injection h with h; omega)
            replace ho63 := ho63.stored g66 hB54 (by decide)
            replace hB54 := hB67
            refine Sq.nil ?_
            refine Eq.goes (fun h => absurd h (by decide)) ?_
            refine Gq.done (by kernel_rfl) ?_
            refine Eq.left _ ⟨b51, v60, rfl, hB54, by omega, Own.mono ho63 (by omega), E, hB4, hB11⟩ (.cons rfl (.cons rfl (.cons rfl (.cons rfl (.nil)))))
        · refine Sq.alloc zero26 .plain rfl (fun b69 w70 e71 hB72 hlo73 => ?_)
          have hd74 := Nat.le_trans (Below.size E) hlo73
          have hd75 := Nat.lt_of_lt_of_le hB4.lt hlo73
          have hd76 := Nat.lt_of_lt_of_le hB11.lt hlo73
          have hs77 := Below.size e71
          replace E := E.trans e71
          replace hB4 := hB4.ext e71
          replace hB11 := hB11.ext e71
          refine Sq.nil ?_
          refine Eq.goes (fun _ => (grown_trans (World.grownBy.refl w23 _) (Ext.to_grown e71 _))) ?_
          refine Gq.one 4 rfl (by kernel_rfl) ?_
          refine Sq.lit sl24 rfl rfl .plain rfl rfl one_nil (fun b78 w79 e80 hlo81 ho82 _ => ?_)
          replace ho82 := ho82 w70.heap.size (Nat.le_refl _)
          have hs84 := Below.size e80
          replace E := E.trans e80
          replace hB4 := hB4.ext e80
          replace hB11 := hB11.ext e80
          replace hB72 := hB72.ext e80
          refine Sq.nil ?_
          refine Eq.goes (fun _ => (grown_trans (grown_trans (World.grownBy.refl w23 _) (Ext.to_grown e71 _)) (Ext.to_grown e80 _))) ?_
          refine Gq.one 7 rfl (by kernel_rfl) ?_
          refine Sq.app sl24 ho82 (by omega) (hac.ext E) (one_bools _) (by rw [List.length_map]; simp only [List.length_nil, Nat.zero_add]; have := (fit_of_valid hv).acc; omega) .plain rfl rfl rfl rfl (fun v85 w86 ho88 g87 => ?_)
          have hs89 := g87.size
          replace E := E.owned ho82 g87 (by omega)
          replace hB4 := hB4.owned ho82 g87 (by decide)
          replace hB11 := hB11.owned ho82 g87 (by decide)
          replace hB72 := hB72.owned ho82 g87 (by decide)
          simp only [List.nil_append] at ho88
          refine Sq.nil ?_
          refine Eq.goes (fun _ => (grown_new (grown_trans (grown_trans (World.grownBy.refl w23 _) (Ext.to_grown e71 _)) (Ext.to_grown e80 _)) ho82 g87 (by omega))) ?_
          refine Gq.st 8 rfl (by kernel_rfl) rfl .plain rfl (fun _ _ _ h => h) (grown_new (grown_trans (grown_trans (World.grownBy.refl w23 _) (Ext.to_grown e71 _)) (Ext.to_grown e80 _)) ho82 g87 (by omega)) (fun w' x => Still.build st26 rfl rfl rfl (one_cons rfl (one_cons (Row.one (Own.row ho88)) one_nil)) rfl) ?_
          refine Gq.one 10 rfl (by kernel_rfl) ?_
          refine Sq.storeAgg agg26 .plain rfl rfl (one_cons rfl (one_cons rfl (one_cons (Row.one (Own.row ho88)) one_nil))) hB72 rfl rfl (fun w90 g91 hB92 => ?_)
          have hs93 := World.grownBy.size g91
          replace E := E.grown g91 (fun k hk => by injection hk with hk; subst hk; omega)
          replace hB4 := hB4.grown g91 (by intro h; injection h with h; omega)
          replace hB11 := hB11.grown g91 (by intro h; injection h with h; omega)
          replace ho88 := ho88.stored g91 hB72 (by decide)
          replace hB72 := hB92
          refine Sq.nil ?_
          refine Eq.goes (fun h => absurd h (by decide)) ?_
          refine Gq.done (by kernel_rfl) ?_
          refine Eq.left _ ⟨b69, v85, rfl, hB72, by omega, Own.mono ho88 (by omega), E, hB4, hB11⟩ (.cons rfl (.cons rfl (.cons rfl (.cons rfl (.nil)))))
      · rintro ls wc3 ⟨b3, ac3, rfl, hB3, hb3, hoc, E, hB4, hB11⟩
        have hs94 := Below.size E
        have hvs := validA_spec.1 hv
        have hor1 := orI_le hvs.1 hc
        refine Eq.next ?_
        refine Cq.seq ?_
        refine Cq.region ?_
        refine Sq.fieldAddr fld26_0 .plain rfl rfl ?_
        refine Sq.loadB one3 .plain rfl rfl hB3 rfl ?_
        have hd99 := hB4.lt
        have hd100 := hB11.lt
        have hd101 := hB3.lt
        refine Sq.call fn57 .plain rfl rfl (l1Letters_c _ (by omega) _) ?_
        rintro v95 w96 ⟨hl98, e97⟩
        have hs102 := Below.size E
        have hs103 := Below.size e97
        replace E := E.trans e97
        replace hB4 := hB4.ext e97
        replace hB11 := hB11.ext e97
        replace hB3 := hB3.ext e97
        replace hoc := hoc.ext e97
        refine Sq.assign .plain rfl rfl ?_
        refine Sq.nil ?_
        refine Eq.next ?_
        refine Cq.seq ?_
        refine Cq.seq ?_
        refine Cq.region ?_
        refine Sq.assign .plain rfl rfl ?_
        refine Sq.nil ?_
        refine Eq.next ?_
        refine Cq.block ?_
        refine Cq.loop (fun nn w ls => ∃ (i : Int), ∃ (v : Value), ls = [(1, Value.int .i64 al), (2, Value.pointer (some ⟨b1, 0, none⟩)), (4, Value.pointer (some ⟨b8, 0, none⟩)), (6, Value.pointer (some ⟨b3, 0, none⟩)), (7, v95), (8, Value.int .i64 i)] ∧ (0 ≤ i ∧ i ≤ a.next.length) ∧ Blk w b3 26 [Value.int .i64 (orI a.al al), v, ac3] ∧ OwnRows w w0.heap.size w.heap.size 47 3 v (extTo a (orI a.al al) i.toNat) ∧ Ext w0 w ∧ Blk w b1 26 [Value.int .i64 a.al, nx, ac] ∧ Blk w b8 26 [Value.int .i64 0, Value.slice none 0 0, Value.slice none 0 0] ∧ Own w w0.heap.size 4 ac3 (a.acc.map Value.bool) ∧ Own w wc3.heap.size 3 v95 ((letters (orI a.al al)).map (Value.int .i64)) ∧ nn = ((a.next.length : Int) - i).toNat) _ _ ⟨0, _, rfl, by omega, hB3, OwnRows.nil _ _ _ _ _, E, hB4, hB11, hoc, hl98, rfl⟩ (.cons rfl (.cons rfl (.cons rfl (.cons rfl (.cons rfl (.cons rfl (.nil))))))) ?_
        rintro nn wl1 ls ⟨i, v, rfl, hi, hB3, hor, E, hB4, hB11, hoc, hl98, rfl⟩
        have hs104 := Below.size E
        have hn := hvs.2.1
        have hel := extTo_length a (orI a.al al) i.toNat
        have hlow := Own.low hl98
        refine Cq.seq ?_
        refine Cq.seq ?_
        refine Cq.region ?_
        refine Sq.move .plain rfl rfl ?_
        refine Sq.fieldAddr fld26_1 .plain rfl rfl ?_
        refine Sq.loadB one23 .plain rfl rfl hB4 rfl ?_
        refine Sq.lenRows (hnx.ext E) .plain rfl und23 rfl ?_
        refine Sq.lss .plain rfl rfl rfl ?_
        refine Sq.part (fun c105 => ?_) (fun c105 => ?_)
        · refine Sq.nil ?_
          refine Eq.next ?_
          refine Cq.thn rfl ?_
          refine Cq.skip ?_
          refine Eq.next ?_
          refine Cq.seq ?_
          refine Cq.block ?_
          refine Cq.seq ?_
          refine Cq.region ?_
          refine Sq.lit sl47 rfl rfl .plain rfl rfl one_nil (fun b106 w107 e108 hlo109 ho110 _ => ?_)
          replace ho110 := ho110 wl1.heap.size (Nat.le_refl _)
          have hs112 := Below.size e108
          replace E := E.trans e108
          replace hB4 := hB4.ext e108
          replace hB11 := hB11.ext e108
          replace hoc := hoc.ext e108
          replace hl98 := hl98.ext e108
          replace hB3 := hB3.ext e108
          replace hor := hor.ext e108
          refine Sq.assign .plain rfl rfl ?_
          refine Sq.nil ?_
          refine Eq.next ?_
          refine Cq.seq ?_
          refine Cq.seq ?_
          refine Cq.region ?_
          refine Sq.assign .plain rfl rfl ?_
          refine Sq.nil ?_
          refine Eq.next ?_
          refine Cq.block ?_
          refine Cq.loop (fun nn w ls => ∃ (k : Int), ∃ (rv : Value), ∃ (row : List Int), ls = [(1, Value.int .i64 al), (2, Value.pointer (some ⟨b1, 0, none⟩)), (4, Value.pointer (some ⟨b8, 0, none⟩)), (6, Value.pointer (some ⟨b3, 0, none⟩)), (7, v95), (8, Value.int .i64 i), (9, rv), (10, Value.int .i64 k)] ∧ (0 ≤ k ∧ k ≤ (letters (orI a.al al)).length) ∧ wl1.heap.size ≤ w.heap.size ∧ Own w wl1.heap.size 3 rv (row.map (Value.int .i64)) ∧ row = ((letters (orI a.al al)).take k.toNat).map (goA a (i.toNat : Nat)) ∧ Ext w0 w ∧ Blk w b1 26 [Value.int .i64 a.al, nx, ac] ∧ Blk w b8 26 [Value.int .i64 0, Value.slice none 0 0, Value.slice none 0 0] ∧ Blk w b3 26 [Value.int .i64 (orI a.al al), v, ac3] ∧ OwnRows w w0.heap.size wl1.heap.size 47 3 v (extTo a (orI a.al al) i.toNat) ∧ Own w w0.heap.size 4 ac3 (a.acc.map Value.bool) ∧ Own w wc3.heap.size 3 v95 ((letters (orI a.al al)).map (Value.int .i64)) ∧ nn = ((letters (orI a.al al)).length - k).toNat) _ _ ⟨0, _, [], rfl, by omega, by omega, ho110, rfl, E, hB4, hB11, hB3, hor, hoc, hl98, rfl⟩ (.cons rfl (.cons rfl (.cons rfl (.cons rfl (.cons rfl (.cons rfl (.cons rfl (.cons rfl (.nil))))))))) ?_
          rintro nn wl2 ls ⟨k, rv, row, rfl, hk, hsz, hro, hrow, E, hB4, hB11, hB3, hor, hoc, hl98, rfl⟩
          have hs113 := Below.size E
          have hlet := letters_len6 (orI a.al al)
          have hlt := letters_at (orI a.al al) (k := k.toNat)
          have hrl : row.length ≤ 6 := by rw [hrow, List.length_map, List.length_take]; omega
          refine Cq.seq ?_
          refine Cq.seq ?_
          refine Cq.region ?_
          refine Sq.move .plain rfl rfl ?_
          refine Sq.move .plain rfl rfl ?_
          refine Sq.lenInts (Own.row hl98) .plain rfl und47 rfl ?_
          refine Sq.lss .plain rfl rfl rfl ?_
          refine Sq.part (fun c114 => ?_) (fun c114 => ?_)
          · refine Sq.nil ?_
            refine Eq.next ?_
            refine Cq.thn rfl ?_
            refine Cq.skip ?_
            refine Eq.next ?_
            refine Cq.seq ?_
            refine Cq.block ?_
            obtain ⟨pA, hpA⟩ := Ints.at (Own.row hl98) (i := k) (by omega) (by omega)
            refine Cq.drawS 10 (fun w' => Blk w' b1 26 [Value.int .i64 a.al, nx, ac] ∧ At w' 3 v95 k pA (.int .i64 ((letters (orI a.al al)).getD k.toNat 0)) ∧ Ext w0 w') mixed (⟨hB4, hpA, E⟩) (fun w115 e116 hS => ?_)
            clear hS
            have hs117 := Below.size e116
            replace E := E.trans e116
            replace hB4 := hB4.ext e116
            replace hB11 := hB11.ext e116
            replace hB3 := hB3.ext e116
            replace hor := hor.ext e116
            replace hoc := hoc.ext e116
            replace hl98 := hl98.ext e116
            replace hro := hro.ext e116
            replace hpA := hpA.ext e116
            have E_w115 := E
            have hB4_w115 := hB4
            have hB11_w115 := hB11
            have hB3_w115 := hB3
            have hor_w115 := hor
            have hoc_w115 := hoc
            have hl98_w115 := hl98
            have hro_w115 := hro
            have hpA_w115 := hpA
            refine Gq.st 0 rfl (by kernel_rfl) rfl .plain rfl (fun _ _ _ h => h) ⟨hB4, hpA, E⟩ (fun w' x => Still.move rfl) ?_
            refine Gq.st 1 rfl (by kernel_rfl) rfl .plain rfl (fun _ _ _ h => h) ⟨hB4, hpA, E⟩ (fun w' x => Still.loadAgg agg26 rfl x.1 rfl) ?_
            refine Gq.st 2 rfl (by kernel_rfl) rfl .plain rfl (fun _ _ _ h => h) ⟨hB4, hpA, E⟩ (fun w' x => Still.move rfl) ?_
            refine Gq.st 3 rfl (by kernel_rfl) rfl .plain rfl (fun _ _ _ h => h) ⟨hB4, hpA, E⟩ (fun w' x => Still.move rfl) ?_
            refine Gq.st 4 rfl (by kernel_rfl) rfl .plain rfl (fun _ _ _ h => h) ⟨hB4, hpA, E⟩ (fun w' x => Still.move rfl) ?_
            refine Gq.st 5 rfl (by kernel_rfl) rfl .plain rfl (fun _ _ _ h => h) ⟨hB4, hpA, E⟩ (fun w' x => Still.at' sl47 hpA rfl rfl) ?_
            refine Gq.st 6 rfl (by kernel_rfl) rfl .plain rfl (fun _ _ _ h => h) ⟨hB4, hpA, E⟩ (fun w' x => Still.loadA one3 rfl (x.2.1).1) ?_
            refine Gq.one 7 rfl (by kernel_rfl) ?_
            have hd121 := hB4.lt
            have hd122 := hB11.lt
            have hd123 := hB3.lt
            refine Sq.call fn58 .plain rfl rfl (l3Go_c _ a _ _ (hnx.ext E) (hac.ext E) hv i (((letters (orI a.al al)).getD k.toNat 0)) (by omega) (by have := hlt (by omega); omega)) ?_
            rintro _ w119 ⟨rfl, e120⟩
            have hs124 := Below.size E
            have hs125 := Below.size e120
            replace E := E.trans e120
            replace hB4 := hB4.ext e120
            replace hB11 := hB11.ext e120
            replace hB3 := hB3.ext e120
            replace hor := hor.ext e120
            replace hoc := hoc.ext e120
            replace hl98 := hl98.ext e120
            replace hro := hro.ext e120
            replace hpA := hpA.ext e120
            refine Sq.nil ?_
            refine Eq.goes (fun _ => ⟨hB4, hpA, E⟩) ?_
            refine Gq.one 8 rfl (by kernel_rfl) ?_
            refine Sq.lit sl47 rfl rfl .plain rfl rfl (one_cons rfl one_nil) (fun b126 w127 e128 hlo129 ho130 _ => ?_)
            replace ho130 := ho130 w119.heap.size (Nat.le_refl _)
            have hs132 := Below.size e128
            replace E := E.trans e128
            replace hB4 := hB4.ext e128
            replace hB11 := hB11.ext e128
            replace hB3 := hB3.ext e128
            replace hor := hor.ext e128
            replace hoc := hoc.ext e128
            replace hl98 := hl98.ext e128
            replace hro := hro.ext e128
            replace hpA := hpA.ext e128
            refine Sq.nil ?_
            refine Eq.goes (fun _ => ⟨hB4, hpA, E⟩) ?_
            refine Gq.one 9 rfl (by kernel_rfl) ?_
            refine Sq.app sl47 hro (by omega) (Own.row ho130) (one_cons rfl one_nil) (by first | omega | (simp; omega)) .plain rfl rfl rfl rfl (fun v133 w134 ho136 g135 => ?_)
            have hs137 := g135.size
            replace E := E.owned hro g135 (by omega)
            replace hB4 := hB4.owned hro g135 (by decide)
            replace hB11 := hB11.owned hro g135 (by decide)
            replace hB3 := hB3.owned hro g135 (by decide)
            replace hor := hor.apart hro g135 (by omega) (by decide)
            replace hoc := hoc.owned hro g135 (by decide)
            replace hl98 := hl98.apart hlow hro g135 (by omega)
            replace hpA := hpA.apart hlow hro g135 (by omega)
            refine Sq.nil ?_
            refine Eq.goes (fun _ => ⟨hB4, hpA, E⟩) ?_
            refine Gq.one 10 rfl (by kernel_rfl) ?_
            refine Sq.assign .plain rfl rfl ?_
            refine Sq.nil ?_
            refine Eq.goes (fun h => absurd h (by decide)) ?_
            refine Gq.done (by kernel_rfl) ?_
            refine Eq.end ?_
            refine Eq.next ?_
            refine Cq.region ?_
            refine Sq.move .plain rfl rfl ?_
            refine Sq.add .plain rfl rfl rfl (by omega) ?_
            refine Sq.assign .plain rfl rfl ?_
            refine Sq.nil ?_
            have e1 := toNat_succ hk.1
            have e2 := extRowTo_succ (a := a) (b := (orI a.al al)) (q := i.toNat) (k := k.toNat) (by omega)
            rw [Int.toNat_of_nonneg hi.1] at e2 hrow
            refine Eq.round _ _ ⟨k + 1, _, _, rfl, by omega, by omega, Own.snocI ho136, by rw [e1, Int.toNat_of_nonneg hi.1, e2, ← hrow], E, hB4, hB11, hB3, hor, hoc, hl98, rfl⟩ (by omega) (.cons rfl (.cons rfl (.cons rfl (.cons rfl (.cons rfl (.cons rfl (.cons rfl (.cons rfl (.nil)))))))))
          · refine Sq.nil ?_
            refine Eq.next ?_
            refine Cq.els rfl ?_
            refine Cq.exit ?_
            refine Eq.past ?_
            refine Eq.past ?_
            refine Eq.hit ?_
            refine Eq.next ?_
            refine Cq.region ?_
            refine Sq.fieldAddr fld26_1 .plain rfl rfl ?_
            refine Sq.loadB one23 .plain rfl rfl hB3 rfl ?_
            refine Sq.move .plain rfl rfl ?_
            obtain ⟨rs142, q143, q144, q145⟩ := OwnRows.open hor (by decide)
            have q145x := Ext.refl wl2
            refine Sq.app1 sl23 q143 (by omega) (by rw [q144]; first | omega | (simp; omega)) .plain rfl rfl rfl rfl rfl rfl (Row.one (Own.row hro)) (fun v138 w139 ho141 g140 _ => ?_)
            have hs146 := g140.size
            have ho141r := q145 _ row _ _ _ (Ext.refl _) (Own.mono hro (by omega)) (by omega) ho141 g140
            replace E := E.owned q143 g140 (by omega)
            replace hB4 := hB4.owned q143 g140 (by decide)
            replace hB11 := hB11.owned q143 g140 (by decide)
            replace hB3 := hB3.owned q143 g140 (by decide)
            replace hoc := hoc.owned q143 g140 (by decide)
            replace hl98 := hl98.owned q143 g140 (by decide)
            replace hro := hro.owned q143 g140 (by decide)
            refine Sq.fieldAddr fld26_1 .plain rfl rfl ?_
            refine Sq.store one23 .plain rfl rfl (Rows.one (OwnRows.rows ho141r)) hB3 (by simp) (fun w147 g148 hB149 => ?_)
            have hs150 := World.grownBy.size g148
            replace E := E.grown g148 (fun k hk => by injection hk with hk; subst hk; omega)
            replace hB4 := hB4.grown g148 (by intro h; injection h with h; omega)
            replace hB11 := hB11.grown g148 (by intro h; injection h with h; omega)
            replace hoc := hoc.stored g148 hB3 (by decide)
            replace hl98 := hl98.stored g148 hB3 (by decide)
            replace hro := hro.stored g148 hB3 (by decide)
            replace ho141r := ho141r.stored g148 hB3 (by decide) (by decide)
            replace hB3 := hB149
            refine Sq.nil ?_
            refine Eq.end ?_
            refine Eq.next ?_
            refine Cq.region ?_
            refine Sq.move .plain rfl rfl ?_
            refine Sq.add .plain rfl rfl rfl (by omega) ?_
            refine Sq.assign .plain rfl rfl ?_
            refine Sq.nil ?_
            have e1 := toNat_succ hi.1
            refine Eq.round _ _ ⟨i + 1, _, rfl, by omega, hB3, by rw [e1, extTo_succ, ← extRow_done (k := k.toNat) (by omega), ← hrow]; exact OwnRows.now ho141r, E, hB4, hB11, hoc, hl98, rfl⟩ (by omega) (.cons rfl (.cons rfl (.cons rfl (.cons rfl (.cons rfl (.cons rfl (.nil)))))))
        · refine Sq.nil ?_
          refine Eq.next ?_
          refine Cq.els rfl ?_
          refine Cq.exit ?_
          refine Eq.past ?_
          refine Eq.past ?_
          refine Eq.hit ?_
          refine Eq.next ?_
          refine Cq.seq ?_
          refine Cq.region ?_
          refine Sq.loadAgg agg26 .plain rfl rfl hB3 rfl ?_
          refine Sq.storeAgg agg26 .plain rfl rfl (one_cons rfl (one_cons (Rows.one (OwnRows.rows hor)) (one_cons (Row.one (Own.row hoc)) one_nil))) hB11 rfl rfl (fun w151 g152 hB153 => ?_)
          have hs154 := World.grownBy.size g152
          replace E := E.grown g152 (fun k hk => by injection hk with hk; subst hk; omega)
          replace hB4 := hB4.grown g152 (by intro h; injection h with h; omega)
          replace hoc := hoc.stored g152 hB11 (by decide)
          replace hl98 := hl98.stored g152 hB11 (by decide)
          replace hB3 := hB3.grown g152 (by intro h; injection h with h; omega)
          replace hor := hor.stored g152 hB11 (by decide) (by decide)
          replace hB11 := hB153
          refine Sq.assign .plain rfl rfl ?_
          refine Sq.nil ?_
          refine Eq.next ?_
          refine Cq.ret ?_
          refine Eq.retCell2 rfl rfl agg26 hB11 rfl rfl ?_
          have e : extTo a (orI a.al al) i.toNat = (extend a al).next := by rw [show i.toNat = a.next.length by omega]; rfl
          rw [e] at hor
          exact ⟨⟨_, by rw [hv, decide_eq_true hc, Bool.and_self], by rw [if_pos (by rw [hv, decide_eq_true hc]; rfl)]; exact ⟨_, _, rfl, OwnRows.now hor, hoc⟩⟩, E⟩
    · refine Sq.notF (.met rfl rfl rfl) rfl rfl ?_
      refine Sq.pickF .plain rfl rfl rfl ?_
      refine Sq.nil ?_
      refine Eq.next ?_
      refine Cq.thn rfl ?_
      refine Cq.seq ?_
      refine Cq.region ?_
      refine Sq.build st26 rfl rfl .plain rfl rfl one_nil rfl ?_
      refine Sq.storeAgg agg26 .plain rfl rfl (one_cons rfl (one_cons rfl (one_cons rfl one_nil))) hB11 rfl rfl (fun w155 g156 hB157 => ?_)
      have hs158 := World.grownBy.size g156
      replace E := E.grown g156 (fun k hk => by injection hk with hk; subst hk; omega)
      replace hB4 := hB4.grown g156 (by intro h; injection h with h; omega)
      replace hB11 := hB157
      refine Sq.assign .plain rfl rfl ?_
      refine Sq.nil ?_
      refine Eq.next ?_
      refine Cq.ret ?_
      refine Eq.pastRet ?_
      refine Eq.retCell2 rfl rfl agg26 hB11 rfl rfl ?_
      exact ⟨⟨_, by rw [hv, decide_eq_false hc, Bool.true_and], by rw [if_neg (by rw [hv, decide_eq_false hc]; decide)]; exact ⟨_, _, rfl, OwnRows.nil _ _ _ _ _, Own.nil _ _ _⟩⟩, E⟩
  · refine Sq.notF .plain rfl rfl ?_
    refine Sq.move .plain rfl rfl ?_
    refine Sq.off rfl rfl rfl rfl rfl rfl ?_
    refine Sq.off rfl rfl rfl rfl rfl rfl ?_
    refine Sq.off rfl rfl rfl rfl rfl rfl ?_
    refine Sq.pickT .plain rfl rfl rfl ?_
    refine Sq.nil ?_
    refine Eq.next ?_
    refine Cq.thn rfl ?_
    refine Cq.seq ?_
    refine Cq.region ?_
    refine Sq.build st26 rfl rfl .plain rfl rfl one_nil rfl ?_
    refine Sq.storeAgg agg26 .plain rfl rfl (one_cons rfl (one_cons rfl (one_cons rfl one_nil))) hB11 rfl rfl (fun w159 g160 hB161 => ?_)
    have hs162 := World.grownBy.size g160
    replace E := E.grown g160 (fun k hk => by injection hk with hk; subst hk; omega)
    replace hB4 := hB4.grown g160 (by intro h; injection h with h; omega)
    replace hB11 := hB161
    refine Sq.assign .plain rfl rfl ?_
    refine Sq.nil ?_
    refine Eq.next ?_
    refine Cq.ret ?_
    refine Eq.pastRet ?_
    refine Eq.retCell2 rfl rfl agg26 hB11 rfl rfl ?_
    exact ⟨⟨_, by rw [hv, Bool.false_and], by rw [if_neg (by rw [hv, Bool.false_and]; decide)]; exact ⟨_, _, rfl, OwnRows.nil _ _ _ _ _, Own.nil _ _ _⟩⟩, E⟩

theorem sExtend_c_T (w0 : World) (a : A) (nx ac : Value) (hnx : Rows w0 47 3 nx a.next) (hac : Bools w0 4 ac a.acc) (al : Int) (hC : (validA a && decide (0 ≤ al ∧ al ≤ 63)) = true) : Ret Try.prog 23 #[Value.agg #[Value.int .i64 a.al, nx, ac], Value.int .i64 al] w0 (fun v w => (∃ u, v = .tuple #[u, .bool true] ∧ OwnA w w0.heap.size u (extend a al)) ∧ Ext w0 w) :=
  (sExtend_c w0 a nx ac hnx hac al).mono fun v w h => by rw [hC, if_pos rfl] at h; exact h
theorem sExtend_c_F (w0 : World) (a : A) (nx ac : Value) (hnx : Rows w0 47 3 nx a.next) (hac : Bools w0 4 ac a.acc) (al : Int) (hC : (validA a && decide (0 ≤ al ∧ al ≤ 63)) = false) : Ret Try.prog 23 #[Value.agg #[Value.int .i64 a.al, nx, ac], Value.int .i64 al] w0 (fun v w => (∃ u, v = .tuple #[u, .bool false] ∧ OwnA w w0.heap.size u (zeroA)) ∧ Ext w0 w) :=
  (sExtend_c w0 a nx ac hnx hac al).mono fun v w h => by rw [hC, if_neg (by decide)] at h; exact h

end Go.Proofs.Ytmlhgkfbiapakaa
