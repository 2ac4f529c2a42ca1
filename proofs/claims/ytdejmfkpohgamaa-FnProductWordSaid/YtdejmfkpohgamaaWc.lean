/-
  Walks, printed by a program out of the translation and a contract for each function; each step is one law.
-/
import Derived.Test.YtdejmfkpohgamaaWb
set_option linter.unusedSimpArgs false
set_option linter.unusedVariables false
namespace Go.Proofs.Ytdejmfkpohgamaa
open Go.RowKit

set_option maxRecDepth 100000 in
theorem copyA_c (w0 : World) (a : A) (nx ac : Value) (hnx : Rows w0 56 3 nx a.next) (hac : Bools w0 4 ac a.acc) (hf : Fit a) : Ret Try.prog 62 #[Value.agg #[Value.int .i64 a.al, nx, ac]] w0 (fun v w => OwnA w w0.heap.size v a ∧ Ext w0 w) := by
  have E := Ext.refl w0
  refine Ret.of (args := [Value.agg #[Value.int .i64 a.al, nx, ac]]) Try.func62 rfl rfl rfl ?_
  rintro _ rfl
  show Cq _ _ _ _ [(0, Value.agg #[Value.int .i64 a.al, nx, ac])] _
  refine Cq.seq ?_
  refine Cq.region ?_
  refine Sq.box .plain rfl rfl (fun b1 w2 e3 hB4 hlo5 => ?_)
  have hd6 := Nat.le_trans (Below.size E) hlo5
  have hs7 := Below.size e3
  replace E := E.trans e3
  refine Sq.alloc zero26 .plain rfl (fun b8 w9 e10 hB11 hlo12 => ?_)
  have hd13 := Nat.le_trans (Below.size E) hlo12
  have hd14 := Nat.lt_of_lt_of_le hB4.lt hlo12
  have hs15 := Below.size e10
  replace E := E.trans e10
  replace hB4 := hB4.ext e10
  refine Sq.nil ?_
  refine Eq.next ?_
  refine Cq.seq ?_
  refine Cq.cut (fun ls w => ∃ (b3 : Nat), ∃ (ac3 : Value), ls = [(1, Value.pointer (some ⟨b1, 0, none⟩)), (2, Value.pointer (some ⟨b8, 0, none⟩)), (3, Value.pointer (some ⟨b3, 0, none⟩))] ∧ Blk w b3 26 [Value.int .i64 a.al, Value.slice none 0 0, ac3] ∧ (w0.heap.size ≤ b3 ∧ b1 < b3 ∧ b8 < b3) ∧ Own w w0.heap.size 4 ac3 (a.acc.map Value.bool) ∧ Ext w0 w ∧ Blk w b1 26 [Value.int .i64 a.al, nx, ac] ∧ Blk w b8 26 [Value.int .i64 0, Value.slice none 0 0, Value.slice none 0 0]) ?_ ?_
  · refine Cq.draw 7 none mixed (fun w16 e17 => ?_)
    have hs18 := Below.size e17
    replace E := E.trans e17
    replace hB4 := hB4.ext e17
    replace hB11 := hB11.ext e17
    have E_w16 := E
    have hB4_w16 := hB4
    have hB11_w16 := hB11
    refine Gq.st 0 rfl (by kernel_rfl) rfl .plain rfl (fun _ _ _ h => h) (World.grownBy.refl w16 _) (fun w' x => Still.fieldAddr fld26_0 rfl) ?_
    refine Gq.st 1 rfl (by kernel_rfl) rfl .plain rfl (fun _ _ _ h => h) (World.grownBy.refl w16 _) (fun w' x => Still.loadB one3 rfl (hB4_w16.ext (Ext.of_grown x)) rfl) ?_
    refine Gq.st 2 rfl (by kernel_rfl) rfl .plain rfl (fun _ _ _ h => h) (World.grownBy.refl w16 _) (fun w' x => Still.fieldAddr fld26_2 rfl) ?_
    refine Gq.st 3 rfl (by kernel_rfl) rfl .plain rfl (fun _ _ _ h => h) (World.grownBy.refl w16 _) (fun w' x => Still.loadB one24 rfl (hB4_w16.ext (Ext.of_grown x)) rfl) ?_
    refine Gq.two 4 6 rfl rfl (by kernel_rfl) ?_ ?_
    · have hd23 := hB4.lt
      have hd24 := hB11.lt
      refine Sq.call fn61 .plain rfl rfl (cloneB_c _ _ (a.acc.map Value.bool) (hac.ext E) (one_bools _) (by rw [List.length_map]; first | (have := hf.acc; omega) | omega)) ?_
      rintro v19 w20 ⟨hc22, e21⟩
      have hs25 := Below.size E
      have hs26 := Below.size e21
      replace E := E.trans e21
      replace hB4 := hB4.ext e21
      replace hB11 := hB11.ext e21
      refine Sq.nil ?_
      refine Eq.goes (fun _ => (grown_trans (World.grownBy.refl w16 _) (Ext.to_grown e21 _))) ?_
      refine Gq.st 5 rfl (by kernel_rfl) rfl .plain rfl (fun _ _ _ h => h) (grown_trans (World.grownBy.refl w16 _) (Ext.to_grown e21 _)) (fun w' x => Still.build st26 rfl rfl rfl (one_cons rfl (one_cons (Row.one (Own.row hc22)) one_nil)) rfl) ?_
      refine Gq.one 6 rfl (by kernel_rfl) ?_
      refine Sq.alloc zero26 .plain rfl (fun b27 w28 e29 hB30 hlo31 => ?_)
      have hd32 := Nat.le_trans (Below.size E) hlo31
      have hd33 := Nat.lt_of_lt_of_le hB4.lt hlo31
      have hd34 := Nat.lt_of_lt_of_le hB11.lt hlo31
      have hs35 := Below.size e29
      replace E := E.trans e29
      replace hB4 := hB4.ext e29
      replace hB11 := hB11.ext e29
      replace hc22 := hc22.ext e29
      refine Sq.nil ?_
      refine Eq.goes (fun _ => (grown_trans (grown_trans (World.grownBy.refl w16 _) (Ext.to_grown e21 _)) (Ext.to_grown e29 _))) ?_
      refine Gq.one 7 rfl (by kernel_rfl) ?_
      refine Sq.storeAgg agg26 .plain rfl rfl (one_cons rfl (one_cons rfl (one_cons (Row.one (Own.row hc22)) one_nil))) hB30 rfl rfl (fun w36 g37 hB38 => ?_)
      have hs39 := World.grownBy.size g37
      replace E := E.grown g37 (fun k hk => by injection hk with hk; subst hk; omega)
      replace hB4 := hB4.grown g37 (by intro h; injection h with h; omega)
      replace hB11 := hB11.grown g37 (by intro h; injection h with h; omega)
      replace hc22 := hc22.stored g37 hB30 (by decide)
      replace hB30 := hB38
      refine Sq.nil ?_
      refine Eq.goes (fun h => absurd h (by decide)) ?_
      refine Gq.done (by kernel_rfl) ?_
      refine Eq.left _ ⟨b27, v19, rfl, hB30, by omega, Own.mono hc22 (by omega), E, hB4, hB11⟩ (.cons rfl (.cons rfl (.cons rfl (.nil))))
    · refine Sq.alloc zero26 .plain rfl (fun b40 w41 e42 hB43 hlo44 => ?_)
      have hd45 := Nat.le_trans (Below.size E) hlo44
      have hd46 := Nat.lt_of_lt_of_le hB4.lt hlo44
      have hd47 := Nat.lt_of_lt_of_le hB11.lt hlo44
      have hs48 := Below.size e42
      replace E := E.trans e42
      replace hB4 := hB4.ext e42
      replace hB11 := hB11.ext e42
      refine Sq.nil ?_
      refine Eq.goes (fun _ => (grown_trans (World.grownBy.refl w16 _) (Ext.to_grown e42 _))) ?_
      refine Gq.one 4 rfl (by kernel_rfl) ?_
      have hd53 := hB4.lt
      have hd54 := hB11.lt
      have hd55 := hB43.lt
      refine Sq.call fn61 .plain rfl rfl (cloneB_c _ _ (a.acc.map Value.bool) (hac.ext E) (one_bools _) (by rw [List.length_map]; first | (have := hf.acc; omega) | omega)) ?_
      rintro v49 w50 ⟨hc52, e51⟩
      have hs56 := Below.size E
      have hs57 := Below.size e51
      replace E := E.trans e51
      replace hB4 := hB4.ext e51
      replace hB11 := hB11.ext e51
      replace hB43 := hB43.ext e51
      refine Sq.nil ?_
      refine Eq.goes (fun _ => (grown_trans (grown_trans (World.grownBy.refl w16 _) (Ext.to_grown e42 _)) (Ext.to_grown e51 _))) ?_
      refine Gq.st 5 rfl (by kernel_rfl) rfl .plain rfl (fun _ _ _ h => h) (grown_trans (grown_trans (World.grownBy.refl w16 _) (Ext.to_grown e42 _)) (Ext.to_grown e51 _)) (fun w' x => Still.build st26 rfl rfl rfl (one_cons rfl (one_cons (Row.one (Own.row hc52)) one_nil)) rfl) ?_
      refine Gq.one 7 rfl (by kernel_rfl) ?_
      refine Sq.storeAgg agg26 .plain rfl rfl (one_cons rfl (one_cons rfl (one_cons (Row.one (Own.row hc52)) one_nil))) hB43 rfl rfl (fun w58 g59 hB60 => ?_)
      have hs61 := World.grownBy.size g59
      replace E := E.grown g59 (fun k hk => by injection hk with hk; subst hk; omega)
      replace hB4 := hB4.grown g59 (by intro h; injection h with h; omega)
      replace hB11 := hB11.grown g59 (by intro h; injection h with h; omega)
      replace hc52 := hc52.stored g59 hB43 (by decide)
      replace hB43 := hB60
      refine Sq.nil ?_
      refine Eq.goes (fun h => absurd h (by decide)) ?_
      refine Gq.done (by kernel_rfl) ?_
      refine Eq.left _ ⟨b40, v49, rfl, hB43, by omega, Own.mono hc52 (by omega), E, hB4, hB11⟩ (.cons rfl (.cons rfl (.cons rfl (.nil))))
  · rintro ls wc1 ⟨b3, ac3, rfl, hB3, hb3, hoc, E, hB4, hB11⟩
    have hs62 := Below.size E
    refine Eq.next ?_
    refine Cq.seq ?_
    refine Cq.seq ?_
    refine Cq.region ?_
    refine Sq.fieldAddr fld26_1 .plain rfl rfl ?_
    refine Sq.loadB one23 .plain rfl rfl hB4 rfl ?_
    refine Sq.lenRows (hnx.ext E) .plain rfl und23 rfl ?_
    refine Sq.move .plain rfl rfl ?_
    refine Sq.nil ?_
    refine Eq.next ?_
    refine Cq.block ?_
    refine Cq.loop (fun nn w ls => ∃ (k : Int), ∃ (v : Value), ls = [(1, Value.pointer (some ⟨b1, 0, none⟩)), (2, Value.pointer (some ⟨b8, 0, none⟩)), (3, Value.pointer (some ⟨b3, 0, none⟩)), (13, nx), (14, Value.int .i64 (List.length a.next : Int)), (15, Value.int .i64 k)] ∧ (0 ≤ k ∧ k ≤ a.next.length) ∧ Blk w b3 26 [Value.int .i64 a.al, v, ac3] ∧ OwnRows w w0.heap.size w.heap.size 56 3 v (a.next.take k.toNat) ∧ Ext w0 w ∧ Blk w b1 26 [Value.int .i64 a.al, nx, ac] ∧ Blk w b8 26 [Value.int .i64 0, Value.slice none 0 0, Value.slice none 0 0] ∧ Own w w0.heap.size 4 ac3 (a.acc.map Value.bool) ∧ nn = ((a.next.length : Int) - k).toNat) _ _ ⟨0, _, rfl, by omega, hB3, OwnRows.nil _ _ _ _ _, E, hB4, hB11, hoc, rfl⟩ (.cons rfl (.cons rfl (.cons rfl (.cons rfl (.cons rfl (.cons rfl (.nil))))))) ?_
    rintro nn wl1 ls ⟨k, v, rfl, hk, hB3, hor, E, hB4, hB11, hoc, rfl⟩
    have hs63 := Below.size E
    have hn := hf.2.1
    have hro := Fit.row hf (k := k.toNat)
    refine Cq.seq ?_
    refine Cq.region ?_
    refine Sq.lss .plain rfl rfl rfl ?_
    refine Sq.part (fun c64 => ?_) (fun c64 => ?_)
    · refine Sq.nil ?_
      refine Eq.next ?_
      refine Cq.seq ?_
      refine Cq.thn rfl ?_
      refine Cq.skip ?_
      refine Eq.next ?_
      refine Cq.seq ?_
      refine Cq.block ?_
      refine Cq.seq ?_
      refine Cq.region ?_
      refine Sq.idxRows sl23 one56 (hnx.ext E) .plain rfl rfl rfl .plain rfl rfl (by omega) (by omega) (fun r65 hr66 => ?_)
      refine Sq.assign .plain rfl rfl ?_
      refine Sq.nil ?_
      refine Eq.next ?_
      refine Cq.draw 6 (Value.ownBlock v) mixed (fun w67 e68 => ?_)
      have hs69 := Below.size e68
      replace E := E.trans e68
      replace hB4 := hB4.ext e68
      replace hB11 := hB11.ext e68
      replace hoc := hoc.ext e68
      replace hB3 := hB3.ext e68
      replace hor := hor.ext e68
      replace hr66 := hr66.ext e68
      have E_w67 := E
      have hB4_w67 := hB4
      have hB11_w67 := hB11
      have hoc_w67 := hoc
      have hB3_w67 := hB3
      have hor_w67 := hor
      have hr66_w67 := hr66
      obtain ⟨_, hor_w67q, _, _⟩ := OwnRows.open hor_w67 (by decide)
      refine Gq.st 0 rfl (by kernel_rfl) rfl .plain rfl (fun _ _ _ h => h) (World.grownBy.refl w67 _) (fun w' x => Still.fieldAddr fld26_1 rfl) ?_
      refine Gq.st 1 rfl (by kernel_rfl) rfl .plain rfl (fun _ _ _ h => h) (World.grownBy.refl w67 _) (fun w' x => Still.loadB one23 rfl (hB3_w67.owned hor_w67q x (by decide)) rfl) ?_
      refine Gq.st 2 rfl (by kernel_rfl) rfl .plain rfl (fun _ _ _ h => h) (World.grownBy.refl w67 _) (fun w' x => Still.move rfl) ?_
      refine Gq.one 3 rfl (by kernel_rfl) ?_
      have hd74 := hB4.lt
      have hd75 := hB11.lt
      have hd76 := hB3.lt
      refine Sq.call fn94 .plain rfl rfl (cloneI_c _ _ ((a.next.getD k.toNat []).map (Value.int .i64)) hr66 (one_ints _) (by rw [List.length_map]; first | (have := hf.acc; omega) | omega)) ?_
      rintro v70 w71 ⟨hc73, e72⟩
      have hs77 := Below.size E
      have hs78 := Below.size e72
      replace E := E.trans e72
      replace hB4 := hB4.ext e72
      replace hB11 := hB11.ext e72
      replace hoc := hoc.ext e72
      replace hB3 := hB3.ext e72
      replace hor := hor.ext e72
      replace hr66 := hr66.ext e72
      refine Sq.nil ?_
      refine Eq.goes (fun _ => (grown_trans (World.grownBy.refl w67 _) (Ext.to_grown e72 _))) ?_
      refine Gq.one 4 rfl (by kernel_rfl) ?_
      refine Sq.lit sl23 rfl rfl .plain rfl rfl (one_cons (Row.one (Own.row hc73)) one_nil) (fun b79 w80 e81 hlo82 ho83 _ => ?_)
      replace ho83 := ho83 w71.heap.size (Nat.le_refl _)
      have hs85 := Below.size e81
      replace E := E.trans e81
      replace hB4 := hB4.ext e81
      replace hB11 := hB11.ext e81
      replace hoc := hoc.ext e81
      replace hB3 := hB3.ext e81
      replace hor := hor.ext e81
      replace hr66 := hr66.ext e81
      replace hc73 := hc73.ext e81
      refine Sq.nil ?_
      refine Eq.goes (fun _ => (grown_trans (grown_trans (World.grownBy.refl w67 _) (Ext.to_grown e72 _)) (Ext.to_grown e81 _))) ?_
      refine Gq.one 5 rfl (by kernel_rfl) ?_
      obtain ⟨rs90, q91, q92, q93⟩ := OwnRows.open hor (by decide)
      have q93x := Ext.refl w80
      refine Sq.app sl23 q91 (by omega) (Own.row ho83) (one_cons (Row.one (Own.row hc73)) one_nil) (by rw [q92]; simp; omega) .plain rfl rfl rfl rfl (fun v86 w87 ho89 g88 => ?_)
      have hs94 := g88.size
      have ho89r := q93 _ (a.next.getD k.toNat []) _ _ _ (Ext.refl _) (Own.mono hc73 (by omega)) (by omega) ho89 g88
      replace E := E.owned q91 g88 (by omega)
      replace hB4 := hB4.owned q91 g88 (by decide)
      replace hB11 := hB11.owned q91 g88 (by decide)
      replace hoc := hoc.owned q91 g88 (by decide)
      replace hB3 := hB3.owned q91 g88 (by decide)
      replace hr66 := hr66.owned q91 g88 (by decide)
      replace hc73 := hc73.owned q91 g88 (by decide)
      refine Sq.nil ?_
      refine Eq.goes (fun _ => (grown_trans (grown_trans (grown_trans (World.grownBy.refl w67 _) (Ext.to_grown e72 _)) (Ext.to_grown e81 _)) g88)) ?_
      refine Gq.one 6 rfl (by kernel_rfl) ?_
      refine Sq.fieldAddr fld26_1 .plain rfl rfl ?_
      refine Sq.nil ?_
      refine Eq.goes (fun h => absurd h (by decide)) ?_
      refine Gq.one 7 rfl (by kernel_rfl) ?_
      refine Sq.store one23 .plain rfl rfl (Rows.one (OwnRows.rows ho89r)) hB3 (by simp) (fun w95 g96 hB97 => ?_)
      have hs98 := World.grownBy.size g96
      replace E := E.grown g96 (fun k hk => by injection hk with hk; subst hk; omega)
      replace hB4 := hB4.grown g96 (by intro h; injection h with h; omega)
      replace hB11 := hB11.grown g96 (by intro h; injection h with h; omega)
      replace hoc := hoc.stored g96 hB3 (by decide)
      replace hr66 := hr66.stored g96 hB3 (by decide)
      replace hc73 := hc73.stored g96 hB3 (by decide)
      replace ho89r := ho89r.stored g96 hB3 (by decide) (by decide)
      replace hB3 := hB97
      refine Sq.nil ?_
      refine Eq.goes (fun h => absurd h (by decide)) ?_
      refine Gq.done (by kernel_rfl) ?_
      refine Eq.end ?_
      refine Eq.next ?_
      refine Cq.region ?_
      refine Sq.add .plain rfl rfl rfl (by omega) ?_
      refine Sq.move .plain rfl rfl ?_
      refine Sq.nil ?_
      have e1 := toNat_succ hk.1
      refine Eq.round _ _ ⟨k + 1, _, rfl, by omega, hB3, by rw [e1, take_snoc [] (by omega)]; exact OwnRows.now ho89r, E, hB4, hB11, hoc, rfl⟩ (by omega) (.cons rfl (.cons rfl (.cons rfl (.cons rfl (.cons rfl (.cons rfl (.nil)))))))
    · refine Sq.nil ?_
      refine Eq.next ?_
      refine Cq.seq ?_
      refine Cq.els rfl ?_
      refine Cq.exit ?_
      refine Eq.past ?_
      refine Eq.past ?_
      refine Eq.hit ?_
      refine Eq.next ?_
      refine Cq.seq ?_
      refine Cq.region ?_
      refine Sq.loadAgg agg26 .plain rfl rfl hB3 rfl ?_
      refine Sq.storeAgg agg26 .plain rfl rfl (one_cons rfl (one_cons (Rows.one (OwnRows.rows hor)) (one_cons (Row.one (Own.row hoc)) one_nil))) hB11 rfl rfl (fun w99 g100 hB101 => ?_)
      have hs102 := World.grownBy.size g100
      replace E := E.grown g100 (fun k hk => by injection hk with hk; subst hk; omega)
      replace hB4 := hB4.grown g100 (by intro h; injection h with h; omega)
      replace hoc := hoc.stored g100 hB11 (by decide)
      replace hB3 := hB3.grown g100 (by intro h; injection h with h; omega)
      replace hor := hor.stored g100 hB11 (by decide) (by decide)
      replace hB11 := hB101
      refine Sq.nil ?_
      refine Eq.next ?_
      refine Cq.ret ?_
      refine Eq.retCell rfl rfl agg26 hB11 rfl ?_
      have e : a.next.take k.toNat = a.next := List.take_of_length_le (by omega)
      rw [e] at hor
      exact ⟨⟨v, ac3, rfl, OwnRows.now hor, hoc⟩, E⟩

set_option maxRecDepth 100000 in
theorem l3Copy_c (w0 : World) (a : A) (nx ac : Value) (hnx : Rows w0 56 3 nx a.next) (hac : Bools w0 4 ac a.acc) (hf : Fit a) : Ret Try.prog 88 #[Value.agg #[Value.int .i64 a.al, nx, ac]] w0 (fun v w => OwnA w w0.heap.size v a ∧ Ext w0 w) := by
  have E := Ext.refl w0
  refine Ret.of (args := [Value.agg #[Value.int .i64 a.al, nx, ac]]) Try.func88 rfl rfl rfl ?_
  rintro _ rfl
  show Cq _ _ _ _ [(0, Value.agg #[Value.int .i64 a.al, nx, ac])] _
  refine Cq.seq ?_
  refine Cq.region ?_
  refine Sq.box .plain rfl rfl (fun b1 w2 e3 hB4 hlo5 => ?_)
  have hd6 := Nat.le_trans (Below.size E) hlo5
  have hs7 := Below.size e3
  replace E := E.trans e3
  refine Sq.alloc zero26 .plain rfl (fun b8 w9 e10 hB11 hlo12 => ?_)
  have hd13 := Nat.le_trans (Below.size E) hlo12
  have hd14 := Nat.lt_of_lt_of_le hB4.lt hlo12
  have hs15 := Below.size e10
  replace E := E.trans e10
  replace hB4 := hB4.ext e10
  refine Sq.nil ?_
  refine Eq.next ?_
  refine Cq.seq ?_
  refine Cq.cut (fun ls w => ∃ (b3 : Nat), ∃ (ac3 : Value), ls = [(1, Value.pointer (some ⟨b1, 0, none⟩)), (2, Value.pointer (some ⟨b8, 0, none⟩)), (3, Value.pointer (some ⟨b3, 0, none⟩))] ∧ Blk w b3 26 [Value.int .i64 a.al, Value.slice none 0 0, ac3] ∧ (w0.heap.size ≤ b3 ∧ b1 < b3 ∧ b8 < b3) ∧ Own w w0.heap.size 4 ac3 (a.acc.map Value.bool) ∧ Ext w0 w ∧ Blk w b1 26 [Value.int .i64 a.al, nx, ac] ∧ Blk w b8 26 [Value.int .i64 0, Value.slice none 0 0, Value.slice none 0 0]) ?_ ?_
  · refine Cq.draw 8 none mixed (fun w16 e17 => ?_)
    have hs18 := Below.size e17
    replace E := E.trans e17
    replace hB4 := hB4.ext e17
    replace hB11 := hB11.ext e17
    have E_w16 := E
    have hB4_w16 := hB4
    have hB11_w16 := hB11
    refine Gq.st 0 rfl (by kernel_rfl) rfl .plain rfl (fun _ _ _ h => h) (World.grownBy.refl w16 _) (fun w' x => Still.fieldAddr fld26_0 rfl) ?_
    refine Gq.st 1 rfl (by kernel_rfl) rfl .plain rfl (fun _ _ _ h => h) (World.grownBy.refl w16 _) (fun w' x => Still.loadB one3 rfl (hB4_w16.ext (Ext.of_grown x)) rfl) ?_
    refine Gq.st 3 rfl (by kernel_rfl) rfl .plain rfl (fun _ _ _ h => h) (World.grownBy.refl w16 _) (fun w' x => Still.fieldAddr fld26_2 rfl) ?_
    refine Gq.st 4 rfl (by kernel_rfl) rfl .plain rfl (fun _ _ _ h => h) (World.grownBy.refl w16 _) (fun w' x => Still.loadB one24 rfl (hB4_w16.ext (Ext.of_grown x)) rfl) ?_
    refine Gq.two 2 7 rfl rfl (by kernel_rfl) ?_ ?_
    · refine Sq.lit sl24 rfl rfl .plain rfl rfl one_nil (fun b19 w20 e21 hlo22 ho23 _ => ?_)
      replace ho23 := ho23 w16.heap.size (Nat.le_refl _)
      have hs25 := Below.size e21
      replace E := E.trans e21
      replace hB4 := hB4.ext e21
      replace hB11 := hB11.ext e21
      refine Sq.nil ?_
      refine Eq.goes (fun _ => (grown_trans (World.grownBy.refl w16 _) (Ext.to_grown e21 _))) ?_
      refine Gq.two 5 7 rfl rfl (by kernel_rfl) ?_ ?_
      · refine Sq.app sl24 ho23 (by omega) (hac.ext E) (one_bools _) (by rw [List.length_map]; simp only [List.length_nil, Nat.zero_add]; first | (have := hf.acc; omega) | omega) .plain rfl rfl rfl rfl (fun v26 w27 ho29 g28 => ?_)
        have hs30 := g28.size
        replace E := E.owned ho23 g28 (by omega)
        replace hB4 := hB4.owned ho23 g28 (by decide)
        replace hB11 := hB11.owned ho23 g28 (by decide)
        simp only [List.nil_append] at ho29
        refine Sq.nil ?_
        refine Eq.goes (fun _ => (grown_new (grown_trans (World.grownBy.refl w16 _) (Ext.to_grown e21 _)) ho23 g28 (by omega))) ?_
        refine Gq.st 6 rfl (by kernel_rfl) rfl .plain rfl (fun _ _ _ h => h) (grown_new (grown_trans (World.grownBy.refl w16 _) (Ext.to_grown e21 _)) ho23 g28 (by omega)) (fun w' x => Still.build st26 rfl rfl rfl (one_cons rfl (one_cons (Row.one (Own.row ho29)) one_nil)) rfl) ?_
        refine Gq.one 7 rfl (by kernel_rfl) ?_
        refine Sq.alloc zero26 .plain rfl (fun b31 w32 e33 hB34 hlo35 => ?_)
        have hd36 := Nat.le_trans (Below.size E) hlo35
        have hd37 := Nat.lt_of_lt_of_le hB4.lt hlo35
        have hd38 := Nat.lt_of_lt_of_le hB11.lt hlo35
        have hs39 := Below.size e33
        replace E := E.trans e33
        replace hB4 := hB4.ext e33
        replace hB11 := hB11.ext e33
        replace ho29 := ho29.ext e33
        refine Sq.nil ?_
        refine Eq.goes (fun _ => (grown_trans (grown_new (grown_trans (World.grownBy.refl w16 _) (Ext.to_grown e21 _)) ho23 g28 (by omega)) (Ext.to_grown e33 _))) ?_
        refine Gq.one 8 rfl (by kernel_rfl) ?_
        refine Sq.storeAgg agg26 .plain rfl rfl (one_cons rfl (one_cons rfl (one_cons (Row.one (Own.row ho29)) one_nil))) hB34 rfl rfl (fun w40 g41 hB42 => ?_)
        have hs43 := World.grownBy.size g41
        replace E := E.grown g41 (fun k hk => by injection hk with hk; subst hk; omega)
        replace hB4 := hB4.grown g41 (by intro h; injection h with h; omega)
        replace hB11 := hB11.grown g41 (by intro h; injection h with h; omega)
        replace ho29 := ho29.stored g41 hB34 (by decide)
        replace hB34 := hB42
        refine Sq.nil ?_
        refine Eq.goes (fun h => absurd h (by decide)) ?_
        refine Gq.done (by kernel_rfl) ?_
        refine Eq.left _ ⟨b31, v26, rfl, hB34, by omega, Own.mono ho29 (by omega), E, hB4, hB11⟩ (.cons rfl (.cons rfl (.cons rfl (.nil))))
      · refine Sq.alloc zero26 .plain rfl (fun b44 w45 e46 hB47 hlo48 => ?_)
        have hd49 := Nat.le_trans (Below.size E) hlo48
        have hd50 := Nat.lt_of_lt_of_le hB4.lt hlo48
        have hd51 := Nat.lt_of_lt_of_le hB11.lt hlo48
        have hs52 := Below.size e46
        replace E := E.trans e46
        replace hB4 := hB4.ext e46
        replace hB11 := hB11.ext e46
        replace ho23 := ho23.ext e46
        refine Sq.nil ?_
        refine Eq.goes (fun _ => (grown_trans (grown_trans (World.grownBy.refl w16 _) (Ext.to_grown e21 _)) (Ext.to_grown e46 _))) ?_
        refine Gq.one 5 rfl (by kernel_rfl) ?_
        refine Sq.app sl24 ho23 (by omega) (hac.ext E) (one_bools _) (by rw [List.length_map]; simp only [List.length_nil, Nat.zero_add]; first | (have := hf.acc; omega) | omega) .plain rfl rfl rfl rfl (fun v53 w54 ho56 g55 => ?_)
        have hs57 := g55.size
        replace E := E.owned ho23 g55 (by omega)
        replace hB4 := hB4.owned ho23 g55 (by decide)
        replace hB11 := hB11.owned ho23 g55 (by decide)
        replace hB47 := hB47.owned ho23 g55 (by decide)
        simp only [List.nil_append] at ho56
        refine Sq.nil ?_
        refine Eq.goes (fun _ => (grown_new (grown_trans (grown_trans (World.grownBy.refl w16 _) (Ext.to_grown e21 _)) (Ext.to_grown e46 _)) ho23 g55 (by omega))) ?_
        refine Gq.st 6 rfl (by kernel_rfl) rfl .plain rfl (fun _ _ _ h => h) (grown_new (grown_trans (grown_trans (World.grownBy.refl w16 _) (Ext.to_grown e21 _)) (Ext.to_grown e46 _)) ho23 g55 (by omega)) (fun w' x => Still.build st26 rfl rfl rfl (one_cons rfl (one_cons (Row.one (Own.row ho56)) one_nil)) rfl) ?_
        refine Gq.one 8 rfl (by kernel_rfl) ?_
        refine Sq.storeAgg agg26 .plain rfl rfl (one_cons rfl (one_cons rfl (one_cons (Row.one (Own.row ho56)) one_nil))) hB47 rfl rfl (fun w58 g59 hB60 => ?_)
        have hs61 := World.grownBy.size g59
        replace E := E.grown g59 (fun k hk => by injection hk with hk; subst hk; omega)
        replace hB4 := hB4.grown g59 (by intro h; injection h with h; omega)
        replace hB11 := hB11.grown g59 (by intro h; injection h with h; omega)
        replace ho56 := ho56.stored g59 hB47 (by decide)
        replace hB47 := hB60
        refine Sq.nil ?_
        refine Eq.goes (fun h => absurd h (by decide)) ?_
        refine Gq.done (by kernel_rfl) ?_
        refine Eq.left _ ⟨b44, v53, rfl, hB47, by omega, Own.mono ho56 (by omega), E, hB4, hB11⟩ (.cons rfl (.cons rfl (.cons rfl (.nil))))
    · refine Sq.alloc zero26 .plain rfl (fun b62 w63 e64 hB65 hlo66 => ?_)
      have hd67 := Nat.le_trans (Below.size E) hlo66
      have hd68 := Nat.lt_of_lt_of_le hB4.lt hlo66
      have hd69 := Nat.lt_of_lt_of_le hB11.lt hlo66
      have hs70 := Below.size e64
      replace E := E.trans e64
      replace hB4 := hB4.ext e64
      replace hB11 := hB11.ext e64
      refine Sq.nil ?_
      refine Eq.goes (fun _ => (grown_trans (World.grownBy.refl w16 _) (Ext.to_grown e64 _))) ?_
      refine Gq.one 2 rfl (by kernel_rfl) ?_
      refine Sq.lit sl24 rfl rfl .plain rfl rfl one_nil (fun b71 w72 e73 hlo74 ho75 _ => ?_)
      replace ho75 := ho75 w63.heap.size (Nat.le_refl _)
      have hs77 := Below.size e73
      replace E := E.trans e73
      replace hB4 := hB4.ext e73
      replace hB11 := hB11.ext e73
      replace hB65 := hB65.ext e73
      refine Sq.nil ?_
      refine Eq.goes (fun _ => (grown_trans (grown_trans (World.grownBy.refl w16 _) (Ext.to_grown e64 _)) (Ext.to_grown e73 _))) ?_
      refine Gq.one 5 rfl (by kernel_rfl) ?_
      refine Sq.app sl24 ho75 (by omega) (hac.ext E) (one_bools _) (by rw [List.length_map]; simp only [List.length_nil, Nat.zero_add]; first | (have := hf.acc; omega) | omega) .plain rfl rfl rfl rfl (fun v78 w79 ho81 g80 => ?_)
      have hs82 := g80.size
      replace E := E.owned ho75 g80 (by omega)
      replace hB4 := hB4.owned ho75 g80 (by decide)
      replace hB11 := hB11.owned ho75 g80 (by decide)
      replace hB65 := hB65.owned ho75 g80 (by decide)
      simp only [List.nil_append] at ho81
      refine Sq.nil ?_
      refine Eq.goes (fun _ => (grown_new (grown_trans (grown_trans (World.grownBy.refl w16 _) (Ext.to_grown e64 _)) (Ext.to_grown e73 _)) ho75 g80 (by omega))) ?_
      refine Gq.st 6 rfl (by kernel_rfl) rfl .plain rfl (fun _ _ _ h => h) (grown_new (grown_trans (grown_trans (World.grownBy.refl w16 _) (Ext.to_grown e64 _)) (Ext.to_grown e73 _)) ho75 g80 (by omega)) (fun w' x => Still.build st26 rfl rfl rfl (one_cons rfl (one_cons (Row.one (Own.row ho81)) one_nil)) rfl) ?_
      refine Gq.one 8 rfl (by kernel_rfl) ?_
      refine Sq.storeAgg agg26 .plain rfl rfl (one_cons rfl (one_cons rfl (one_cons (Row.one (Own.row ho81)) one_nil))) hB65 rfl rfl (fun w83 g84 hB85 => ?_)
      have hs86 := World.grownBy.size g84
      replace E := E.grown g84 (fun k hk => by injection hk with hk; subst hk; omega)
      replace hB4 := hB4.grown g84 (by intro h; injection h with h; omega)
      replace hB11 := hB11.grown g84 (by intro h; injection h with h; omega)
      replace ho81 := ho81.stored g84 hB65 (by decide)
      replace hB65 := hB85
      refine Sq.nil ?_
      refine Eq.goes (fun h => absurd h (by decide)) ?_
      refine Gq.done (by kernel_rfl) ?_
      refine Eq.left _ ⟨b62, v78, rfl, hB65, by omega, Own.mono ho81 (by omega), E, hB4, hB11⟩ (.cons rfl (.cons rfl (.cons rfl (.nil))))
  · rintro ls wc1 ⟨b3, ac3, rfl, hB3, hb3, hoc, E, hB4, hB11⟩
    have hs87 := Below.size E
    refine Eq.next ?_
    refine Cq.seq ?_
    refine Cq.seq ?_
    refine Cq.region ?_
    refine Sq.assign .plain rfl rfl ?_
    refine Sq.nil ?_
    refine Eq.next ?_
    refine Cq.block ?_
    refine Cq.loop (fun nn w ls => ∃ (k : Int), ∃ (v : Value), ls = [(1, Value.pointer (some ⟨b1, 0, none⟩)), (2, Value.pointer (some ⟨b8, 0, none⟩)), (3, Value.pointer (some ⟨b3, 0, none⟩)), (4, Value.int .i64 k)] ∧ (0 ≤ k ∧ k ≤ a.next.length) ∧ Blk w b3 26 [Value.int .i64 a.al, v, ac3] ∧ OwnRows w w0.heap.size w.heap.size 56 3 v (a.next.take k.toNat) ∧ Ext w0 w ∧ Blk w b1 26 [Value.int .i64 a.al, nx, ac] ∧ Blk w b8 26 [Value.int .i64 0, Value.slice none 0 0, Value.slice none 0 0] ∧ Own w w0.heap.size 4 ac3 (a.acc.map Value.bool) ∧ nn = ((a.next.length : Int) - k).toNat) _ _ ⟨0, _, rfl, by omega, hB3, OwnRows.nil _ _ _ _ _, E, hB4, hB11, hoc, rfl⟩ (.cons rfl (.cons rfl (.cons rfl (.cons rfl (.nil))))) ?_
    rintro nn wl1 ls ⟨k, v, rfl, hk, hB3, hor, E, hB4, hB11, hoc, rfl⟩
    have hs88 := Below.size E
    have hn := hf.2.1
    have hro := Fit.row hf (k := k.toNat)
    refine Cq.seq ?_
    refine Cq.seq ?_
    refine Cq.region ?_
    refine Sq.move .plain rfl rfl ?_
    refine Sq.fieldAddr fld26_1 .plain rfl rfl ?_
    refine Sq.loadB one23 .plain rfl rfl hB4 rfl ?_
    refine Sq.lenRows (hnx.ext E) .plain rfl und23 rfl ?_
    refine Sq.lss .plain rfl rfl rfl ?_
    refine Sq.part (fun c89 => ?_) (fun c89 => ?_)
    · refine Sq.nil ?_
      refine Eq.next ?_
      refine Cq.thn rfl ?_
      refine Cq.skip ?_
      refine Eq.next ?_
      refine Cq.seq ?_
      refine Cq.block ?_
      refine Cq.draw 11 (Value.ownBlock v) mixed (fun w90 e91 => ?_)
      have hs92 := Below.size e91
      replace E := E.trans e91
      replace hB4 := hB4.ext e91
      replace hB11 := hB11.ext e91
      replace hoc := hoc.ext e91
      replace hB3 := hB3.ext e91
      replace hor := hor.ext e91
      have E_w90 := E
      have hB4_w90 := hB4
      have hB11_w90 := hB11
      have hoc_w90 := hoc
      have hB3_w90 := hB3
      have hor_w90 := hor
      obtain ⟨_, hor_w90q, _, _⟩ := OwnRows.open hor_w90 (by decide)
      refine Gq.st 0 rfl (by kernel_rfl) rfl .plain rfl (fun _ _ _ h => h) (World.grownBy.refl w90 _) (fun w' x => Still.fieldAddr fld26_1 rfl) ?_
      refine Gq.st 1 rfl (by kernel_rfl) rfl .plain rfl (fun _ _ _ h => h) (World.grownBy.refl w90 _) (fun w' x => Still.loadB one23 rfl (hB3_w90.owned hor_w90q x (by decide)) rfl) ?_
      refine Gq.st 3 rfl (by kernel_rfl) rfl .plain rfl (fun _ _ _ h => h) (World.grownBy.refl w90 _) (fun w' x => Still.fieldAddr fld26_1 rfl) ?_
      refine Gq.st 4 rfl (by kernel_rfl) rfl .plain rfl (fun _ _ _ h => h) (World.grownBy.refl w90 _) (fun w' x => Still.loadB one23 rfl (hB4_w90.owned hor_w90q x (by decide)) rfl) ?_
      refine Gq.st 5 rfl (by kernel_rfl) rfl .plain rfl (fun _ _ _ h => h) (World.grownBy.refl w90 _) (fun w' x => Still.move rfl) ?_
      obtain ⟨p93, r95, hp94_w90, hr96⟩ := Rows.at hnx (i := k) (by omega) (by omega)
      refine Gq.st 6 rfl (by kernel_rfl) rfl .plain rfl (fun _ _ _ h => h) (World.grownBy.refl w90 _) (fun w' x => Still.at' sl23 hp94_w90 rfl rfl) ?_
      refine Gq.st 7 rfl (by kernel_rfl) rfl .plain rfl (fun _ _ _ h => h) (World.grownBy.refl w90 _) (fun w' x => Still.loadA one56 rfl (hp94_w90.ext (E_w90.owned hor_w90q x (by omega))).1) ?_
      refine Gq.one 2 rfl (by kernel_rfl) ?_
      refine Sq.lit sl56 rfl rfl .plain rfl rfl one_nil (fun b97 w98 e99 hlo100 ho101 _ => ?_)
      replace ho101 := ho101 w90.heap.size (Nat.le_refl _)
      have hs103 := Below.size e99
      replace E := E.trans e99
      replace hB4 := hB4.ext e99
      replace hB11 := hB11.ext e99
      replace hoc := hoc.ext e99
      replace hB3 := hB3.ext e99
      replace hor := hor.ext e99
      refine Sq.nil ?_
      refine Eq.goes (fun _ => (grown_trans (World.grownBy.refl w90 _) (Ext.to_grown e99 _))) ?_
      refine Gq.one 8 rfl (by kernel_rfl) ?_
      refine Sq.app sl56 ho101 (by omega) (hr96.ext E) (one_ints _) (by rw [List.length_map]; simp only [List.length_nil, Nat.zero_add]; first | (have := hf.acc; omega) | omega) .plain rfl rfl rfl rfl (fun v104 w105 ho107 g106 => ?_)
      have hs108 := g106.size
      replace E := E.owned ho101 g106 (by omega)
      replace hB4 := hB4.owned ho101 g106 (by decide)
      replace hB11 := hB11.owned ho101 g106 (by decide)
      replace hoc := hoc.owned ho101 g106 (by decide)
      replace hB3 := hB3.owned ho101 g106 (by decide)
      replace hor := hor.apart ho101 g106 (by omega) (by decide)
      simp only [List.nil_append] at ho107
      refine Sq.nil ?_
      refine Eq.goes (fun _ => (grown_new (grown_trans (World.grownBy.refl w90 _) (Ext.to_grown e99 _)) ho101 g106 (by omega))) ?_
      refine Gq.one 9 rfl (by kernel_rfl) ?_
      refine Sq.lit sl23 rfl rfl .plain rfl rfl (one_cons (Row.one (Own.row ho107)) one_nil) (fun b109 w110 e111 hlo112 ho113 _ => ?_)
      replace ho113 := ho113 w105.heap.size (Nat.le_refl _)
      have hs115 := Below.size e111
      replace E := E.trans e111
      replace hB4 := hB4.ext e111
      replace hB11 := hB11.ext e111
      replace hoc := hoc.ext e111
      replace hB3 := hB3.ext e111
      replace hor := hor.ext e111
      replace ho107 := ho107.ext e111
      refine Sq.nil ?_
      refine Eq.goes (fun _ => (grown_trans (grown_new (grown_trans (World.grownBy.refl w90 _) (Ext.to_grown e99 _)) ho101 g106 (by omega)) (Ext.to_grown e111 _))) ?_
      refine Gq.one 10 rfl (by kernel_rfl) ?_
      obtain ⟨rs120, q121, q122, q123⟩ := OwnRows.open hor (by decide)
      have q123x := Ext.refl w110
      refine Sq.app sl23 q121 (by omega) (Own.row ho113) (one_cons (Row.one (Own.row ho107)) one_nil) (by rw [q122]; simp; omega) .plain rfl rfl rfl rfl (fun v116 w117 ho119 g118 => ?_)
      have hs124 := g118.size
      have ho119r := q123 _ (a.next.getD k.toNat []) _ _ _ (Ext.refl _) (Own.mono ho107 (by omega)) (by omega) ho119 g118
      replace E := E.owned q121 g118 (by omega)
      replace hB4 := hB4.owned q121 g118 (by decide)
      replace hB11 := hB11.owned q121 g118 (by decide)
      replace hoc := hoc.owned q121 g118 (by decide)
      replace hB3 := hB3.owned q121 g118 (by decide)
      replace ho107 := ho107.owned q121 g118 (by decide)
      refine Sq.nil ?_
      refine Eq.goes (fun _ => (grown_trans (grown_trans (grown_new (grown_trans (World.grownBy.refl w90 _) (Ext.to_grown e99 _)) ho101 g106 (by omega)) (Ext.to_grown e111 _)) g118)) ?_
      refine Gq.one 11 rfl (by kernel_rfl) ?_
      refine Sq.fieldAddr fld26_1 .plain rfl rfl ?_
      refine Sq.nil ?_
      refine Eq.goes (fun h => absurd h (by decide)) ?_
      refine Gq.one 12 rfl (by kernel_rfl) ?_
      refine Sq.store one23 .plain rfl rfl (Rows.one (OwnRows.rows ho119r)) hB3 (by simp) (fun w125 g126 hB127 => ?_)
      have hs128 := World.grownBy.size g126
      replace E := E.grown g126 (fun k hk => by injection hk with hk; subst hk; omega)
      replace hB4 := hB4.grown g126 (by intro h; injection h with h; omega)
      replace hB11 := hB11.grown g126 (by intro h; injection h with h; omega)
      replace hoc := hoc.stored g126 hB3 (by decide)
      replace ho107 := ho107.stored g126 hB3 (by decide)
      replace ho119r := ho119r.stored g126 hB3 (by decide) (by decide)
      replace hB3 := hB127
      refine Sq.nil ?_
      refine Eq.goes (fun h => absurd h (by decide)) ?_
      refine Gq.done (by kernel_rfl) ?_
      refine Eq.end ?_
      refine Eq.next ?_
      refine Cq.region ?_
      refine Sq.move .plain rfl rfl ?_
      refine Sq.add .plain rfl rfl rfl (by omega) ?_
      refine Sq.assign .plain rfl rfl ?_
      refine Sq.nil ?_
      have e1 := toNat_succ hk.1
      refine Eq.round _ _ ⟨k + 1, _, rfl, by omega, hB3, by rw [e1, take_snoc [] (by omega)]; exact OwnRows.now ho119r, E, hB4, hB11, hoc, rfl⟩ (by omega) (.cons rfl (.cons rfl (.cons rfl (.cons rfl (.nil)))))
    · refine Sq.nil ?_
      refine Eq.next ?_
      refine Cq.els rfl ?_
      refine Cq.exit ?_
      refine Eq.past ?_
      refine Eq.past ?_
      refine Eq.hit ?_
      refine Eq.next ?_
      refine Cq.seq ?_
      refine Cq.region ?_
      refine Sq.loadAgg agg26 .plain rfl rfl hB3 rfl ?_
      refine Sq.storeAgg agg26 .plain rfl rfl (one_cons rfl (one_cons (Rows.one (OwnRows.rows hor)) (one_cons (Row.one (Own.row hoc)) one_nil))) hB11 rfl rfl (fun w129 g130 hB131 => ?_)
      have hs132 := World.grownBy.size g130
      replace E := E.grown g130 (fun k hk => by injection hk with hk; subst hk; omega)
      replace hB4 := hB4.grown g130 (by intro h; injection h with h; omega)
      replace hoc := hoc.stored g130 hB11 (by decide)
      replace hB3 := hB3.grown g130 (by intro h; injection h with h; omega)
      replace hor := hor.stored g130 hB11 (by decide) (by decide)
      replace hB11 := hB131
      refine Sq.nil ?_
      refine Eq.next ?_
      refine Cq.ret ?_
      refine Eq.retCell rfl rfl agg26 hB11 rfl ?_
      have e : a.next.take k.toNat = a.next := List.take_of_length_le (by omega)
      rw [e] at hor
      exact ⟨⟨v, ac3, rfl, OwnRows.now hor, hoc⟩, E⟩

set_option maxRecDepth 100000 in
theorem compl_c (w0 : World) (a : A) (nx ac : Value) (hnx : Rows w0 56 3 nx a.next) (hac : Bools w0 4 ac a.acc) : Ret Try.prog 21 #[Value.agg #[Value.int .i64 a.al, nx, ac]] w0 (fun v w => (∃ u, v = .tuple #[u, .bool (validA a)] ∧ OwnA w w0.heap.size u (if validA a then compl a else zeroA)) ∧ Ext w0 w) := by
  have E := Ext.refl w0
  refine Ret.of (args := [Value.agg #[Value.int .i64 a.al, nx, ac]]) Try.func21 rfl rfl rfl ?_
  rintro _ rfl
  show Cq _ _ _ _ [(0, Value.agg #[Value.int .i64 a.al, nx, ac])] _
  refine Cq.seq ?_
  refine Cq.region ?_
  refine Sq.box .plain rfl rfl (fun b1 w2 e3 hB4 hlo5 => ?_)
  have hd6 := Nat.le_trans (Below.size E) hlo5
  have hs7 := Below.size e3
  replace E := E.trans e3
  refine Sq.alloc zero26 .plain rfl (fun b8 w9 e10 hB11 hlo12 => ?_)
  have hd13 := Nat.le_trans (Below.size E) hlo12
  have hd14 := Nat.lt_of_lt_of_le hB4.lt hlo12
  have hs15 := Below.size e10
  replace E := E.trans e10
  replace hB4 := hB4.ext e10
  refine Sq.assign .plain rfl rfl ?_
  refine Sq.nil ?_
  refine Eq.next ?_
  refine Cq.seq ?_
  refine Cq.seq ?_
  refine Cq.region ?_
  refine Sq.loadAgg agg26 .plain rfl rfl hB4 rfl ?_
  have hd19 := hB4.lt
  have hd20 := hB11.lt
  refine Sq.call fn22 .plain rfl rfl (valid_c _ a _ _ (hnx.ext E) (hac.ext E)) ?_
  rintro _ w17 ⟨rfl, e18⟩
  have hs21 := Below.size E
  have hs22 := Below.size e18
  replace E := E.trans e18
  replace hB4 := hB4.ext e18
  replace hB11 := hB11.ext e18
  refine Sq.partB (fun hv => ?_) (fun hv => ?_)
  · refine Sq.notT .plain rfl rfl ?_
    refine Sq.nil ?_
    refine Eq.next ?_
    refine Cq.els rfl ?_
    refine Cq.skip ?_
    refine Eq.next ?_
    refine Cq.seq ?_
    refine Cq.region ?_
    refine Sq.loadAgg agg26 .plain rfl rfl hB4 rfl ?_
    have hd30 := hB4.lt
    have hd31 := hB11.lt
    refine Sq.call fn62 .plain rfl rfl (copyA_c _ a _ _ (hnx.ext E) (hac.ext E) (fit_of_valid hv)) ?_
    rintro _ w24 ⟨⟨nx26, ac27, rfl, hn28, ha29⟩, e25⟩
    have hs32 := Below.size E
    have hs33 := Below.size e25
    replace E := E.trans e25
    replace hB4 := hB4.ext e25
    replace hB11 := hB11.ext e25
    refine Sq.alloc zero26 .plain rfl (fun b34 w35 e36 hB37 hlo38 => ?_)
    have hd39 := Nat.le_trans (Below.size E) hlo38
    have hd40 := Nat.lt_of_lt_of_le hB4.lt hlo38
    have hd41 := Nat.lt_of_lt_of_le hB11.lt hlo38
    have hs42 := Below.size e36
    replace E := E.trans e36
    replace hB4 := hB4.ext e36
    replace hB11 := hB11.ext e36
    replace hn28 := hn28.ext e36
    replace ha29 := ha29.ext e36
    refine Sq.storeAgg agg26 .plain rfl rfl (one_cons rfl (one_cons (Rows.one (OwnRows.rows hn28)) (one_cons (Row.one (Own.row ha29)) one_nil))) hB37 rfl rfl (fun w43 g44 hB45 => ?_)
    have hs46 := World.grownBy.size g44
    replace E := E.grown g44 (fun k hk => by injection hk with hk; subst hk; omega)
    replace hB4 := hB4.grown g44 (by intro h; injection h with h; omega)
    replace hB11 := hB11.grown g44 (by intro h; injection h with h; omega)
    replace hn28 := hn28.stored g44 hB37 (by decide) (by decide)
    replace ha29 := ha29.stored g44 hB37 (by decide)
    replace hB37 := hB45
    refine Sq.nil ?_
    refine Eq.next ?_
    refine Cq.seq ?_
    refine Cq.seq ?_
    refine Cq.region ?_
    refine Sq.fieldAddr fld26_2 .plain rfl rfl ?_
    refine Sq.loadB one24 .plain rfl rfl hB37 rfl ?_
    refine Sq.lenBools (Own.row ha29) .plain rfl und24 rfl ?_
    refine Sq.move .plain rfl rfl ?_
    refine Sq.nil ?_
    refine Eq.next ?_
    refine Cq.block ?_
    refine Cq.loop (fun nn w ls => ∃ (k : Int), ls = [(1, Value.pointer (some ⟨b1, 0, none⟩)), (2, Value.pointer (some ⟨b8, 0, none⟩)), (4, Value.pointer (some ⟨b34, 0, none⟩)), (14, Value.int .i64 (List.length a.acc : Int)), (15, Value.int .i64 k)] ∧ (0 ≤ k ∧ k ≤ a.acc.length) ∧ Own w w17.heap.size 4 ac27 ((complTo a.acc k.toNat).map Value.bool) ∧ Ext w0 w ∧ Blk w b1 26 [Value.int .i64 a.al, nx, ac] ∧ Blk w b8 26 [Value.int .i64 0, Value.slice none 0 0, Value.slice none 0 0] ∧ Blk w b34 26 [Value.int .i64 a.al, nx26, ac27] ∧ OwnRows w w17.heap.size w24.heap.size 56 3 nx26 a.next ∧ nn = ((a.acc.length : Int) - k).toNat) _ _ ⟨0, rfl, by omega, by rw [show (0 : Int).toNat = 0 from rfl, complTo_zero]; exact ha29, E, hB4, hB11, hB37, hn28, rfl⟩ (.cons rfl (.cons rfl (.cons rfl (.cons rfl (.cons rfl (.nil)))))) ?_
    rintro nn wl1 ls ⟨k, rfl, hk, ha29, E, hB4, hB11, hB37, hn28, rfl⟩
    have hs47 := Below.size E
    have hlc := complTo_length a.acc k.toNat
    have hac := (fit_of_valid hv).acc
    refine Cq.seq ?_
    refine Cq.region ?_
    refine Sq.lss .plain rfl rfl rfl ?_
    refine Sq.part (fun c48 => ?_) (fun c48 => ?_)
    · refine Sq.nil ?_
      refine Eq.next ?_
      refine Cq.seq ?_
      refine Cq.thn rfl ?_
      refine Cq.skip ?_
      refine Eq.next ?_
      refine Cq.seq ?_
      refine Cq.block ?_
      refine Cq.seq ?_
      refine Cq.region ?_
      refine Sq.move .plain rfl rfl ?_
      refine Sq.assign .plain rfl rfl ?_
      refine Sq.nil ?_
      refine Eq.next ?_
      refine Cq.draw 9 none mixed (fun w49 e50 => ?_)
      have hs51 := Below.size e50
      replace E := E.trans e50
      replace hB4 := hB4.ext e50
      replace hB11 := hB11.ext e50
      replace hB37 := hB37.ext e50
      replace hn28 := hn28.ext e50
      replace ha29 := ha29.ext e50
      have E_w49 := E
      have hB4_w49 := hB4
      have hB11_w49 := hB11
      have hB37_w49 := hB37
      have hn28_w49 := hn28
      have ha29_w49 := ha29
      refine Gq.st 0 rfl (by kernel_rfl) rfl .plain rfl (fun _ _ _ h => h) (World.grownBy.refl w49 _) (fun w' x => Still.fieldAddr fld26_2 rfl) ?_
      refine Gq.st 1 rfl (by kernel_rfl) rfl .plain rfl (fun _ _ _ h => h) (World.grownBy.refl w49 _) (fun w' x => Still.loadB one24 rfl (hB37_w49.ext (Ext.of_grown x)) rfl) ?_
      refine Gq.st 2 rfl (by kernel_rfl) rfl .plain rfl (fun _ _ _ h => h) (World.grownBy.refl w49 _) (fun w' x => Still.move rfl) ?_
      refine Gq.st 3 rfl (by kernel_rfl) rfl .plain rfl (fun _ _ _ h => h) (World.grownBy.refl w49 _) (fun w' x => Still.fieldAddr fld26_2 rfl) ?_
      refine Gq.st 4 rfl (by kernel_rfl) rfl .plain rfl (fun _ _ _ h => h) (World.grownBy.refl w49 _) (fun w' x => Still.loadB one24 rfl (hB37_w49.ext (Ext.of_grown x)) rfl) ?_
      refine Gq.st 5 rfl (by kernel_rfl) rfl .plain rfl (fun _ _ _ h => h) (World.grownBy.refl w49 _) (fun w' x => Still.move rfl) ?_
      obtain ⟨p52, hp53_w49⟩ := Bools.at (Own.row ha29_w49) (i := k) (by omega) (by omega)
      have hp53o := AtO.of ha29_w49 hp53_w49
      refine Gq.st 6 rfl (by kernel_rfl) rfl .plain rfl (fun _ _ _ h => h) (World.grownBy.refl w49 _) (fun w' x => Still.at' sl24 hp53_w49 rfl rfl) ?_
      refine Gq.st 7 rfl (by kernel_rfl) rfl .plain rfl (fun _ _ _ h => h) (World.grownBy.refl w49 _) (fun w' x => Still.loadA one4 rfl (hp53_w49.ext (Ext.of_grown x)).1) ?_
      refine Gq.st 8 rfl (by kernel_rfl) rfl .plain rfl (fun _ _ _ h => h) (World.grownBy.refl w49 _) (fun w' x => Still.not rfl) ?_
      refine Gq.one 9 rfl (by kernel_rfl) ?_
      obtain ⟨p54, hp55o⟩ := Own.at ha29 (i := k) (by omega) (by first | (simp only [List.length_map]; omega) | (simp; omega))
      refine Sq.atO sl24 hp55o .plain rfl rfl rfl ?_
      refine Sq.nil ?_
      refine Eq.goes (fun h => absurd h (by decide)) ?_
      refine Gq.one 10 rfl (by kernel_rfl) ?_
      refine Sq.storeO one4 ha29 hp55o .plain rfl rfl rfl (fun w56 g57 ho58 => ?_)
      have hs59 := World.grownBy.size g57
      replace E := E.owned ha29 g57 (by omega)
      replace hB4 := hB4.owned ha29 g57 (by decide)
      replace hB11 := hB11.owned ha29 g57 (by decide)
      replace hB37 := hB37.owned ha29 g57 (by decide)
      replace hn28 := hn28.owned ha29 g57 (by decide) (by decide)
      replace ha29 := ho58
      refine Sq.nil ?_
      refine Eq.goes (fun h => absurd h (by decide)) ?_
      refine Gq.done (by kernel_rfl) ?_
      refine Eq.end ?_
      refine Eq.next ?_
      refine Cq.region ?_
      refine Sq.add .plain rfl rfl rfl (by omega) ?_
      refine Sq.move .plain rfl rfl ?_
      refine Sq.nil ?_
      have e1 := toNat_succ hk.1
      refine Eq.round _ _ ⟨k + 1, rfl, by omega, by rw [e1, ← complTo_step (by omega), List.map_set]; exact ha29, E, hB4, hB11, hB37, hn28, rfl⟩ (by omega) (.cons rfl (.cons rfl (.cons rfl (.cons rfl (.cons rfl (.nil))))))
    · refine Sq.nil ?_
      refine Eq.next ?_
      refine Cq.seq ?_
      refine Cq.els rfl ?_
      refine Cq.exit ?_
      refine Eq.past ?_
      refine Eq.past ?_
      refine Eq.hit ?_
      refine Eq.next ?_
      refine Cq.seq ?_
      refine Cq.region ?_
      refine Sq.loadAgg agg26 .plain rfl rfl hB37 rfl ?_
      refine Sq.storeAgg agg26 .plain rfl rfl (one_cons rfl (one_cons (Rows.one (OwnRows.rows hn28)) (one_cons (Row.one (Own.row ha29)) one_nil))) hB11 rfl rfl (fun w60 g61 hB62 => ?_)
      have hs63 := World.grownBy.size g61
      replace E := E.grown g61 (fun k hk => by injection hk with hk; subst hk; omega)
      replace hB4 := hB4.grown g61 (by intro h; injection h with h; omega)
      replace hB37 := hB37.grown g61 (by intro h; injection h with h; omega)
      replace hn28 := hn28.stored g61 hB11 (by decide) (by decide)
      replace ha29 := ha29.stored g61 hB11 (by decide)
      replace hB11 := hB62
      refine Sq.assign .plain rfl rfl ?_
      refine Sq.nil ?_
      refine Eq.next ?_
      refine Cq.ret ?_
      refine Eq.retCell2 rfl rfl agg26 hB11 rfl rfl ?_
      have e : complTo a.acc k.toNat = a.acc.map (!·) := complTo_done (by omega)
      rw [e] at ha29
      exact ⟨⟨_, by rw [hv], by rw [if_pos hv]; exact ⟨_, _, rfl, OwnRows.now (OwnRows.mono hn28 (by omega)), Own.mono ha29 (by omega)⟩⟩, E⟩
  · refine Sq.notF .plain rfl rfl ?_
    refine Sq.nil ?_
    refine Eq.next ?_
    refine Cq.thn rfl ?_
    refine Cq.seq ?_
    refine Cq.region ?_
    refine Sq.build st26 rfl rfl .plain rfl rfl one_nil rfl ?_
    refine Sq.storeAgg agg26 .plain rfl rfl (one_cons rfl (one_cons rfl (one_cons rfl one_nil))) hB11 rfl rfl (fun w64 g65 hB66 => ?_)
    have hs67 := World.grownBy.size g65
    replace E := E.grown g65 (fun k hk => by injection hk with hk; subst hk; omega)
    replace hB4 := hB4.grown g65 (by intro h; injection h with h; omega)
    replace hB11 := hB66
    refine Sq.assign .plain rfl rfl ?_
    refine Sq.nil ?_
    refine Eq.next ?_
    refine Cq.ret ?_
    refine Eq.pastRet ?_
    refine Eq.retCell2 rfl rfl agg26 hB11 rfl rfl ?_
    exact ⟨⟨_, by rw [hv], by rw [if_neg (by simp [hv])]; exact ⟨_, _, rfl, OwnRows.nil _ _ _ _ _, Own.nil _ _ _⟩⟩, E⟩

theorem compl_c_T (w0 : World) (a : A) (nx ac : Value) (hnx : Rows w0 56 3 nx a.next) (hac : Bools w0 4 ac a.acc) (hC : (validA a) = true) : Ret Try.prog 21 #[Value.agg #[Value.int .i64 a.al, nx, ac]] w0 (fun v w => (∃ u, v = .tuple #[u, .bool true] ∧ OwnA w w0.heap.size u (compl a)) ∧ Ext w0 w) :=
  (compl_c w0 a nx ac hnx hac).mono fun v w h => by rw [hC, if_pos rfl] at h; exact h
theorem compl_c_F (w0 : World) (a : A) (nx ac : Value) (hnx : Rows w0 56 3 nx a.next) (hac : Bools w0 4 ac a.acc) (hC : (validA a) = false) : Ret Try.prog 21 #[Value.agg #[Value.int .i64 a.al, nx, ac]] w0 (fun v w => (∃ u, v = .tuple #[u, .bool false] ∧ OwnA w w0.heap.size u (zeroA)) ∧ Ext w0 w) :=
  (compl_c w0 a nx ac hnx hac).mono fun v w h => by rw [hC, if_neg (by decide)] at h; exact h

end Go.Proofs.Ytdejmfkpohgamaa
