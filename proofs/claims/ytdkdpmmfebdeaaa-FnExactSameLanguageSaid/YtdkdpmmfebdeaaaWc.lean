/-
  Walks, printed by a program out of the translation and a contract for each function; each step is one law.
-/
import Derived.Test.YtdkdpmmfebdeaaaWb
set_option linter.unusedSimpArgs false
set_option linter.unusedVariables false
namespace Go.Proofs.Ytdkdpmmfebdeaaa
open Go.RowKit

set_option maxRecDepth 100000 in
theorem l3Copy_c (w0 : World) (a : A) (nx ac : Value) (hnx : Rows w0 52 3 nx a.next) (hac : Bools w0 4 ac a.acc) (hf : Fit a) : Ret Try.prog 99 #[Value.agg #[Value.int .i64 a.al, nx, ac]] w0 (fun v w => OwnA w w0.heap.size v a ∧ Ext w0 w) := by
  have E := Ext.refl w0
  refine Ret.of (args := [Value.agg #[Value.int .i64 a.al, nx, ac]]) Try.func99 rfl rfl rfl ?_
  rintro _ rfl
  show Cq _ _ _ _ [(0, Value.agg #[Value.int .i64 a.al, nx, ac])] _
  refine Cq.seq ?_
  refine Cq.region ?_
  refine Sq.box .plain rfl rfl (fun b1 w2 e3 hB4 hlo5 => ?_)
  have hd6 := Nat.le_trans (Below.size E) hlo5
  have hs7 := Below.size e3
  replace E := E.trans e3
  refine Sq.alloc zero27 .plain rfl (fun b8 w9 e10 hB11 hlo12 => ?_)
  have hd13 := Nat.le_trans (Below.size E) hlo12
  have hd14 := Nat.lt_of_lt_of_le hB4.lt hlo12
  have hs15 := Below.size e10
  replace E := E.trans e10
  replace hB4 := hB4.ext e10
  refine Sq.nil ?_
  refine Eq.next ?_
  refine Cq.seq ?_
  refine Cq.cut (fun ls w => ∃ (b3 : Nat), ∃ (ac3 : Value), ls = [(1, Value.pointer (some ⟨b1, 0, none⟩)), (2, Value.pointer (some ⟨b8, 0, none⟩)), (3, Value.pointer (some ⟨b3, 0, none⟩))] ∧ Blk w b3 27 [Value.int .i64 a.al, Value.slice none 0 0, ac3] ∧ (w0.heap.size ≤ b3 ∧ b1 < b3 ∧ b8 < b3) ∧ Own w w0.heap.size 4 ac3 (a.acc.map Value.bool) ∧ Ext w0 w ∧ Blk w b1 27 [Value.int .i64 a.al, nx, ac] ∧ Blk w b8 27 [Value.int .i64 0, Value.slice none 0 0, Value.slice none 0 0]) ?_ ?_
  · refine Cq.draw 8 none mixed (fun w16 e17 => ?_)
    have hs18 := Below.size e17
    replace E := E.trans e17
    replace hB4 := hB4.ext e17
    replace hB11 := hB11.ext e17
    have E_w16 := E
    have hB4_w16 := hB4
    have hB11_w16 := hB11
    refine Gq.st 0 rfl (by kernel_rfl) rfl .plain rfl (fun _ _ _ h => h) (World.grownBy.refl w16 _) (fun w' x => Still.fieldAddr fld27_0 rfl) ?_
    refine Gq.st 1 rfl (by kernel_rfl) rfl .plain rfl (fun _ _ _ h => h) (World.grownBy.refl w16 _) (fun w' x => Still.loadB one3 rfl (hB4_w16.ext (Ext.of_grown x)) rfl) ?_
    refine Gq.st 3 rfl (by kernel_rfl) rfl .plain rfl (fun _ _ _ h => h) (World.grownBy.refl w16 _) (fun w' x => Still.fieldAddr fld27_2 rfl) ?_
    refine Gq.st 4 rfl (by kernel_rfl) rfl .plain rfl (fun _ _ _ h => h) (World.grownBy.refl w16 _) (fun w' x => Still.loadB one23 rfl (hB4_w16.ext (Ext.of_grown x)) rfl) ?_
    refine Gq.two 2 7 rfl rfl (by kernel_rfl) ?_ ?_
    · refine Sq.lit sl23 rfl rfl .plain rfl rfl one_nil (fun b19 w20 e21 hlo22 ho23 _ => ?_)
      replace ho23 := ho23 w16.heap.size (Nat.le_refl _)
      have hs25 := Below.size e21
      replace E := E.trans e21
      replace hB4 := hB4.ext e21
      replace hB11 := hB11.ext e21
      refine Sq.nil ?_
      refine Eq.goes (fun _ => (grown_trans (World.grownBy.refl w16 _) (Ext.to_grown e21 _))) ?_
      refine Gq.two 5 7 rfl rfl (by kernel_rfl) ?_ ?_
      · refine Sq.app sl23 ho23 (by omega) (hac.ext E) (one_bools _) (by rw [List.length_map]; simp only [List.length_nil, Nat.zero_add]; first | (have := hf.acc; omega) | omega) .plain rfl rfl rfl rfl (fun v26 w27 ho29 g28 => ?_)
        have hs30 := g28.size
        replace E := E.owned ho23 g28 (by omega)
        replace hB4 := hB4.owned ho23 g28 (by decide)
        replace hB11 := hB11.owned ho23 g28 (by decide)
        simp only [List.nil_append] at ho29
        refine Sq.nil ?_
        refine Eq.goes (fun _ => (grown_new (grown_trans (World.grownBy.refl w16 _) (Ext.to_grown e21 _)) ho23 g28 (by omega))) ?_
        refine Gq.st 6 rfl (by kernel_rfl) rfl .plain rfl (fun _ _ _ h => h) (grown_new (grown_trans (World.grownBy.refl w16 _) (Ext.to_grown e21 _)) ho23 g28 (by omega)) (fun w' x => Still.build st27 rfl rfl rfl (one_cons rfl (one_cons (Row.one (Own.row ho29)) one_nil)) rfl) ?_
        refine Gq.one 7 rfl (by kernel_rfl) ?_
        refine Sq.alloc zero27 .plain rfl (fun b31 w32 e33 hB34 hlo35 => ?_)
        have hd36 := Nat.le_trans (Below.size E) hlo35
        have hd37 := Nat.lt_of_lt_of_le hB4.lt hlo35
        have hd38 := Nat.lt_of_lt_of_le hB11.lt hlo35
        have hs39 := Below.size e33
        replace E := E.trans e33
        replace hB4 := hB4.ext e33
        replace hB11 := hB11.ext e33
        replace ho29 := ho29.ext e33
        refine Sq.nil ?_
        refine Eq.goes (fun _ => (grown_trans (grown_new (grown_trans (World.grownBy.refl w16 _) (Ext.to_grown e21 _)) ho23 g28 (by omega)) (Ext.to_grown e33 _))) ?_
        refine Gq.one 8 rfl (by kernel_rfl) ?_
        refine Sq.storeAgg agg27 .plain rfl rfl (one_cons rfl (one_cons rfl (one_cons (Row.one (Own.row ho29)) one_nil))) hB34 rfl rfl (fun w40 g41 hB42 => ?_)
        have hs43 := World.grownBy.size g41
        replace E := E.grown g41 (fun k hk => by injection hk with hk; subst hk; omega)
        replace hB4 := hB4.grown g41 (by intro h; injection h with h; omega)
        replace hB11 := hB11.grown g41 (by intro h; injection h with h; omega)
        replace ho29 := ho29.stored g41 hB34 (by decide)
        replace hB34 := hB42
        refine Sq.nil ?_
        refine Eq.goes (fun h => absurd h (by decide)) ?_
        refine Gq.done (by kernel_rfl) ?_
        refine Eq.left _ ⟨b31, v26, rfl, hB34, by omega, Own.mono ho29 (by omega), E, hB4, hB11⟩ (.cons rfl (.cons rfl (.cons rfl (.nil))))
      · refine Sq.alloc zero27 .plain rfl (fun b44 w45 e46 hB47 hlo48 => ?_)
        have hd49 := Nat.le_trans (Below.size E) hlo48
        have hd50 := Nat.lt_of_lt_of_le hB4.lt hlo48
        have hd51 := Nat.lt_of_lt_of_le hB11.lt hlo48
        have hs52 := Below.size e46
        replace E := E.trans e46
        replace hB4 := hB4.ext e46
        replace hB11 := hB11.ext e46
        replace ho23 := ho23.ext e46
        refine Sq.nil ?_
        refine Eq.goes (fun _ => (grown_trans (grown_trans (World.grownBy.refl w16 _) (Ext.to_grown e21 _)) (Ext.to_grown e46 _))) ?_
        refine Gq.one 5 rfl (by kernel_rfl) ?_
        refine Sq.app sl23 ho23 (by omega) (hac.ext E) (one_bools _) (by rw [List.length_map]; simp only [List.length_nil, Nat.zero_add]; first | (have := hf.acc; omega) | omega) .plain rfl rfl rfl rfl (fun v53 w54 ho56 g55 => ?_)
        have hs57 := g55.size
        replace E := E.owned ho23 g55 (by omega)
        replace hB4 := hB4.owned ho23 g55 (by decide)
        replace hB11 := hB11.owned ho23 g55 (by decide)
        replace hB47 := hB47.owned ho23 g55 (by decide)
        simp only [List.nil_append] at ho56
        refine Sq.nil ?_
        refine Eq.goes (fun _ => (grown_new (grown_trans (grown_trans (World.grownBy.refl w16 _) (Ext.to_grown e21 _)) (Ext.to_grown e46 _)) ho23 g55 (by omega))) ?_
        refine Gq.st 6 rfl (by kernel_rfl) rfl .plain rfl (fun _ _ _ h => h) (grown_new (grown_trans (grown_trans (World.grownBy.refl w16 _) (Ext.to_grown e21 _)) (Ext.to_grown e46 _)) ho23 g55 (by omega)) (fun w' x => Still.build st27 rfl rfl rfl (one_cons rfl (one_cons (Row.one (Own.row ho56)) one_nil)) rfl) ?_
        refine Gq.one 8 rfl (by kernel_rfl) ?_
        refine Sq.storeAgg agg27 .plain rfl rfl (one_cons rfl (one_cons rfl (one_cons (Row.one (Own.row ho56)) one_nil))) hB47 rfl rfl (fun w58 g59 hB60 => ?_)
        have hs61 := World.grownBy.size g59
        replace E := E.grown g59 (fun k hk => by injection hk with hk; subst hk; omega)
        replace hB4 := hB4.grown g59 (by intro h; injection h with h; omega)
        replace hB11 := hB11.grown g59 (by intro h; injection h with h; omega)
        replace ho56 := ho56.stored g59 hB47 (by decide)
        replace hB47 := hB60
        refine Sq.nil ?_
        refine Eq.goes (fun h => absurd h (by decide)) ?_
        refine Gq.done (by kernel_rfl) ?_
        refine Eq.left _ ⟨b44, v53, rfl, hB47, by omega, Own.mono ho56 (by omega), E, hB4, hB11⟩ (.cons rfl (.cons rfl (.cons rfl (.nil))))
    · refine Sq.alloc zero27 .plain rfl (fun b62 w63 e64 hB65 hlo66 => ?_)
      have hd67 := Nat.le_trans (Below.size E) hlo66
      have hd68 := Nat.lt_of_lt_of_le hB4.lt hlo66
      have hd69 := Nat.lt_of_lt_of_le hB11.lt hlo66
      have hs70 := Below.size e64
      replace E := E.trans e64
      replace hB4 := hB4.ext e64
      replace hB11 := hB11.ext e64
      refine Sq.nil ?_
      refine Eq.goes (fun _ => (grown_trans (World.grownBy.refl w16 _) (Ext.to_grown e64 _))) ?_
      refine Gq.one 2 rfl (by kernel_rfl) ?_
      refine Sq.lit sl23 rfl rfl .plain rfl rfl one_nil (fun b71 w72 e73 hlo74 ho75 _ => ?_)
      replace ho75 := ho75 w63.heap.size (Nat.le_refl _)
      have hs77 := Below.size e73
      replace E := E.trans e73
      replace hB4 := hB4.ext e73
      replace hB11 := hB11.ext e73
      replace hB65 := hB65.ext e73
      refine Sq.nil ?_
      refine Eq.goes (fun _ => (grown_trans (grown_trans (World.grownBy.refl w16 _) (Ext.to_grown e64 _)) (Ext.to_grown e73 _))) ?_
      refine Gq.one 5 rfl (by kernel_rfl) ?_
      refine Sq.app sl23 ho75 (by omega) (hac.ext E) (one_bools _) (by rw [List.length_map]; simp only [List.length_nil, Nat.zero_add]; first | (have := hf.acc; omega) | omega) .plain rfl rfl rfl rfl (fun v78 w79 ho81 g80 => ?_)
      have hs82 := g80.size
      replace E := E.owned ho75 g80 (by omega)
      replace hB4 := hB4.owned ho75 g80 (by decide)
      replace hB11 := hB11.owned ho75 g80 (by decide)
      replace hB65 := hB65.owned ho75 g80 (by decide)
      simp only [List.nil_append] at ho81
      refine Sq.nil ?_
      refine Eq.goes (fun _ => (grown_new (grown_trans (grown_trans (World.grownBy.refl w16 _) (Ext.to_grown e64 _)) (Ext.to_grown e73 _)) ho75 g80 (by omega))) ?_
      refine Gq.st 6 rfl (by kernel_rfl) rfl .plain rfl (fun _ _ _ h => h) (grown_new (grown_trans (grown_trans (World.grownBy.refl w16 _) (Ext.to_grown e64 _)) (Ext.to_grown e73 _)) ho75 g80 (by omega)) (fun w' x => Still.build st27 rfl rfl rfl (one_cons rfl (one_cons (Row.one (Own.row ho81)) one_nil)) rfl) ?_
      refine Gq.one 8 rfl (by kernel_rfl) ?_
      refine Sq.storeAgg agg27 .plain rfl rfl (one_cons rfl (one_cons rfl (one_cons (Row.one (Own.row ho81)) one_nil))) hB65 rfl rfl (fun w83 g84 hB85 => ?_)
      have hs86 := World.grownBy.size g84
      replace E := E.grown g84 (fun k hk => by injection hk with hk; subst hk; omega)
      replace hB4 := hB4.grown g84 (by intro h; injection h with h; omega)
      replace hB11 := hB11.grown g84 (by intro h; injection h with h; omega)
      replace ho81 := ho81.stored g84 hB65 (by decide)
      replace hB65 := hB85
      refine Sq.nil ?_
      refine Eq.goes (fun h => absurd h (by decide)) ?_
      refine Gq.done (by kernel_rfl) ?_
      refine Eq.left _ ⟨b62, v78, rfl, hB65, by omega, Own.mono ho81 (by omega), E, hB4, hB11⟩ (.cons rfl (.cons rfl (.cons rfl (.nil))))
  · rintro ls wc1 ⟨b3, ac3, rfl, hB3, hb3, hoc, E, hB4, hB11⟩
    have hs87 := Below.size E
    refine Eq.next ?_
    refine Cq.seq ?_
    refine Cq.seq ?_
    refine Cq.region ?_
    refine Sq.assign .plain rfl rfl ?_
    refine Sq.nil ?_
    refine Eq.next ?_
    refine Cq.block ?_
    refine Cq.loop (fun nn w ls => ∃ (k : Int), ∃ (v : Value), ls = [(1, Value.pointer (some ⟨b1, 0, none⟩)), (2, Value.pointer (some ⟨b8, 0, none⟩)), (3, Value.pointer (some ⟨b3, 0, none⟩)), (4, Value.int .i64 k)] ∧ (0 ≤ k ∧ k ≤ a.next.length) ∧ Blk w b3 27 [Value.int .i64 a.al, v, ac3] ∧ OwnRows w w0.heap.size w.heap.size 52 3 v (a.next.take k.toNat) ∧ Ext w0 w ∧ Blk w b1 27 [Value.int .i64 a.al, nx, ac] ∧ Blk w b8 27 [Value.int .i64 0, Value.slice none 0 0, Value.slice none 0 0] ∧ Own w w0.heap.size 4 ac3 (a.acc.map Value.bool) ∧ nn = ((a.next.length : Int) - k).toNat) _ _ ⟨0, _, rfl, by omega, hB3, OwnRows.nil _ _ _ _ _, E, hB4, hB11, hoc, rfl⟩ (.cons rfl (.cons rfl (.cons rfl (.cons rfl (.nil))))) ?_
    rintro nn wl1 ls ⟨k, v, rfl, hk, hB3, hor, E, hB4, hB11, hoc, rfl⟩
    have hs88 := Below.size E
    have hn := hf.2.1
    have hro := Fit.row hf (k := k.toNat)
    refine Cq.seq ?_
    refine Cq.seq ?_
    refine Cq.region ?_
    refine Sq.move .plain rfl rfl ?_
    refine Sq.fieldAddr fld27_1 .plain rfl rfl ?_
    refine Sq.loadB one22 .plain rfl rfl hB4 rfl ?_
    refine Sq.lenRows (hnx.ext E) .plain rfl und22 rfl ?_
    refine Sq.lss .plain rfl rfl rfl ?_
    refine Sq.part (fun c89 => ?_) (fun c89 => ?_)
    · refine Sq.nil ?_
      refine Eq.next ?_
      refine Cq.thn rfl ?_
      refine Cq.skip ?_
      refine Eq.next ?_
      refine Cq.seq ?_
      refine Cq.block ?_
      refine Cq.draw 11 (Value.ownBlock v) mixed (fun w90 e91 => ?_)
      have hs92 := Below.size e91
      replace E := E.trans e91
      replace hB4 := hB4.ext e91
      replace hB11 := hB11.ext e91
      replace hoc := hoc.ext e91
      replace hB3 := hB3.ext e91
      replace hor := hor.ext e91
      have E_w90 := E
      have hB4_w90 := hB4
      have hB11_w90 := hB11
      have hoc_w90 := hoc
      have hB3_w90 := hB3
      have hor_w90 := hor
      obtain ⟨_, hor_w90q, _, _⟩ := OwnRows.open hor_w90 (by decide)
      refine Gq.st 0 rfl (by kernel_rfl) rfl .plain rfl (fun _ _ _ h => h) (World.grownBy.refl w90 _) (fun w' x => Still.fieldAddr fld27_1 rfl) ?_
      refine Gq.st 1 rfl (by kernel_rfl) rfl .plain rfl (fun _ _ _ h => h) (World.grownBy.refl w90 _) (fun w' x => Still.loadB one22 rfl (hB3_w90.owned hor_w90q x (by decide)) rfl) ?_
      refine Gq.st 3 rfl (by kernel_rfl) rfl .plain rfl (fun _ _ _ h => h) (World.grownBy.refl w90 _) (fun w' x => Still.fieldAddr fld27_1 rfl) ?_
      refine Gq.st 4 rfl (by kernel_rfl) rfl .plain rfl (fun _ _ _ h => h) (World.grownBy.refl w90 _) (fun w' x => Still.loadB one22 rfl (hB4_w90.owned hor_w90q x (by decide)) rfl) ?_
      refine Gq.st 5 rfl (by kernel_rfl) rfl .plain rfl (fun _ _ _ h => h) (World.grownBy.refl w90 _) (fun w' x => Still.move rfl) ?_
      obtain ⟨p93, r95, hp94_w90, hr96⟩ := Rows.at hnx (i := k) (by omega) (by omega)
      refine Gq.st 6 rfl (by kernel_rfl) rfl .plain rfl (fun _ _ _ h => h) (World.grownBy.refl w90 _) (fun w' x => Still.at' sl22 hp94_w90 rfl rfl) ?_
      refine Gq.st 7 rfl (by kernel_rfl) rfl .plain rfl (fun _ _ _ h => h) (World.grownBy.refl w90 _) (fun w' x => Still.loadA one52 rfl (hp94_w90.ext (E_w90.owned hor_w90q x (by omega))).1) ?_
      refine Gq.one 2 rfl (by kernel_rfl) ?_
      refine Sq.lit sl52 rfl rfl .plain rfl rfl one_nil (fun b97 w98 e99 hlo100 ho101 _ => ?_)
      replace ho101 := ho101 w90.heap.size (Nat.le_refl _)
      have hs103 := Below.size e99
      replace E := E.trans e99
      replace hB4 := hB4.ext e99
      replace hB11 := hB11.ext e99
      replace hoc := hoc.ext e99
      replace hB3 := hB3.ext e99
      replace hor := hor.ext e99
      refine Sq.nil ?_
      refine Eq.goes (fun _ => (grown_trans (World.grownBy.refl w90 _) (Ext.to_grown e99 _))) ?_
      refine Gq.one 8 rfl (by kernel_rfl) ?_
      refine Sq.app sl52 ho101 (by omega) (hr96.ext E) (one_ints _) (by rw [List.length_map]; simp only [List.length_nil, Nat.zero_add]; first | (have := hf.acc; omega) | omega) .plain rfl rfl rfl rfl (fun v104 w105 ho107 g106 => ?_)
      have hs108 := g106.size
      replace E := E.owned ho101 g106 (by omega)
      replace hB4 := hB4.owned ho101 g106 (by decide)
      replace hB11 := hB11.owned ho101 g106 (by decide)
      replace hoc := hoc.owned ho101 g106 (by decide)
      replace hB3 := hB3.owned ho101 g106 (by decide)
      replace hor := hor.apart ho101 g106 (by omega) (by decide)
      simp only [List.nil_append] at ho107
      refine Sq.nil ?_
      refine Eq.goes (fun _ => (grown_new (grown_trans (World.grownBy.refl w90 _) (Ext.to_grown e99 _)) ho101 g106 (by omega))) ?_
      refine Gq.one 9 rfl (by kernel_rfl) ?_
      refine Sq.lit sl22 rfl rfl .plain rfl rfl (one_cons (Row.one (Own.row ho107)) one_nil) (fun b109 w110 e111 hlo112 ho113 _ => ?_)
      replace ho113 := ho113 w105.heap.size (Nat.le_refl _)
      have hs115 := Below.size e111
      replace E := E.trans e111
      replace hB4 := hB4.ext e111
      replace hB11 := hB11.ext e111
      replace hoc := hoc.ext e111
      replace hB3 := hB3.ext e111
      replace hor := hor.ext e111
      replace ho107 := ho107.ext e111
      refine Sq.nil ?_
      refine Eq.goes (fun _ => (grown_trans (grown_new (grown_trans (World.grownBy.refl w90 _) (Ext.to_grown e99 _)) ho101 g106 (by omega)) (Ext.to_grown e111 _))) ?_
      refine Gq.one 10 rfl (by kernel_rfl) ?_
      obtain ⟨rs120, q121, q122, q123⟩ := OwnRows.open hor (by decide)
      have q123x := Ext.refl w110
      refine Sq.app sl22 q121 (by omega) (Own.row ho113) (one_cons (Row.one (Own.row ho107)) one_nil) (by rw [q122]; simp; omega) .plain rfl rfl rfl rfl (fun v116 w117 ho119 g118 => ?_)
      have hs124 := g118.size
      have ho119r := q123 _ (a.next.getD k.toNat []) _ _ _ (Ext.refl _) (Own.mono ho107 (by omega)) (by omega) ho119 g118
      replace E := E.owned q121 g118 (by omega)
      replace hB4 := hB4.owned q121 g118 (by decide)
      replace hB11 := hB11.owned q121 g118 (by decide)
      replace hoc := hoc.owned q121 g118 (by decide)
      replace hB3 := hB3.owned q121 g118 (by decide)
      replace ho107 := ho107.owned q121 g118 (by decide)
      refine Sq.nil ?_
      refine Eq.goes (fun _ => (grown_trans (grown_trans (grown_new (grown_trans (World.grownBy.refl w90 _) (Ext.to_grown e99 _)) ho101 g106 (by omega)) (Ext.to_grown e111 _)) g118)) ?_
      refine Gq.one 11 rfl (by kernel_rfl) ?_
      refine Sq.fieldAddr fld27_1 .plain rfl rfl ?_
      refine Sq.nil ?_
      refine Eq.goes (fun h => absurd h (by decide)) ?_
      refine Gq.one 12 rfl (by kernel_rfl) ?_
      refine Sq.store one22 .plain rfl rfl (Rows.one (OwnRows.rows ho119r)) hB3 (by simp) (fun w125 g126 hB127 => ?_)
      have hs128 := World.grownBy.size g126
      replace E := E.grown g126 (fun k hk => by injection hk with hk; subst hk; omega)
      replace hB4 := hB4.grown g126 (by intro h; injection h with h; omega)
      replace hB11 := hB11.grown g126 (by intro h; injection h with h; omega)
      replace hoc := hoc.stored g126 hB3 (by decide)
      replace ho107 := ho107.stored g126 hB3 (by decide)
      replace ho119r := ho119r.stored g126 hB3 (by decide) (by decide)
      replace hB3 := hB127
      refine Sq.nil ?_
      refine Eq.goes (fun h => absurd h (by decide)) ?_
      refine Gq.done (by kernel_rfl) ?_
      refine Eq.end ?_
      refine Eq.next ?_
      refine Cq.region ?_
      refine Sq.move .plain rfl rfl ?_
      refine Sq.add .plain rfl rfl rfl (by omega) ?_
      refine Sq.assign .plain rfl rfl ?_
      refine Sq.nil ?_
      have e1 := toNat_succ hk.1
      refine Eq.round _ _ ⟨k + 1, _, rfl, by omega, hB3, by rw [e1, take_snoc [] (by omega)]; exact OwnRows.now ho119r, E, hB4, hB11, hoc, rfl⟩ (by omega) (.cons rfl (.cons rfl (.cons rfl (.cons rfl (.nil)))))
    · refine Sq.nil ?_
      refine Eq.next ?_
      refine Cq.els rfl ?_
      refine Cq.exit ?_
      refine Eq.past ?_
      refine Eq.past ?_
      refine Eq.hit ?_
      refine Eq.next ?_
      refine Cq.seq ?_
      refine Cq.region ?_
      refine Sq.loadAgg agg27 .plain rfl rfl hB3 rfl ?_
      refine Sq.storeAgg agg27 .plain rfl rfl (one_cons rfl (one_cons (Rows.one (OwnRows.rows hor)) (one_cons (Row.one (Own.row hoc)) one_nil))) hB11 rfl rfl (fun w129 g130 hB131 => ?_)
      have hs132 := World.grownBy.size g130
      replace E := E.grown g130 (fun k hk => by injection hk with hk; subst hk; omega)
      replace hB4 := hB4.grown g130 (by intro h; injection h with h; omega)
      replace hoc := hoc.stored g130 hB11 (by decide)
      replace hB3 := hB3.grown g130 (by intro h; injection h with h; omega)
      replace hor := hor.stored g130 hB11 (by decide) (by decide)
      replace hB11 := hB131
      refine Sq.nil ?_
      refine Eq.next ?_
      refine Cq.ret ?_
      refine Eq.retCell rfl rfl agg27 hB11 rfl ?_
      have e : a.next.take k.toNat = a.next := List.take_of_length_le (by omega)
      rw [e] at hor
      exact ⟨⟨v, ac3, rfl, OwnRows.now hor, hoc⟩, E⟩

end Go.Proofs.Ytdkdpmmfebdeaaa
