/-
  The texts of this proof, joined (wip/merge.py): the calculus of slots, plain mathematics, walks.
-/
import Derived.Test.YtnckpafknojdhaaGreatDoorGz3
set_option linter.unusedSimpArgs false
set_option linter.unusedVariables false
namespace Go.Proofs.YtnckpafknojdhaaGreatDoor
open Go.RowKit
set_option maxRecDepth 100000 in
theorem l3Wrong_c (w0 : World) (rb : Nat) (bv : Value) (p : Int) (bs : List UInt8) (e0 : TypeId) (hR : Blk w0 rb 73 [bv, .int .i64 p]) (hb : Src w0 e0 bv bs rb) (hbl : bs.length ≤ 2000) (hp : 0 ≤ p ∧ p ≤ 700000000) (a : A) (nx ac : Value) (hnx : Rows w0 36 3 nx a.next) (hac : Bools w0 4 ac a.acc) (N : Nat) (hN : N ≤ 1000) (hsm : Small N a) : Ret Tryz.prog 36 #[Value.pointer (some ⟨rb, 0, none⟩), Value.agg #[Value.int .i64 a.al, nx, ac]] w0 (fun v w => (∃ p', (p ≤ p' ∧ p' ≤ p + 10) ∧ Blk w rb 73 [bv, .int .i64 p'] ∧ w0.grownBy w (some rb)) ∧ ∃ a', RowsA w v a' ∧ Small (N + 20) a') := by
  have G := World.grownBy.refl w0 (some rb)
  have hlt := hR.lt
  have hsm1 := hsm.2.1
  have hsm2 := hsm.2.2.1
  refine Ret.of (args := [Value.pointer (some ⟨rb, 0, none⟩), Value.agg #[Value.int .i64 a.al, nx, ac]]) Tryz.func36 rfl rfl rfl ?_
  rintro _ rfl
  show Cq _ _ _ _ [(0, Value.pointer (some ⟨rb, 0, none⟩)), (1, Value.agg #[Value.int .i64 a.al, nx, ac])] _
  refine Cq.seq ?_
  refine Cq.region ?_
  refine Sq.box .plain rfl rfl (fun b1 w2 e3 hB4 hlo5 => ?_)
  have hd6 := Nat.lt_of_lt_of_le hR.lt hlo5
  have hd7 := Nat.le_trans (World.grownBy.size G) hlo5
  have hs8 := Below.size e3
  replace hR := hR.ext e3
  replace G := grown_trans G (Ext.to_grown e3 _)
  replace hnx := hnx.ext e3
  replace hac := hac.ext e3
  refine Sq.alloc zero26 .plain rfl (fun b9 w10 e11 hB12 hlo13 => ?_)
  have hd14 := Nat.lt_of_lt_of_le hR.lt hlo13
  have hd15 := Nat.le_trans (World.grownBy.size G) hlo13
  have hd16 := Nat.lt_of_lt_of_le hB4.lt hlo13
  have hs17 := Below.size e11
  replace hR := hR.ext e11
  replace G := grown_trans G (Ext.to_grown e11 _)
  replace hnx := hnx.ext e11
  replace hac := hac.ext e11
  replace hB4 := hB4.ext e11
  refine Sq.nil ?_
  refine Eq.next ?_
  refine Cq.seq ?_
  refine Cq.region ?_
  refine Sq.loadAgg agg26 .plain rfl rfl hB4 rfl ?_
  have hd25 := hR.lt
  have hd26 := hB4.lt
  have hd27 := hB12.lt
  refine Sq.call fn54 .plain rfl rfl (l3Copy_c _ a _ _ hnx hac (hsm.fit (by omega))) ?_
  rintro _ w19 ⟨⟨nx21, ac22, rfl, hn23, ha24⟩, e20⟩
  have hs28 := World.grownBy.size G
  have hs29 := Below.size e20
  replace hR := hR.ext e20
  replace G := grown_trans G (Ext.to_grown e20 _)
  replace hB4 := hB4.ext e20
  replace hB12 := hB12.ext e20
  refine Sq.alloc zero26 .plain rfl (fun b30 w31 e32 hB33 hlo34 => ?_)
  have hd35 := Nat.lt_of_lt_of_le hR.lt hlo34
  have hd36 := Nat.le_trans (World.grownBy.size G) hlo34
  have hd37 := Nat.lt_of_lt_of_le hB4.lt hlo34
  have hd38 := Nat.lt_of_lt_of_le hB12.lt hlo34
  have hs39 := Below.size e32
  replace hR := hR.ext e32
  replace G := grown_trans G (Ext.to_grown e32 _)
  replace hB12 := hB12.ext e32
  replace hn23 := hn23.ext e32
  replace ha24 := ha24.ext e32
  refine Sq.storeAgg agg26 .plain rfl rfl (one_cons rfl (one_cons (Rows.one (OwnRows.rows hn23)) (one_cons (Row.one (Own.row ha24)) one_nil))) hB33 rfl rfl (fun w40 g41 hB42 => ?_)
  have hs43 := World.grownBy.size g41
  replace hR := hR.grown g41 (by intro h; injection h with h; omega)
  replace G := grown_far G g41 (fun k hk => by injection hk with hk; subst hk; omega)
  replace hB12 := hB12.grown g41 (by intro h; injection h with h; omega)
  replace hn23 := hn23.stored g41 hB33 (by decide) (by decide)
  replace ha24 := ha24.stored g41 hB33 (by decide)
  replace hB33 := hB42
  refine Sq.nil ?_
  refine Eq.next ?_
  refine Cq.seq ?_
  refine Cq.region ?_
  refine Sq.fieldAddr fld26_1 .plain rfl rfl ?_
  refine Sq.loadB one23 .plain rfl rfl hB33 rfl ?_
  refine Sq.lenRows (OwnRows.rows hn23) .plain rfl und23 rfl ?_
  refine Sq.assign .plain rfl rfl ?_
  refine Sq.nil ?_
  refine Eq.next ?_
  refine Cq.seq ?_
  refine Cq.region ?_
  refine Sq.move .plain rfl rfl ?_
  refine Sq.move .plain rfl rfl ?_
  refine Sq.call fn31 .plain rfl rfl (pick_c _ _ _ _ _ _ hR (hb.go G) hbl (by omega) (List.length a.next : Int) (by omega)) ?_
  rintro _ w45 ⟨⟨p46, hp49, hB48, g47⟩, ⟨k50, rfl, hk51⟩⟩
  have hs52 := World.grownBy.size g47
  have hs53 := World.grownBy.size G
  have hs54 := World.grownBy.size g47
  replace G := grown_trans G g47
  replace hB12 := hB12.grown g47 (by intro h; injection h with h; omega)
  replace hn23 := hn23.stored g47 hR (by decide) (by decide)
  replace ha24 := ha24.stored g47 hR (by decide)
  replace hB33 := hB33.grown g47 (by intro h; injection h with h; omega)
  replace hR := hB48
  have hrowk := hsm.rowAt (k := k50.toNat)
  refine Sq.assign .plain rfl rfl ?_
  refine Sq.nil ?_
  refine Eq.next ?_
  refine Cq.seq ?_
  refine Cq.seq ?_
  refine Cq.region ?_
  refine Sq.move .plain rfl rfl ?_
  refine Sq.call fn31 .plain rfl rfl (pick_c _ _ _ _ _ _ hR (hb.go G) hbl (by omega) 30 (by omega)) ?_
  rintro _ w56 ⟨⟨p57, hp60, hB59, g58⟩, ⟨k61, rfl, hk62⟩⟩
  have hs63 := World.grownBy.size g58
  have hs64 := World.grownBy.size G
  have hs65 := World.grownBy.size g58
  replace G := grown_trans G g58
  replace hB12 := hB12.grown g58 (by intro h; injection h with h; omega)
  replace hn23 := hn23.stored g58 hR (by decide) (by decide)
  replace ha24 := ha24.stored g58 hR (by decide)
  replace hB33 := hB33.grown g58 (by intro h; injection h with h; omega)
  replace hR := hB59
  refine Sq.nil ?_
  refine Eq.next ?_
  refine Cq.block ?_
  refine Cq.seq ?_
  refine Cq.region ?_
  refine Sq.eql .plain rfl rfl rfl ?_
  refine Sq.part (fun c66 => ?_) (fun c66 => ?_)
  · refine Sq.assign .plain rfl rfl ?_
    refine Sq.nil ?_
    refine Eq.next ?_
    refine Cq.thn rfl ?_
    refine Cq.region ?_
    refine Sq.move .plain rfl rfl ?_
    refine Sq.lit sl36 rfl rfl .plain rfl rfl (one_cons rfl (one_cons rfl (one_cons rfl (one_cons rfl (one_cons rfl one_nil))))) (fun b67 w68 e69 hlo70 ho71 _ => ?_)
    replace ho71 := ho71 w56.heap.size (Nat.le_refl _)
    have hs73 := Below.size e69
    replace hR := hR.ext e69
    replace G := grown_trans G (Ext.to_grown e69 _)
    replace hB12 := hB12.ext e69
    replace hn23 := hn23.ext e69
    replace ha24 := ha24.ext e69
    replace hB33 := hB33.ext e69
    refine Sq.call fn52 .plain rfl rfl (num_c _ _ _ _ _ _ hR (hb.go G) hbl (by omega) _ [64, -1, 1, 63, 0] (Own.row ho71) (by simp)) ?_
    rintro _ w75 ⟨⟨p76, hp79, hB78, g77⟩, ⟨k80, rfl, hm81⟩⟩
    have hs82 := World.grownBy.size g77
    have hs83 := World.grownBy.size G
    have hs84 := World.grownBy.size g77
    replace G := grown_trans G g77
    replace hB12 := hB12.grown g77 (by intro h; injection h with h; omega)
    replace hn23 := hn23.stored g77 hR (by decide) (by decide)
    replace ha24 := ha24.stored g77 hR (by decide)
    replace hB33 := hB33.grown g77 (by intro h; injection h with h; omega)
    replace hR := hB78
    simp only [List.mem_cons, List.not_mem_nil, or_false] at hm81
    refine Sq.fieldAddr fld26_0 .plain rfl rfl ?_
    refine Sq.store one3 .plain rfl rfl rfl hB33 (by simp) (fun w85 g86 hB87 => ?_)
    have hs88 := World.grownBy.size g86
    replace hR := hR.grown g86 (by intro h; injection h with h; omega)
    replace G := grown_far G g86 (fun k hk => by injection hk with hk; subst hk; omega)
    replace hB12 := hB12.grown g86 (by intro h; injection h with h; omega)
    replace hn23 := hn23.stored g86 hB33 (by decide) (by decide)
    replace ha24 := ha24.stored g86 hB33 (by decide)
    replace hB33 := hB87
    refine Sq.nil ?_
    refine Eq.end ?_
    refine Eq.next ?_
    refine Cq.seq ?_
    refine Cq.region ?_
    refine Sq.loadAgg agg26 .plain rfl rfl hB33 rfl ?_
    refine Sq.storeAgg agg26 .plain rfl rfl (one_cons rfl (one_cons (Rows.one (OwnRows.rows hn23)) (one_cons (Row.one (Own.row ha24)) one_nil))) hB12 rfl rfl (fun w89 g90 hB91 => ?_)
    have hs92 := World.grownBy.size g90
    replace hR := hR.grown g90 (by intro h; injection h with h; omega)
    replace G := grown_far G g90 (fun k hk => by injection hk with hk; subst hk; omega)
    replace hn23 := hn23.stored g90 hB12 (by decide) (by decide)
    replace ha24 := ha24.stored g90 hB12 (by decide)
    replace hB12 := hB91
    refine Sq.nil ?_
    refine Eq.next ?_
    refine Cq.ret ?_
    refine Eq.retCell rfl rfl agg26 hB12 rfl ?_
    exact ⟨⟨_, by omega, hR, G⟩, ⟨k80, a.next, a.acc⟩, ⟨_, _, rfl, (OwnRows.rows hn23), (Own.row ha24)⟩, hsm.same (by omega) (by omega)⟩
  refine Sq.assign .plain rfl rfl ?_
  refine Sq.nil ?_
  refine Eq.next ?_
  refine Cq.els rfl ?_
  refine Cq.seq ?_
  refine Cq.region ?_
  refine Sq.eql .plain rfl rfl rfl ?_
  refine Sq.part (fun c93 => ?_) (fun c93 => ?_)
  · refine Sq.assign .plain rfl rfl ?_
    refine Sq.nil ?_
    refine Eq.next ?_
    refine Cq.thn rfl ?_
    refine Cq.region ?_
    refine Sq.fieldAddr fld26_2 .plain rfl rfl ?_
    refine Sq.loadB one24 .plain rfl rfl hB33 rfl ?_
    refine Sq.app1 sl24 ha24 (by omega) (by first | omega | (simp; omega)) .plain rfl rfl rfl rfl rfl rfl rfl (fun v94 w95 ho97 g96 _ => ?_)
    have hs98 := g96.size
    replace hR := hR.owned ha24 g96 (by decide)
    replace G := grown_new G ha24 g96 (by omega)
    replace hB12 := hB12.owned ha24 g96 (by decide)
    replace hn23 := hn23.owned ha24 g96 (by decide) (by decide)
    replace hB33 := hB33.owned ha24 g96 (by decide)
    refine Sq.fieldAddr fld26_2 .plain rfl rfl ?_
    refine Sq.store one24 .plain rfl rfl (Row.one (Own.row ho97)) hB33 (by simp) (fun w99 g100 hB101 => ?_)
    have hs102 := World.grownBy.size g100
    replace hR := hR.grown g100 (by intro h; injection h with h; omega)
    replace G := grown_far G g100 (fun k hk => by injection hk with hk; subst hk; omega)
    replace hB12 := hB12.grown g100 (by intro h; injection h with h; omega)
    replace hn23 := hn23.stored g100 hB33 (by decide) (by decide)
    replace ho97 := ho97.stored g100 hB33 (by decide)
    replace hB33 := hB101
    refine Sq.nil ?_
    refine Eq.end ?_
    refine Eq.next ?_
    refine Cq.seq ?_
    refine Cq.region ?_
    refine Sq.loadAgg agg26 .plain rfl rfl hB33 rfl ?_
    refine Sq.storeAgg agg26 .plain rfl rfl (one_cons rfl (one_cons (Rows.one (OwnRows.rows hn23)) (one_cons (Row.one (Own.row ho97)) one_nil))) hB12 rfl rfl (fun w103 g104 hB105 => ?_)
    have hs106 := World.grownBy.size g104
    replace hR := hR.grown g104 (by intro h; injection h with h; omega)
    replace G := grown_far G g104 (fun k hk => by injection hk with hk; subst hk; omega)
    replace hn23 := hn23.stored g104 hB12 (by decide) (by decide)
    replace ho97 := ho97.stored g104 hB12 (by decide)
    replace hB12 := hB105
    refine Sq.nil ?_
    refine Eq.next ?_
    refine Cq.ret ?_
    refine Eq.retCell rfl rfl agg26 hB12 rfl ?_
    exact ⟨⟨_, by omega, hR, G⟩, ⟨a.al, a.next, a.acc ++ [true]⟩, ⟨_, _, rfl, (OwnRows.rows hn23), (Own.row (Own.snocB ho97))⟩, hsm.push (by omega)⟩
  refine Sq.assign .plain rfl rfl ?_
  refine Sq.nil ?_
  refine Eq.next ?_
  refine Cq.els rfl ?_
  refine Cq.seq ?_
  refine Cq.region ?_
  refine Sq.eql .plain rfl rfl rfl ?_
  refine Sq.part (fun c107 => ?_) (fun c107 => ?_)
  · refine Sq.assign .plain rfl rfl ?_
    refine Sq.nil ?_
    refine Eq.next ?_
    refine Cq.thn rfl ?_
    refine Cq.seq ?_
    refine Cq.region ?_
    refine Sq.move .plain rfl rfl ?_
    refine Sq.gtr .plain rfl rfl rfl ?_
    refine Sq.part (fun c108 => ?_) (fun c108 => ?_)
    · refine Sq.nil ?_
      refine Eq.next ?_
      refine Cq.thn rfl ?_
      obtain ⟨pA, rA, hpA, _⟩ := Rows.at (OwnRows.rows hn23) (i := k50) (by omega) (by omega)
      have hrA := (OwnRows.rowAt hn23 hpA).1
      obtain ⟨_, hoA, _, _⟩ := OwnRows.open hn23 (by decide)
      have hpAo := AtO.of hoA hpA
      refine Cq.drawS 10 (fun w' => Blk w' b30 26 [Value.int .i64 a.al, nx21, ac22] ∧ At w' 36 nx21 k50 pA rA) mixed (⟨hB33, hpA⟩) (fun w109 e110 hS => ?_)
      clear hS
      have hs111 := Below.size e110
      replace hR := hR.ext e110
      replace G := grown_trans G (Ext.to_grown e110 _)
      replace hB12 := hB12.ext e110
      replace hn23 := hn23.ext e110
      replace ha24 := ha24.ext e110
      replace hB33 := hB33.ext e110
      replace hpA := hpA.ext e110
      replace hrA := hrA.ext e110
      refine Gq.st 0 rfl (by kernel_rfl) rfl .plain rfl (fun _ _ _ h => h) ⟨hB33, hpA⟩ (fun w' x => Still.fieldAddr fld26_1 rfl) ?_
      refine Gq.st 1 rfl (by kernel_rfl) rfl .plain rfl (fun _ _ _ h => h) ⟨hB33, hpA⟩ (fun w' x => Still.loadB one23 rfl x.1 rfl) ?_
      refine Gq.st 2 rfl (by kernel_rfl) rfl .plain rfl (fun _ _ _ h => h) ⟨hB33, hpA⟩ (fun w' x => Still.move rfl) ?_
      refine Gq.st 3 rfl (by kernel_rfl) rfl .plain rfl (fun _ _ _ h => h) ⟨hB33, hpA⟩ (fun w' x => Still.fieldAddr fld26_1 rfl) ?_
      refine Gq.st 4 rfl (by kernel_rfl) rfl .plain rfl (fun _ _ _ h => h) ⟨hB33, hpA⟩ (fun w' x => Still.loadB one23 rfl x.1 rfl) ?_
      refine Gq.st 5 rfl (by kernel_rfl) rfl .plain rfl (fun _ _ _ h => h) ⟨hB33, hpA⟩ (fun w' x => Still.move rfl) ?_
      refine Gq.st 6 rfl (by kernel_rfl) rfl .plain rfl (fun _ _ _ h => h) ⟨hB33, hpA⟩ (fun w' x => Still.at' sl23 hpA rfl rfl) ?_
      refine Gq.st 7 rfl (by kernel_rfl) rfl .plain rfl (fun _ _ _ h => h) ⟨hB33, hpA⟩ (fun w' x => Still.loadA one36 rfl (x.2).1) ?_
      refine Gq.one 8 rfl (by kernel_rfl) ?_
      refine Sq.lit sl36 rfl rfl .plain rfl rfl (one_cons rfl one_nil) (fun b112 w113 e114 hlo115 ho116 _ => ?_)
      replace ho116 := ho116 w109.heap.size (Nat.le_refl _)
      have hs118 := Below.size e114
      replace hR := hR.ext e114
      replace G := grown_trans G (Ext.to_grown e114 _)
      replace hB12 := hB12.ext e114
      replace hn23 := hn23.ext e114
      replace ha24 := ha24.ext e114
      replace hB33 := hB33.ext e114
      replace hpA := hpA.ext e114
      replace hrA := hrA.ext e114
      refine Sq.nil ?_
      refine Eq.goes (fun _ => ⟨hB33, hpA⟩) ?_
      refine Gq.one 9 rfl (by kernel_rfl) ?_
      refine Sq.app sl36 hrA (by omega) (Own.row ho116) (one_cons rfl one_nil) (by simp only [List.length_map, List.length_cons, List.length_nil]; omega) .plain rfl rfl rfl rfl (fun v119 w120 ho121 g122 => ?_)
      obtain ⟨rsA, hoB, hswap⟩ := OwnRows.swap hn23 (by decide) hpA (Own.snocI ho121) g122
      replace hR := hR.owned hrA g122 (by decide)
      replace G := grown_new G hrA g122 (by omega)
      replace hB12 := hB12.owned hrA g122 (by decide)
      replace ha24 := ha24.owned hrA g122 (by decide)
      replace hB33 := hB33.owned hrA g122 (by decide)
      replace hpA := hpA.owned hrA g122 (by decide)
      refine Sq.nil ?_
      refine Eq.goes (fun _ => ⟨hB33, hpA⟩) ?_
      refine Gq.one 10 rfl (by kernel_rfl) ?_
      refine Sq.val .plain rfl rfl (Still.at' sl23 hpA rfl rfl) ?_
      refine Sq.nil ?_
      refine Eq.goes (fun h => absurd h (by decide)) ?_
      refine Gq.one 11 rfl (by kernel_rfl) ?_
      refine Sq.storeO one36 hoB hpAo .plain rfl rfl (Row.one (Own.row ho121)) (fun w123 g124 ho125 => ?_)
      have hnA := hswap _ g124 ho125
      replace hR := hR.owned hoB g124 (by decide)
      replace G := grown_new G hoB g124 (by omega)
      replace hB12 := hB12.owned hoB g124 (by decide)
      replace ha24 := ha24.owned hoB g124 (by decide)
      replace hB33 := hB33.owned hoB g124 (by decide)
      refine Sq.nil ?_
      refine Eq.goes (fun h => absurd h (by decide)) ?_
      refine Gq.done (by kernel_rfl) ?_
      refine Eq.end ?_
      refine Eq.next ?_
      refine Cq.seq ?_
      refine Cq.region ?_
      refine Sq.loadAgg agg26 .plain rfl rfl hB33 rfl ?_
      refine Sq.storeAgg agg26 .plain rfl rfl (one_cons rfl (one_cons (Rows.one hnA) (one_cons (Row.one (Own.row ha24)) one_nil))) hB12 rfl rfl (fun w126 g127 hB128 => ?_)
      have hs129 := World.grownBy.size g127
      replace hR := hR.grown g127 (by intro h; injection h with h; omega)
      replace G := grown_far G g127 (fun k hk => by injection hk with hk; subst hk; omega)
      replace ha24 := ha24.stored g127 hB12 (by decide)
      replace hnA := hnA.stored g127 hB12 (by decide) (by decide)
      replace hB12 := hB128
      refine Sq.nil ?_
      refine Eq.next ?_
      refine Cq.ret ?_
      refine Eq.retCell rfl rfl agg26 hB12 rfl ?_
      exact ⟨⟨_, by omega, hR, G⟩, ⟨a.al, (a.next.set k50.toNat (a.next.getD k50.toNat [] ++ [0])), a.acc⟩, ⟨_, _, rfl, hnA, (Own.row ha24)⟩, hsm.row (by omega) (by have := hsm.rowAt (k := k50.toNat); simp only [List.length_append, List.length_cons, List.length_nil]; omega)⟩
    refine Sq.nil ?_
    refine Eq.next ?_
    refine Cq.els rfl ?_
    refine Cq.skip ?_
    refine Eq.end ?_
    refine Eq.next ?_
    refine Cq.seq ?_
    refine Cq.region ?_
    refine Sq.loadAgg agg26 .plain rfl rfl hB33 rfl ?_
    refine Sq.storeAgg agg26 .plain rfl rfl (one_cons rfl (one_cons (Rows.one (OwnRows.rows hn23)) (one_cons (Row.one (Own.row ha24)) one_nil))) hB12 rfl rfl (fun w130 g131 hB132 => ?_)
    have hs133 := World.grownBy.size g131
    replace hR := hR.grown g131 (by intro h; injection h with h; omega)
    replace G := grown_far G g131 (fun k hk => by injection hk with hk; subst hk; omega)
    replace hn23 := hn23.stored g131 hB12 (by decide) (by decide)
    replace ha24 := ha24.stored g131 hB12 (by decide)
    replace hB12 := hB132
    refine Sq.nil ?_
    refine Eq.next ?_
    refine Cq.ret ?_
    refine Eq.retCell rfl rfl agg26 hB12 rfl ?_
    exact ⟨⟨_, by omega, hR, G⟩, a, ⟨_, _, rfl, (OwnRows.rows hn23), (Own.row ha24)⟩, hsm.mono (by omega)⟩
  refine Sq.assign .plain rfl rfl ?_
  refine Sq.nil ?_
  refine Eq.next ?_
  refine Cq.els rfl ?_
  refine Cq.seq ?_
  refine Cq.region ?_
  refine Sq.eql .plain rfl rfl rfl ?_
  refine Sq.part (fun c134 => ?_) (fun c134 => ?_)
  · refine Sq.assign .plain rfl rfl ?_
    refine Sq.nil ?_
    refine Eq.next ?_
    refine Cq.thn rfl ?_
    refine Cq.seq ?_
    refine Cq.region ?_
    refine Sq.move .plain rfl rfl ?_
    refine Sq.gtr .plain rfl rfl rfl ?_
    refine Sq.part (fun c135 => ?_) (fun c135 => ?_)
    · refine Sq.move .plain rfl rfl ?_
      refine Sq.fieldAddr fld26_1 (.met rfl rfl rfl) rfl rfl ?_
      refine Sq.loadB one23 (.met rfl rfl rfl) rfl rfl hB33 rfl ?_
      refine Sq.move (.met rfl rfl rfl) rfl rfl ?_
      refine Sq.idxRows sl23 one36 (OwnRows.rows hn23) (.met rfl rfl rfl) rfl rfl rfl (.met rfl rfl rfl) rfl rfl (by omega) (by omega) (fun r136 hr137 => ?_)
      refine Sq.lenInts hr137 (.met rfl rfl rfl) rfl und36 rfl ?_
      refine Sq.gtr (.met rfl rfl rfl) rfl rfl rfl ?_
      refine Sq.part (fun c138 => ?_) (fun c138 => ?_)
      · refine Sq.pickT .plain rfl rfl rfl ?_
        refine Sq.nil ?_
        refine Eq.next ?_
        refine Cq.thn rfl ?_
        refine Cq.seq ?_
        refine Cq.region ?_
        refine Sq.move .plain rfl rfl ?_
        refine Sq.fieldAddr fld26_1 .plain rfl rfl ?_
        refine Sq.loadB one23 .plain rfl rfl hB33 rfl ?_
        refine Sq.move .plain rfl rfl ?_
        refine Sq.idxRows sl23 one36 (OwnRows.rows hn23) .plain rfl rfl rfl .plain rfl rfl (by omega) (by omega) (fun r139 hr140 => ?_)
        refine Sq.lenInts hr140 .plain rfl und36 rfl ?_
        refine Sq.call fn31 .plain rfl rfl (pick_c _ _ _ _ _ _ hR (hb.go G) hbl (by omega) ((List.length (a.next.getD k50.toNat []) : Int)) (by omega)) ?_
        rintro _ w142 ⟨⟨p143, hp146, hB145, g144⟩, ⟨k147, rfl, hk148⟩⟩
        have hs149 := World.grownBy.size g144
        have hs150 := World.grownBy.size G
        have hs151 := World.grownBy.size g144
        replace G := grown_trans G g144
        replace hB12 := hB12.grown g144 (by intro h; injection h with h; omega)
        replace hn23 := hn23.stored g144 hR (by decide) (by decide)
        replace ha24 := ha24.stored g144 hR (by decide)
        replace hB33 := hB33.grown g144 (by intro h; injection h with h; omega)
        replace hR := hB145
        refine Sq.assign .plain rfl rfl ?_
        refine Sq.nil ?_
        refine Eq.next ?_
        obtain ⟨pA, rA, hpA, _⟩ := Rows.at (OwnRows.rows hn23) (i := k50) (by omega) (by omega)
        have hrA := (OwnRows.rowAt hn23 hpA).1
        obtain ⟨_, hoA, _, _⟩ := OwnRows.open hn23 (by decide)
        have hpAo := AtO.of hoA hpA
        obtain ⟨pJ, hpJo⟩ := Own.at hrA (i := k147) (by omega) (by rw [List.length_map]; omega)
        refine Cq.drawS 12 (fun w' => Blk w' b30 26 [Value.int .i64 a.al, nx21, ac22] ∧ At w' 36 nx21 k50 pA rA) mixed (⟨hB33, hpA⟩) (fun w152 e153 hS => ?_)
        clear hS
        have hs154 := Below.size e153
        replace hR := hR.ext e153
        replace G := grown_trans G (Ext.to_grown e153 _)
        replace hB12 := hB12.ext e153
        replace hn23 := hn23.ext e153
        replace ha24 := ha24.ext e153
        replace hB33 := hB33.ext e153
        replace hpA := hpA.ext e153
        replace hrA := hrA.ext e153
        refine Gq.st 0 rfl (by kernel_rfl) rfl .plain rfl (fun _ _ _ h => h) ⟨hB33, hpA⟩ (fun w' x => Still.fieldAddr fld26_1 rfl) ?_
        refine Gq.st 1 rfl (by kernel_rfl) rfl .plain rfl (fun _ _ _ h => h) ⟨hB33, hpA⟩ (fun w' x => Still.loadB one23 rfl x.1 rfl) ?_
        refine Gq.st 2 rfl (by kernel_rfl) rfl .plain rfl (fun _ _ _ h => h) ⟨hB33, hpA⟩ (fun w' x => Still.move rfl) ?_
        refine Gq.st 3 rfl (by kernel_rfl) rfl .plain rfl (fun _ _ _ h => h) ⟨hB33, hpA⟩ (fun w' x => Still.at' sl23 hpA rfl rfl) ?_
        refine Gq.st 4 rfl (by kernel_rfl) rfl .plain rfl (fun _ _ _ h => h) ⟨hB33, hpA⟩ (fun w' x => Still.loadA one36 rfl (x.2).1) ?_
        refine Gq.st 5 rfl (by kernel_rfl) rfl .plain rfl (fun _ _ _ h => h) ⟨hB33, hpA⟩ (fun w' x => Still.move rfl) ?_
        refine Gq.st 6 rfl (by kernel_rfl) rfl .plain rfl (fun _ _ _ h => h) ⟨hB33, hpA⟩ (fun w' x => Still.move rfl) ?_
        refine Gq.st 7 rfl (by kernel_rfl) rfl .plain rfl (fun _ _ _ h => h) ⟨hB33, hpA⟩ (fun w' x => Still.move rfl) ?_
        refine Gq.st 8 rfl (by kernel_rfl) rfl .plain rfl (fun _ _ _ h => h) ⟨hB33, hpA⟩ (fun w' x => Still.move rfl) ?_
        refine Gq.st 9 rfl (by kernel_rfl) rfl .plain rfl (fun _ _ _ h => h) ⟨hB33, hpA⟩ (fun w' x => Still.sub rfl rfl (by omega)) ?_
        refine Gq.one 10 rfl (by kernel_rfl) ?_
        refine Sq.lit sl36 rfl rfl .plain rfl rfl (one_cons rfl (one_cons rfl (one_cons rfl (one_cons rfl one_nil)))) (fun b155 w156 e157 hlo158 ho159 _ => ?_)
        replace ho159 := ho159 w152.heap.size (Nat.le_refl _)
        have hs161 := Below.size e157
        replace hR := hR.ext e157
        replace G := grown_trans G (Ext.to_grown e157 _)
        replace hB12 := hB12.ext e157
        replace hn23 := hn23.ext e157
        replace ha24 := ha24.ext e157
        replace hB33 := hB33.ext e157
        replace hpA := hpA.ext e157
        replace hrA := hrA.ext e157
        refine Sq.nil ?_
        refine Eq.goes (fun _ => ⟨hB33, hpA⟩) ?_
        refine Gq.one 11 rfl (by kernel_rfl) ?_
        refine Sq.call fn52 .plain rfl rfl (num_c _ _ _ _ _ _ hR (hb.go G) hbl (by omega) _ [-1, (List.length a.next : Int), (List.length a.next : Int) - 1, 0] (Own.row ho159) (by simp)) ?_
        rintro _ w163 ⟨⟨p164, hp167, hB166, g165⟩, ⟨k168, rfl, hm169⟩⟩
        have hs170 := World.grownBy.size g165
        have hs171 := World.grownBy.size G
        have hs172 := World.grownBy.size g165
        replace G := grown_trans G g165
        replace hB12 := hB12.grown g165 (by intro h; injection h with h; omega)
        replace hn23 := hn23.stored g165 hR (by decide) (by decide)
        replace ha24 := ha24.stored g165 hR (by decide)
        replace hB33 := hB33.grown g165 (by intro h; injection h with h; omega)
        replace hpA := hpA.stored g165 hR (by decide)
        replace hrA := hrA.stored g165 hR (by decide)
        replace hR := hB166
        simp only [List.mem_cons, List.not_mem_nil, or_false] at hm169
        refine Sq.nil ?_
        refine Eq.goes (fun _ => ⟨hB33, hpA⟩) ?_
        refine Gq.one 12 rfl (by kernel_rfl) ?_
        refine Sq.atO sl36 hpJo .plain rfl rfl rfl ?_
        refine Sq.nil ?_
        refine Eq.goes (fun h => absurd h (by decide)) ?_
        refine Gq.one 13 rfl (by kernel_rfl) ?_
        refine Sq.storeO one3 hrA hpJo .plain rfl rfl rfl (fun w173 g174 ho175 => ?_)
        have hs176 := World.grownBy.size g174
        rw [← List.map_set] at ho175
        replace hn23 := (OwnRows.set hn23 (by decide) hpA ho175 g174).1
        replace hR := hR.owned hrA g174 (by decide)
        replace G := grown_new G hrA g174 (by omega)
        replace hB12 := hB12.owned hrA g174 (by decide)
        replace ha24 := ha24.owned hrA g174 (by decide)
        replace hB33 := hB33.owned hrA g174 (by decide)
        refine Sq.nil ?_
        refine Eq.goes (fun h => absurd h (by decide)) ?_
        refine Gq.done (by kernel_rfl) ?_
        refine Eq.end ?_
        refine Eq.next ?_
        refine Cq.seq ?_
        refine Cq.region ?_
        refine Sq.loadAgg agg26 .plain rfl rfl hB33 rfl ?_
        refine Sq.storeAgg agg26 .plain rfl rfl (one_cons rfl (one_cons (Rows.one (OwnRows.rows hn23)) (one_cons (Row.one (Own.row ha24)) one_nil))) hB12 rfl rfl (fun w177 g178 hB179 => ?_)
        have hs180 := World.grownBy.size g178
        replace hR := hR.grown g178 (by intro h; injection h with h; omega)
        replace G := grown_far G g178 (fun k hk => by injection hk with hk; subst hk; omega)
        replace hn23 := hn23.stored g178 hB12 (by decide) (by decide)
        replace ha24 := ha24.stored g178 hB12 (by decide)
        replace hB12 := hB179
        refine Sq.nil ?_
        refine Eq.next ?_
        refine Cq.ret ?_
        refine Eq.retCell rfl rfl agg26 hB12 rfl ?_
        exact ⟨⟨_, by omega, hR, G⟩, ⟨a.al, a.next.set k50.toNat ((a.next.getD k50.toNat []).set k147.toNat k168), a.acc⟩, ⟨_, _, rfl, (OwnRows.rows hn23), (Own.row ha24)⟩, hsm.row (by omega) (by have := hsm.rowAt (k := k50.toNat); rw [List.length_set]; omega)⟩
      refine Sq.pickT .plain rfl rfl rfl ?_
      refine Sq.nil ?_
      refine Eq.next ?_
      refine Cq.els rfl ?_
      refine Cq.skip ?_
      refine Eq.end ?_
      refine Eq.next ?_
      refine Cq.seq ?_
      refine Cq.region ?_
      refine Sq.loadAgg agg26 .plain rfl rfl hB33 rfl ?_
      refine Sq.storeAgg agg26 .plain rfl rfl (one_cons rfl (one_cons (Rows.one (OwnRows.rows hn23)) (one_cons (Row.one (Own.row ha24)) one_nil))) hB12 rfl rfl (fun w181 g182 hB183 => ?_)
      have hs184 := World.grownBy.size g182
      replace hR := hR.grown g182 (by intro h; injection h with h; omega)
      replace G := grown_far G g182 (fun k hk => by injection hk with hk; subst hk; omega)
      replace hn23 := hn23.stored g182 hB12 (by decide) (by decide)
      replace ha24 := ha24.stored g182 hB12 (by decide)
      replace hB12 := hB183
      refine Sq.nil ?_
      refine Eq.next ?_
      refine Cq.ret ?_
      refine Eq.retCell rfl rfl agg26 hB12 rfl ?_
      exact ⟨⟨_, by omega, hR, G⟩, a, ⟨_, _, rfl, (OwnRows.rows hn23), (Own.row ha24)⟩, hsm.mono (by omega)⟩
    refine Sq.move .plain rfl rfl ?_
    refine Sq.off rfl rfl rfl rfl rfl rfl ?_
    refine Sq.off rfl rfl rfl rfl rfl rfl ?_
    refine Sq.off rfl rfl rfl rfl rfl rfl ?_
    refine Sq.off rfl rfl rfl rfl rfl rfl ?_
    refine Sq.off rfl rfl rfl rfl rfl rfl ?_
    refine Sq.off rfl rfl rfl rfl rfl rfl ?_
    refine Sq.off rfl rfl rfl rfl rfl rfl ?_
    refine Sq.pickF .plain rfl rfl rfl ?_
    refine Sq.nil ?_
    refine Eq.next ?_
    refine Cq.els rfl ?_
    refine Cq.skip ?_
    refine Eq.end ?_
    refine Eq.next ?_
    refine Cq.seq ?_
    refine Cq.region ?_
    refine Sq.loadAgg agg26 .plain rfl rfl hB33 rfl ?_
    refine Sq.storeAgg agg26 .plain rfl rfl (one_cons rfl (one_cons (Rows.one (OwnRows.rows hn23)) (one_cons (Row.one (Own.row ha24)) one_nil))) hB12 rfl rfl (fun w185 g186 hB187 => ?_)
    have hs188 := World.grownBy.size g186
    replace hR := hR.grown g186 (by intro h; injection h with h; omega)
    replace G := grown_far G g186 (fun k hk => by injection hk with hk; subst hk; omega)
    replace hn23 := hn23.stored g186 hB12 (by decide) (by decide)
    replace ha24 := ha24.stored g186 hB12 (by decide)
    replace hB12 := hB187
    refine Sq.nil ?_
    refine Eq.next ?_
    refine Cq.ret ?_
    refine Eq.retCell rfl rfl agg26 hB12 rfl ?_
    exact ⟨⟨_, by omega, hR, G⟩, a, ⟨_, _, rfl, (OwnRows.rows hn23), (Own.row ha24)⟩, hsm.mono (by omega)⟩
  refine Sq.assign .plain rfl rfl ?_
  refine Sq.nil ?_
  refine Eq.next ?_
  refine Cq.els rfl ?_
  refine Cq.seq ?_
  refine Cq.region ?_
  refine Sq.eql .plain rfl rfl rfl ?_
  refine Sq.part (fun c189 => ?_) (fun c189 => ?_)
  · refine Sq.assign .plain rfl rfl ?_
    refine Sq.nil ?_
    refine Eq.next ?_
    refine Cq.thn rfl ?_
    refine Cq.seq ?_
    refine Cq.region ?_
    refine Sq.lit sl23 rfl rfl .plain rfl rfl one_nil (fun b190 w191 e192 hlo193 ho194 _ => ?_)
    replace ho194 := ho194 w56.heap.size (Nat.le_refl _)
    have hs196 := Below.size e192
    replace hR := hR.ext e192
    replace G := grown_trans G (Ext.to_grown e192 _)
    replace hB12 := hB12.ext e192
    replace hB33 := hB33.ext e192
    replace ho194 : OwnRows _ _ 0 36 3 _ [] := OwnRows.none ho194
    refine Sq.fieldAddr fld26_1 .plain rfl rfl ?_
    refine Sq.store one23 .plain rfl rfl (Rows.one (OwnRows.rows ho194)) hB33 (by simp) (fun w197 g198 hB199 => ?_)
    have hs200 := World.grownBy.size g198
    replace hR := hR.grown g198 (by intro h; injection h with h; omega)
    replace G := grown_far G g198 (fun k hk => by injection hk with hk; subst hk; omega)
    replace hB12 := hB12.grown g198 (by intro h; injection h with h; omega)
    replace ho194 := ho194.stored g198 hB33 (by decide) (by decide)
    replace hB33 := hB199
    refine Sq.nil ?_
    refine Eq.next ?_
    refine Cq.region ?_
    refine Sq.lit sl24 rfl rfl .plain rfl rfl one_nil (fun b201 w202 e203 hlo204 ho205 _ => ?_)
    replace ho205 := ho205 w197.heap.size (Nat.le_refl _)
    have hs207 := Below.size e203
    replace hR := hR.ext e203
    replace G := grown_trans G (Ext.to_grown e203 _)
    replace hB12 := hB12.ext e203
    replace hB33 := hB33.ext e203
    replace ho194 := ho194.ext e203
    refine Sq.fieldAddr fld26_2 .plain rfl rfl ?_
    refine Sq.store one24 .plain rfl rfl (Row.one (Own.row ho205)) hB33 (by simp) (fun w208 g209 hB210 => ?_)
    have hs211 := World.grownBy.size g209
    replace hR := hR.grown g209 (by intro h; injection h with h; omega)
    replace G := grown_far G g209 (fun k hk => by injection hk with hk; subst hk; omega)
    replace hB12 := hB12.grown g209 (by intro h; injection h with h; omega)
    replace ho194 := ho194.stored g209 hB33 (by decide) (by decide)
    replace ho205 := ho205.stored g209 hB33 (by decide)
    replace hB33 := hB210
    refine Sq.nil ?_
    refine Eq.end ?_
    refine Eq.next ?_
    refine Cq.seq ?_
    refine Cq.region ?_
    refine Sq.loadAgg agg26 .plain rfl rfl hB33 rfl ?_
    refine Sq.storeAgg agg26 .plain rfl rfl (one_cons rfl (one_cons (Rows.one (OwnRows.rows ho194)) (one_cons (Row.one (Own.row ho205)) one_nil))) hB12 rfl rfl (fun w212 g213 hB214 => ?_)
    have hs215 := World.grownBy.size g213
    replace hR := hR.grown g213 (by intro h; injection h with h; omega)
    replace G := grown_far G g213 (fun k hk => by injection hk with hk; subst hk; omega)
    replace ho194 := ho194.stored g213 hB12 (by decide) (by decide)
    replace ho205 := ho205.stored g213 hB12 (by decide)
    replace hB12 := hB214
    refine Sq.nil ?_
    refine Eq.next ?_
    refine Cq.ret ?_
    refine Eq.retCell rfl rfl agg26 hB12 rfl ?_
    exact ⟨⟨_, by omega, hR, G⟩, ⟨a.al, [], []⟩, ⟨_, _, rfl, (OwnRows.rows ho194), (Own.row ho205)⟩, ⟨hsm.1, by simp, by simp, by simp⟩⟩
  refine Sq.assign .plain rfl rfl ?_
  refine Sq.nil ?_
  refine Eq.next ?_
  refine Cq.els rfl ?_
  refine Cq.seq ?_
  refine Cq.region ?_
  refine Sq.eql .plain rfl rfl rfl ?_
  refine Sq.part (fun c216 => ?_) (fun c216 => ?_)
  · refine Sq.assign .plain rfl rfl ?_
    refine Sq.nil ?_
    refine Eq.next ?_
    refine Cq.thn rfl ?_
    refine Cq.block ?_
    refine Cq.loop (fun nn w ls => ∃ (nxv : Value), ∃ (acv : Value), ∃ (xss : List (List Int)), ∃ (ys : List Bool), ls = [(0, Value.pointer (some ⟨rb, 0, none⟩)), (4, Value.pointer (some ⟨b9, 0, none⟩)), (5, Value.pointer (some ⟨b30, 0, none⟩)), (6, Value.int .i64 (List.length a.next : Int)), (7, Value.int .i64 k50), (18, Value.int .i64 k61), (19, Value.bool false), (25, Value.bool false), (32, Value.bool false), (47, Value.bool false), (81, Value.bool false), (87, Value.bool true)] ∧ Blk w b30 26 [Value.int .i64 a.al, nxv, acv] ∧ OwnRows w w0.heap.size w.heap.size 36 3 nxv xss ∧ Own w w0.heap.size 4 acv (ys.map Value.bool) ∧ (a.next.length ≤ xss.length ∧ xss.length ≤ a.next.length + 13 ∧ ys.length + a.next.length = a.acc.length + xss.length) ∧ (∀ row ∈ xss, row.length ≤ N) ∧ World.grownBy w0 w (some rb) ∧ Blk w rb 73 [bv, Value.int .i64 p57] ∧ Blk w b9 26 [Value.int .i64 0, Value.slice none 0 0, Value.slice none 0 0] ∧ nn = (13 - xss.length)) _ _ ⟨_, _, _, _, rfl, hB33, OwnRows.mono (OwnRows.now hn23) (by omega), Own.mono ha24 (by omega), by have := hsm.2; omega, hsm.2.2.2, G, hR, hB12, rfl⟩ (.cons rfl (.cons rfl (.cons rfl (.cons rfl (.cons rfl (.cons rfl (.cons rfl (.cons rfl (.cons rfl (.cons rfl (.cons rfl (.cons rfl (.nil))))))))))))) ?_
    rintro nn wl1 ls ⟨nxv, acv, xss, ys, rfl, hB7, hor, hoa, hll, hall, G, hR, hB12, rfl⟩
    have hs217 := World.grownBy.size G
    have hx0 := all_row hall (k := (0 : Int).toNat)
    refine Cq.seq ?_
    refine Cq.seq ?_
    refine Cq.region ?_
    refine Sq.move .plain rfl rfl ?_
    refine Sq.gtr .plain rfl rfl rfl ?_
    refine Sq.part (fun c218 => ?_) (fun c218 => ?_)
    · refine Sq.move .plain rfl rfl ?_
      refine Sq.fieldAddr fld26_1 (.met rfl rfl rfl) rfl rfl ?_
      refine Sq.loadB one23 (.met rfl rfl rfl) rfl rfl hB7 rfl ?_
      refine Sq.lenRows (OwnRows.rows hor) (.met rfl rfl rfl) rfl und23 rfl ?_
      refine Sq.leq (.met rfl rfl rfl) rfl rfl rfl ?_
      refine Sq.part (fun c219 => ?_) (fun c219 => ?_)
      · refine Sq.pickT .plain rfl rfl rfl ?_
        refine Sq.nil ?_
        refine Eq.next ?_
        refine Cq.thn rfl ?_
        refine Cq.skip ?_
        refine Eq.next ?_
        refine Cq.block ?_
        refine Cq.seq ?_
        obtain ⟨pA, rA, hpA, _⟩ := Rows.at (OwnRows.rows hor) (i := 0) (by omega) (by simp; omega)
        have hrA := (OwnRows.rowAt hor hpA).1
        refine Cq.drawS 10 (fun w' => Blk w' b30 26 [Value.int .i64 a.al, nxv, acv]) mixed (hB7) (fun w220 e221 hS => ?_)
        clear hS
        have hs222 := Below.size e221
        replace G := grown_trans G (Ext.to_grown e221 _)
        replace hR := hR.ext e221
        replace hB12 := hB12.ext e221
        replace hB7 := hB7.ext e221
        replace hor := hor.ext e221
        replace hoa := hoa.ext e221
        replace hpA := hpA.ext e221
        replace hrA := hrA.ext e221
        refine Gq.st 0 rfl (by kernel_rfl) rfl .plain rfl (fun _ _ _ h => h) hB7 (fun w' x => Still.fieldAddr fld26_1 rfl) ?_
        refine Gq.st 1 rfl (by kernel_rfl) rfl .plain rfl (fun _ _ _ h => h) hB7 (fun w' x => Still.loadB one23 rfl x rfl) ?_
        refine Gq.st 3 rfl (by kernel_rfl) rfl .plain rfl (fun _ _ _ h => h) hB7 (fun w' x => Still.fieldAddr fld26_1 rfl) ?_
        refine Gq.st 4 rfl (by kernel_rfl) rfl .plain rfl (fun _ _ _ h => h) hB7 (fun w' x => Still.loadB one23 rfl x rfl) ?_
        refine Gq.st 5 rfl (by kernel_rfl) rfl .plain rfl (fun _ _ _ h => h) hB7 (fun w' x => Still.at' sl23 hpA rfl rfl) ?_
        refine Gq.two 2 6 rfl rfl (by kernel_rfl) ?_ ?_
        · refine Sq.lit sl36 rfl rfl .plain rfl rfl one_nil (fun b223 w224 e225 hlo226 ho227 _ => ?_)
          replace ho227 := ho227 w220.heap.size (Nat.le_refl _)
          have hs229 := Below.size e225
          replace G := grown_trans G (Ext.to_grown e225 _)
          replace hR := hR.ext e225
          replace hB12 := hB12.ext e225
          replace hB7 := hB7.ext e225
          replace hor := hor.ext e225
          replace hoa := hoa.ext e225
          replace hpA := hpA.ext e225
          replace hrA := hrA.ext e225
          refine Sq.nil ?_
          refine Eq.goes (fun _ => hB7) ?_
          refine Gq.one 6 rfl (by kernel_rfl) ?_
          refine Sq.val .plain rfl rfl (Still.loadA one36 rfl hpA.1) ?_
          refine Sq.nil ?_
          refine Eq.goes (fun _ => hB7) ?_
          refine Gq.one 7 rfl (by kernel_rfl) ?_
          refine Sq.app sl36 ho227 (by omega) (Own.row hrA) (one_ints _) (by rw [List.length_map]; simp only [List.length_nil, Nat.zero_add]; omega) .plain rfl rfl rfl rfl (fun v230 w231 ho233 g232 => ?_)
          have hs234 := g232.size
          replace G := grown_new G ho227 g232 (by omega)
          replace hR := hR.owned ho227 g232 (by decide)
          replace hB12 := hB12.owned ho227 g232 (by decide)
          replace hB7 := hB7.owned ho227 g232 (by decide)
          replace hor := hor.apart ho227 g232 (by omega) (by decide)
          replace hoa := hoa.owned ho227 g232 (by decide)
          simp only [List.nil_append] at ho233
          refine Sq.nil ?_
          refine Eq.goes (fun _ => hB7) ?_
          refine Gq.one 8 rfl (by kernel_rfl) ?_
          refine Sq.lit sl23 rfl rfl .plain rfl rfl (one_cons (Row.one (Own.row ho233)) one_nil) (fun b235 w236 e237 hlo238 ho239 _ => ?_)
          replace ho239 := ho239 w231.heap.size (Nat.le_refl _)
          have hs241 := Below.size e237
          replace G := grown_trans G (Ext.to_grown e237 _)
          replace hR := hR.ext e237
          replace hB12 := hB12.ext e237
          replace hB7 := hB7.ext e237
          replace hor := hor.ext e237
          replace hoa := hoa.ext e237
          replace ho233 := ho233.ext e237
          refine Sq.nil ?_
          refine Eq.goes (fun _ => hB7) ?_
          refine Gq.one 9 rfl (by kernel_rfl) ?_
          obtain ⟨rs246, q247, q248, q249⟩ := OwnRows.open hor (by decide)
          have q249x := Ext.refl w236
          refine Sq.app sl23 q247 (by omega) (Own.row ho239) (one_cons (Row.one (Own.row ho233)) one_nil) (by rw [q248]; first | omega | (simp; omega)) .plain rfl rfl rfl rfl (fun v242 w243 ho245 g244 => ?_)
          have hs250 := g244.size
          have ho245r := q249 _ ((xss.getD (0 : Int).toNat [])) _ _ _ (Ext.refl _) (Own.mono ho233 (by omega)) (by omega) ho245 g244
          replace G := grown_new G q247 g244 (by omega)
          replace hR := hR.owned q247 g244 (by decide)
          replace hB12 := hB12.owned q247 g244 (by decide)
          replace hB7 := hB7.owned q247 g244 (by decide)
          replace hoa := hoa.owned q247 g244 (by decide)
          refine Sq.nil ?_
          refine Eq.goes (fun _ => hB7) ?_
          refine Gq.one 10 rfl (by kernel_rfl) ?_
          refine Sq.fieldAddr fld26_1 .plain rfl rfl ?_
          refine Sq.nil ?_
          refine Eq.goes (fun h => absurd h (by decide)) ?_
          refine Gq.one 11 rfl (by kernel_rfl) ?_
          refine Sq.store one23 .plain rfl rfl (Rows.one (OwnRows.rows ho245r)) hB7 (by simp) (fun w251 g252 hB253 => ?_)
          have hs254 := World.grownBy.size g252
          replace G := grown_far G g252 (fun k hk => by injection hk with hk; subst hk; omega)
          replace hR := hR.grown g252 (by intro h; injection h with h; omega)
          replace hB12 := hB12.grown g252 (by intro h; injection h with h; omega)
          replace hoa := hoa.stored g252 hB7 (by decide)
          replace ho245r := ho245r.stored g252 hB7 (by decide) (by decide)
          replace hB7 := hB253
          refine Sq.nil ?_
          refine Eq.goes (fun h => absurd h (by decide)) ?_
          refine Gq.done (by kernel_rfl) ?_
          refine Eq.next ?_
          refine Cq.region ?_
          refine Sq.fieldAddr fld26_2 .plain rfl rfl ?_
          refine Sq.loadB one24 .plain rfl rfl hB7 rfl ?_
          refine Sq.app1 sl24 hoa (by omega) (by first | omega | (simp; omega)) .plain rfl rfl rfl rfl rfl rfl rfl (fun v255 w256 ho258 g257 _ => ?_)
          have hs259 := g257.size
          replace G := grown_new G hoa g257 (by omega)
          replace hR := hR.owned hoa g257 (by decide)
          replace hB12 := hB12.owned hoa g257 (by decide)
          replace hB7 := hB7.owned hoa g257 (by decide)
          replace ho245r := ho245r.owned hoa g257 (by decide) (by decide)
          refine Sq.fieldAddr fld26_2 .plain rfl rfl ?_
          refine Sq.store one24 .plain rfl rfl (Row.one (Own.row ho258)) hB7 (by simp) (fun w260 g261 hB262 => ?_)
          have hs263 := World.grownBy.size g261
          replace G := grown_far G g261 (fun k hk => by injection hk with hk; subst hk; omega)
          replace hR := hR.grown g261 (by intro h; injection h with h; omega)
          replace hB12 := hB12.grown g261 (by intro h; injection h with h; omega)
          replace ho245r := ho245r.stored g261 hB7 (by decide) (by decide)
          replace ho258 := ho258.stored g261 hB7 (by decide)
          replace hB7 := hB262
          refine Sq.nil ?_
          refine Eq.end ?_
          refine Eq.round _ _ ⟨_, _, _, _, rfl, hB7, OwnRows.now ho245r, Own.snocB ho258, by simp; omega, all_app hall (by omega), G, hR, hB12, rfl⟩ (by simp; omega) (.cons rfl (.cons rfl (.cons rfl (.cons rfl (.cons rfl (.cons rfl (.cons rfl (.cons rfl (.cons rfl (.cons rfl (.cons rfl (.cons rfl (.nil)))))))))))))
        refine Sq.val .plain rfl rfl (Still.loadA one36 rfl hpA.1) ?_
        refine Sq.nil ?_
        refine Eq.goes (fun _ => hB7) ?_
        refine Gq.one 2 rfl (by kernel_rfl) ?_
        refine Sq.lit sl36 rfl rfl .plain rfl rfl one_nil (fun b264 w265 e266 hlo267 ho268 _ => ?_)
        replace ho268 := ho268 w220.heap.size (Nat.le_refl _)
        have hs270 := Below.size e266
        replace G := grown_trans G (Ext.to_grown e266 _)
        replace hR := hR.ext e266
        replace hB12 := hB12.ext e266
        replace hB7 := hB7.ext e266
        replace hor := hor.ext e266
        replace hoa := hoa.ext e266
        replace hrA := hrA.ext e266
        refine Sq.nil ?_
        refine Eq.goes (fun _ => hB7) ?_
        refine Gq.one 7 rfl (by kernel_rfl) ?_
        refine Sq.app sl36 ho268 (by omega) (Own.row hrA) (one_ints _) (by rw [List.length_map]; simp only [List.length_nil, Nat.zero_add]; omega) .plain rfl rfl rfl rfl (fun v271 w272 ho274 g273 => ?_)
        have hs275 := g273.size
        replace G := grown_new G ho268 g273 (by omega)
        replace hR := hR.owned ho268 g273 (by decide)
        replace hB12 := hB12.owned ho268 g273 (by decide)
        replace hB7 := hB7.owned ho268 g273 (by decide)
        replace hor := hor.apart ho268 g273 (by omega) (by decide)
        replace hoa := hoa.owned ho268 g273 (by decide)
        simp only [List.nil_append] at ho274
        refine Sq.nil ?_
        refine Eq.goes (fun _ => hB7) ?_
        refine Gq.one 8 rfl (by kernel_rfl) ?_
        refine Sq.lit sl23 rfl rfl .plain rfl rfl (one_cons (Row.one (Own.row ho274)) one_nil) (fun b276 w277 e278 hlo279 ho280 _ => ?_)
        replace ho280 := ho280 w272.heap.size (Nat.le_refl _)
        have hs282 := Below.size e278
        replace G := grown_trans G (Ext.to_grown e278 _)
        replace hR := hR.ext e278
        replace hB12 := hB12.ext e278
        replace hB7 := hB7.ext e278
        replace hor := hor.ext e278
        replace hoa := hoa.ext e278
        replace ho274 := ho274.ext e278
        refine Sq.nil ?_
        refine Eq.goes (fun _ => hB7) ?_
        refine Gq.one 9 rfl (by kernel_rfl) ?_
        obtain ⟨rs287, q288, q289, q290⟩ := OwnRows.open hor (by decide)
        have q290x := Ext.refl w277
        refine Sq.app sl23 q288 (by omega) (Own.row ho280) (one_cons (Row.one (Own.row ho274)) one_nil) (by rw [q289]; first | omega | (simp; omega)) .plain rfl rfl rfl rfl (fun v283 w284 ho286 g285 => ?_)
        have hs291 := g285.size
        have ho286r := q290 _ ((xss.getD (0 : Int).toNat [])) _ _ _ (Ext.refl _) (Own.mono ho274 (by omega)) (by omega) ho286 g285
        replace G := grown_new G q288 g285 (by omega)
        replace hR := hR.owned q288 g285 (by decide)
        replace hB12 := hB12.owned q288 g285 (by decide)
        replace hB7 := hB7.owned q288 g285 (by decide)
        replace hoa := hoa.owned q288 g285 (by decide)
        refine Sq.nil ?_
        refine Eq.goes (fun _ => hB7) ?_
        refine Gq.one 10 rfl (by kernel_rfl) ?_
        refine Sq.fieldAddr fld26_1 .plain rfl rfl ?_
        refine Sq.nil ?_
        refine Eq.goes (fun h => absurd h (by decide)) ?_
        refine Gq.one 11 rfl (by kernel_rfl) ?_
        refine Sq.store one23 .plain rfl rfl (Rows.one (OwnRows.rows ho286r)) hB7 (by simp) (fun w292 g293 hB294 => ?_)
        have hs295 := World.grownBy.size g293
        replace G := grown_far G g293 (fun k hk => by injection hk with hk; subst hk; omega)
        replace hR := hR.grown g293 (by intro h; injection h with h; omega)
        replace hB12 := hB12.grown g293 (by intro h; injection h with h; omega)
        replace hoa := hoa.stored g293 hB7 (by decide)
        replace ho286r := ho286r.stored g293 hB7 (by decide) (by decide)
        replace hB7 := hB294
        refine Sq.nil ?_
        refine Eq.goes (fun h => absurd h (by decide)) ?_
        refine Gq.done (by kernel_rfl) ?_
        refine Eq.next ?_
        refine Cq.region ?_
        refine Sq.fieldAddr fld26_2 .plain rfl rfl ?_
        refine Sq.loadB one24 .plain rfl rfl hB7 rfl ?_
        refine Sq.app1 sl24 hoa (by omega) (by first | omega | (simp; omega)) .plain rfl rfl rfl rfl rfl rfl rfl (fun v296 w297 ho299 g298 _ => ?_)
        have hs300 := g298.size
        replace G := grown_new G hoa g298 (by omega)
        replace hR := hR.owned hoa g298 (by decide)
        replace hB12 := hB12.owned hoa g298 (by decide)
        replace hB7 := hB7.owned hoa g298 (by decide)
        replace ho286r := ho286r.owned hoa g298 (by decide) (by decide)
        refine Sq.fieldAddr fld26_2 .plain rfl rfl ?_
        refine Sq.store one24 .plain rfl rfl (Row.one (Own.row ho299)) hB7 (by simp) (fun w301 g302 hB303 => ?_)
        have hs304 := World.grownBy.size g302
        replace G := grown_far G g302 (fun k hk => by injection hk with hk; subst hk; omega)
        replace hR := hR.grown g302 (by intro h; injection h with h; omega)
        replace hB12 := hB12.grown g302 (by intro h; injection h with h; omega)
        replace ho286r := ho286r.stored g302 hB7 (by decide) (by decide)
        replace ho299 := ho299.stored g302 hB7 (by decide)
        replace hB7 := hB303
        refine Sq.nil ?_
        refine Eq.end ?_
        refine Eq.round _ _ ⟨_, _, _, _, rfl, hB7, OwnRows.now ho286r, Own.snocB ho299, by simp; omega, all_app hall (by omega), G, hR, hB12, rfl⟩ (by simp; omega) (.cons rfl (.cons rfl (.cons rfl (.cons rfl (.cons rfl (.cons rfl (.cons rfl (.cons rfl (.cons rfl (.cons rfl (.cons rfl (.cons rfl (.nil)))))))))))))
      refine Sq.pickT .plain rfl rfl rfl ?_
      refine Sq.nil ?_
      refine Eq.next ?_
      refine Cq.els rfl ?_
      refine Cq.exit ?_
      refine Eq.past ?_
      refine Eq.past ?_
      refine Eq.hit ?_
      refine Eq.end ?_
      refine Eq.next ?_
      refine Cq.seq ?_
      refine Cq.region ?_
      refine Sq.loadAgg agg26 .plain rfl rfl hB7 rfl ?_
      refine Sq.storeAgg agg26 .plain rfl rfl (one_cons rfl (one_cons (Rows.one (OwnRows.rows hor)) (one_cons (Row.one (Own.row hoa)) one_nil))) hB12 rfl rfl (fun w305 g306 hB307 => ?_)
      have hs308 := World.grownBy.size g306
      replace G := grown_far G g306 (fun k hk => by injection hk with hk; subst hk; omega)
      replace hR := hR.grown g306 (by intro h; injection h with h; omega)
      replace hor := hor.stored g306 hB12 (by decide) (by decide)
      replace hoa := hoa.stored g306 hB12 (by decide)
      replace hB12 := hB307
      refine Sq.nil ?_
      refine Eq.next ?_
      refine Cq.ret ?_
      refine Eq.retCell rfl rfl agg26 hB12 rfl ?_
      exact ⟨⟨_, by omega, hR, G⟩, ⟨a.al, xss, ys⟩, ⟨_, _, rfl, (OwnRows.rows hor), (Own.row hoa)⟩, ⟨hsm.1, by show xss.length ≤ _; omega, by show ys.length ≤ _; omega, fun row hr => by have := hall row hr; omega⟩⟩
    refine Sq.move .plain rfl rfl ?_
    refine Sq.off rfl rfl rfl rfl rfl rfl ?_
    refine Sq.off rfl rfl rfl rfl rfl rfl ?_
    refine Sq.off rfl rfl rfl rfl rfl rfl ?_
    refine Sq.off rfl rfl rfl rfl rfl rfl ?_
    refine Sq.pickF .plain rfl rfl rfl ?_
    refine Sq.nil ?_
    refine Eq.next ?_
    refine Cq.els rfl ?_
    refine Cq.exit ?_
    refine Eq.past ?_
    refine Eq.past ?_
    refine Eq.hit ?_
    refine Eq.end ?_
    refine Eq.next ?_
    refine Cq.seq ?_
    refine Cq.region ?_
    refine Sq.loadAgg agg26 .plain rfl rfl hB7 rfl ?_
    refine Sq.storeAgg agg26 .plain rfl rfl (one_cons rfl (one_cons (Rows.one (OwnRows.rows hor)) (one_cons (Row.one (Own.row hoa)) one_nil))) hB12 rfl rfl (fun w309 g310 hB311 => ?_)
    have hs312 := World.grownBy.size g310
    replace G := grown_far G g310 (fun k hk => by injection hk with hk; subst hk; omega)
    replace hR := hR.grown g310 (by intro h; injection h with h; omega)
    replace hor := hor.stored g310 hB12 (by decide) (by decide)
    replace hoa := hoa.stored g310 hB12 (by decide)
    replace hB12 := hB311
    refine Sq.nil ?_
    refine Eq.next ?_
    refine Cq.ret ?_
    refine Eq.retCell rfl rfl agg26 hB12 rfl ?_
    exact ⟨⟨_, by omega, hR, G⟩, ⟨a.al, xss, ys⟩, ⟨_, _, rfl, (OwnRows.rows hor), (Own.row hoa)⟩, ⟨hsm.1, by show xss.length ≤ _; omega, by show ys.length ≤ _; omega, fun row hr => by have := hall row hr; omega⟩⟩
  refine Sq.assign .plain rfl rfl ?_
  refine Sq.nil ?_
  refine Eq.next ?_
  refine Cq.els rfl ?_
  refine Cq.skip ?_
  refine Eq.end ?_
  refine Eq.next ?_
  refine Cq.seq ?_
  refine Cq.region ?_
  refine Sq.loadAgg agg26 .plain rfl rfl hB33 rfl ?_
  refine Sq.storeAgg agg26 .plain rfl rfl (one_cons rfl (one_cons (Rows.one (OwnRows.rows hn23)) (one_cons (Row.one (Own.row ha24)) one_nil))) hB12 rfl rfl (fun w313 g314 hB315 => ?_)
  have hs316 := World.grownBy.size g314
  replace hR := hR.grown g314 (by intro h; injection h with h; omega)
  replace G := grown_far G g314 (fun k hk => by injection hk with hk; subst hk; omega)
  replace hn23 := hn23.stored g314 hB12 (by decide) (by decide)
  replace ha24 := ha24.stored g314 hB12 (by decide)
  replace hB12 := hB315
  refine Sq.nil ?_
  refine Eq.next ?_
  refine Cq.ret ?_
  refine Eq.retCell rfl rfl agg26 hB12 rfl ?_
  exact ⟨⟨_, by omega, hR, G⟩, a, ⟨_, _, rfl, (OwnRows.rows hn23), (Own.row ha24)⟩, hsm.mono (by omega)⟩
end Go.Proofs.YtnckpafknojdhaaGreatDoor
set_option linter.unusedSimpArgs false
set_option linter.unusedVariables false
namespace Go.Proofs.YtnckpafknojdhaaGreatDoor
open Go.RowKit
set_option maxRecDepth 100000 in
theorem parseA_c (s : ByteArray) (hs : s.size ≤ 100) (w0 : World) : Ret Tryz.prog 12 #[Value.string s] w0 (fun v w => (∃ (u : Value) (ok : Bool) (a : A), v = .tuple #[u, .bool ok] ∧ OwnA w w0.heap.size u a ∧ Small 200 a ∧ 0 ≤ a.al ∧ a.al ≤ 63) ∧ Ext w0 w) := by
  have E := Ext.refl w0
  refine Ret.of (args := [Value.string s]) Tryz.func12 rfl rfl rfl ?_
  rintro _ rfl
  show Cq _ _ _ _ [(0, Value.string s)] _
  refine Cq.seq ?_
  refine Cq.region ?_
  refine Sq.alloc zero26 .plain rfl (fun b1 w2 e3 hB4 hlo5 => ?_)
  have hd6 := Nat.le_trans (Below.size E) hlo5
  have hs7 := Below.size e3
  replace E := E.trans e3
  refine Sq.assign .plain rfl rfl ?_
  refine Sq.nil ?_
  refine Eq.next ?_
  refine Cq.seq ?_
  refine Cq.region ?_
  refine Sq.move .plain rfl rfl ?_
  have hd15 := hB4.lt
  refine Sq.call fn33 .plain rfl rfl (cut_c s 32 (by omega) _) ?_
  rintro v8 w9 ⟨⟨xs11, ho12, hxl13, hxs14⟩, e10⟩
  have hs16 := Below.size E
  have hs17 := Below.size e10
  replace E := E.trans e10
  replace hB4 := hB4.ext e10
  refine Sq.assign .plain rfl rfl ?_
  refine Sq.nil ?_
  refine Eq.next ?_
  refine Cq.seq ?_
  refine Cq.region ?_
  refine Sq.move .plain rfl rfl ?_
  refine Sq.idxStrs sl37 one9 (Own.row ho12) .plain rfl rfl rfl .plain rfl rfl (by omega) (by omega) ?_
  have hd24 := hB4.lt
  refine Sq.call fn34 .plain rfl rfl (parseAl_c ((xs11.getD (0 : Int).toNat ByteArray.empty)) _) ?_
  rintro _ w19 ⟨⟨n21, ok22, rfl, hn23⟩, e20⟩
  have hs25 := Below.size E
  have hs26 := Below.size e20
  replace E := E.trans e20
  replace hB4 := hB4.ext e20
  replace ho12 := ho12.ext e20
  refine Sq.move .plain rfl rfl ?_
  refine Sq.extract .plain rfl rfl rfl ?_
  refine Sq.extract .plain rfl rfl rfl ?_
  refine Sq.assign .plain rfl rfl ?_
  refine Sq.assign .plain rfl rfl ?_
  refine Sq.nil ?_
  refine Eq.next ?_
  refine Cq.seq ?_
  refine Cq.seq ?_
  refine Cq.region ?_
  refine Sq.move .plain rfl rfl ?_
  refine Sq.partB (fun c27 => ?_) (fun c27 => ?_)
  · refine Sq.notT .plain rfl rfl ?_
    refine Sq.nil ?_
    refine Eq.next ?_
    refine Cq.els rfl ?_
    refine Cq.skip ?_
    refine Eq.next ?_
    refine Cq.seq ?_
    refine Cq.region ?_
    refine Sq.move .plain rfl rfl ?_
    refine Sq.build st26 rfl rfl .plain rfl rfl (one_cons rfl one_nil) rfl ?_
    refine Sq.alloc zero26 .plain rfl (fun b28 w29 e30 hB31 hlo32 => ?_)
    have hd33 := Nat.le_trans (Below.size E) hlo32
    have hd34 := Nat.lt_of_lt_of_le hB4.lt hlo32
    have hs35 := Below.size e30
    replace E := E.trans e30
    replace hB4 := hB4.ext e30
    replace ho12 := ho12.ext e30
    refine Sq.storeAgg agg26 .plain rfl rfl (one_cons rfl (one_cons rfl (one_cons rfl one_nil))) hB31 rfl rfl (fun w36 g37 hB38 => ?_)
    have hs39 := World.grownBy.size g37
    replace E := E.grown g37 (fun k hk => by injection hk with hk; subst hk; omega)
    replace hB4 := hB4.grown g37 (by intro h; injection h with h; omega)
    replace ho12 := ho12.stored g37 hB31 (by decide)
    replace hB31 := hB38
    refine Sq.nil ?_
    refine Eq.next ?_
    refine Cq.seq ?_
    refine Cq.seq ?_
    refine Cq.region ?_
    refine Sq.assign .plain rfl rfl ?_
    refine Sq.nil ?_
    refine Eq.next ?_
    refine Cq.block ?_
    refine Cq.loop (fun nn w ls => ∃ (i : Int), ∃ (nxv : Value), ∃ (acv : Value), ∃ (xss : List (List Int)), ∃ (ys : List Bool), ls = [(0, Value.string s), (2, Value.pointer (some ⟨b1, 0, none⟩)), (4, v8), (7, Value.pointer (some ⟨b28, 0, none⟩)), (8, Value.int .i64 i)] ∧ (1 ≤ i ∧ i ≤ xs11.length) ∧ Blk w b28 26 [Value.int .i64 n21, nxv, acv] ∧ OwnRows w w0.heap.size w.heap.size 36 3 nxv xss ∧ Own w w0.heap.size 4 acv (ys.map Value.bool) ∧ ((xss.length : Int) = i - 1 ∧ (ys.length : Int) = i - 1 ∧ ∀ row ∈ xss, row.length ≤ 150) ∧ Ext w0 w ∧ Blk w b1 26 [Value.int .i64 0, Value.slice none 0 0, Value.slice none 0 0] ∧ Own w w2.heap.size 9 v8 (xs11.map Value.string) ∧ nn = ((xs11.length : Int) - i).toNat) _ _ ⟨1, _, _, [], [], rfl, by omega, hB31, OwnRows.nil _ _ _ _ _, Own.nil _ _ _, by simp, E, hB4, ho12, rfl⟩ (.cons rfl (.cons rfl (.cons rfl (.cons rfl (.cons rfl (.nil)))))) ?_
    rintro nn wl1 ls ⟨i, nxv, acv, xss, ys, rfl, hi, hB7, hor, hoa, hxl, E, hB4, ho12, rfl⟩
    have hs40 := Below.size E
    refine Cq.seq ?_
    refine Cq.seq ?_
    refine Cq.region ?_
    refine Sq.move .plain rfl rfl ?_
    refine Sq.move .plain rfl rfl ?_
    refine Sq.lenStrs (Own.row ho12) .plain rfl und37 rfl ?_
    refine Sq.lss .plain rfl rfl rfl ?_
    refine Sq.part (fun c41 => ?_) (fun c41 => ?_)
    · refine Sq.nil ?_
      refine Eq.next ?_
      refine Cq.thn rfl ?_
      refine Cq.skip ?_
      refine Eq.next ?_
      refine Cq.seq ?_
      refine Cq.block ?_
      refine Cq.seq ?_
      refine Cq.seq ?_
      refine Cq.region ?_
      refine Sq.move .plain rfl rfl ?_
      refine Sq.move .plain rfl rfl ?_
      refine Sq.idxStrs sl37 one9 (Own.row ho12) .plain rfl rfl rfl .plain rfl rfl (by omega) (by omega) ?_
      refine Sq.eqlS .plain rfl rfl rfl ?_
      refine Sq.part (fun hne => ?_) (fun hne => ?_)
      · refine Sq.nil ?_
        refine Eq.next ?_
        refine Cq.thn rfl ?_
        refine Cq.seq ?_
        refine Cq.region ?_
        refine Sq.build st26 rfl rfl .plain rfl rfl one_nil rfl ?_
        refine Sq.storeAgg agg26 .plain rfl rfl (one_cons rfl (one_cons rfl (one_cons rfl one_nil))) hB4 rfl rfl (fun w42 g43 hB44 => ?_)
        have hs45 := World.grownBy.size g43
        replace E := E.grown g43 (fun k hk => by injection hk with hk; subst hk; omega)
        replace hB4 := hB44
        refine Sq.assign .plain rfl rfl ?_
        refine Sq.nil ?_
        refine Eq.next ?_
        refine Cq.ret ?_
        refine Eq.pastRet ?_
        refine Eq.outRet ?_
        refine Eq.pastRet ?_
        refine Eq.pastRet ?_
        refine Eq.outRet ?_
        refine Eq.pastRet ?_
        refine Eq.retCell2 rfl rfl agg26 hB4 rfl rfl ?_
        exact ⟨⟨_, _, zeroA, rfl, ⟨_, _, rfl, OwnRows.nil _ _ _ _ _, Own.nil _ _ _⟩, by refine ⟨?_, ?_, ?_, ?_⟩ <;> simp [zeroA], by simp [zeroA]⟩, E⟩
      refine Sq.nil ?_
      refine Eq.next ?_
      refine Cq.els rfl ?_
      refine Cq.skip ?_
      refine Eq.next ?_
      refine Cq.seq ?_
      refine Cq.region ?_
      have hne1 := str_ne hne
      have hps := hxs14 _ (getD_mem (d := ByteArray.empty) (k := i.toNat) (by omega))
      have hcl : ((xs11.getD i.toNat ByteArray.empty).extract (1 : Int).toNat (xs11.getD i.toNat ByteArray.empty).size).size ≤ 100 := Nat.le_trans (size_cut _) (by omega)
      refine Sq.move .plain rfl rfl ?_
      refine Sq.move .plain rfl rfl ?_
      refine Sq.idxStrs sl37 one9 (Own.row ho12) .plain rfl rfl rfl .plain rfl rfl (by omega) (by omega) ?_
      refine Sq.val .plain rfl rfl (Still.cutL und9 rfl rfl (by omega)) ?_
      have hd54 := hB4.lt
      have hd55 := hB7.lt
      refine Sq.call fn35 .plain rfl rfl (l3Parse_c (((xs11.getD i.toNat ByteArray.empty).extract (1 : Int).toNat (xs11.getD i.toNat ByteArray.empty).size)) (by omega) _) ?_
      rintro _ w47 ⟨⟨r49, ok50, xs51, rfl, ho52, hl53⟩, e48⟩
      have hs56 := Below.size E
      have hs57 := Below.size e48
      replace E := E.trans e48
      replace hB4 := hB4.ext e48
      replace ho12 := ho12.ext e48
      replace hB7 := hB7.ext e48
      replace hor := hor.ext e48
      replace hoa := hoa.ext e48
      refine Sq.move .plain rfl rfl ?_
      refine Sq.extract .plain rfl rfl rfl ?_
      refine Sq.extract .plain rfl rfl rfl ?_
      refine Sq.assign .plain rfl rfl ?_
      refine Sq.assign .plain rfl rfl ?_
      refine Sq.nil ?_
      refine Eq.next ?_
      refine Cq.seq ?_
      refine Cq.seq ?_
      refine Cq.region ?_
      refine Sq.move .plain rfl rfl ?_
      refine Sq.partB (fun c58 => ?_) (fun c58 => ?_)
      · refine Sq.notT .plain rfl rfl ?_
        refine Sq.nil ?_
        refine Eq.next ?_
        refine Cq.els rfl ?_
        refine Cq.skip ?_
        refine Eq.next ?_
        refine Cq.seq ?_
        refine Cq.region ?_
        refine Sq.fieldAddr fld26_1 .plain rfl rfl ?_
        refine Sq.loadB one23 .plain rfl rfl hB7 rfl ?_
        refine Sq.move .plain rfl rfl ?_
        obtain ⟨rs63, q64, q65, q66⟩ := OwnRows.open hor (by decide)
        have q66x := Ext.refl w47
        refine Sq.app1 sl23 q64 (by omega) (by rw [q65]; first | omega | (simp; omega)) .plain rfl rfl rfl rfl rfl rfl (Row.one (Own.row ho52)) (fun v59 w60 ho62 g61 _ => ?_)
        have hs67 := g61.size
        have ho62r := q66 _ xs51 _ _ _ (Ext.refl _) (Own.mono ho52 (by omega)) (by omega) ho62 g61
        replace E := E.owned q64 g61 (by omega)
        replace hB4 := hB4.owned q64 g61 (by decide)
        replace ho12 := ho12.owned q64 g61 (by decide)
        replace hB7 := hB7.owned q64 g61 (by decide)
        replace hoa := hoa.owned q64 g61 (by decide)
        refine Sq.fieldAddr fld26_1 .plain rfl rfl ?_
        refine Sq.store one23 .plain rfl rfl (Rows.one (OwnRows.rows ho62r)) hB7 (by simp) (fun w68 g69 hB70 => ?_)
        have hs71 := World.grownBy.size g69
        replace E := E.grown g69 (fun k hk => by injection hk with hk; subst hk; omega)
        replace hB4 := hB4.grown g69 (by intro h; injection h with h; omega)
        replace ho12 := ho12.stored g69 hB7 (by decide)
        replace hoa := hoa.stored g69 hB7 (by decide)
        replace ho62r := ho62r.stored g69 hB7 (by decide) (by decide)
        replace hB7 := hB70
        refine Sq.nil ?_
        refine Eq.next ?_
        obtain ⟨pS, hpS⟩ := Strs.at (Own.row ho12) (i := i) (by omega) (by omega)
        refine Cq.drawS 10 (fun w' => Blk w' b28 26 [Value.int .i64 n21, v59, acv] ∧ At w' 9 v8 i pS (.string (xs11.getD i.toNat ByteArray.empty))) mixed (⟨hB7, hpS⟩) (fun w72 e73 hS => ?_)
        clear hS
        have hs74 := Below.size e73
        replace E := E.trans e73
        replace hB4 := hB4.ext e73
        replace ho12 := ho12.ext e73
        replace hB7 := hB7.ext e73
        replace hoa := hoa.ext e73
        replace ho62r := ho62r.ext e73
        replace hpS := hpS.ext e73
        refine Gq.st 0 rfl (by kernel_rfl) rfl .plain rfl (fun _ _ _ h => h) ⟨hB7, hpS⟩ (fun w' x => Still.fieldAddr fld26_2 rfl) ?_
        refine Gq.st 1 rfl (by kernel_rfl) rfl .plain rfl (fun _ _ _ h => h) ⟨hB7, hpS⟩ (fun w' x => Still.loadB one24 rfl x.1 rfl) ?_
        refine Gq.st 2 rfl (by kernel_rfl) rfl .plain rfl (fun _ _ _ h => h) ⟨hB7, hpS⟩ (fun w' x => Still.move rfl) ?_
        refine Gq.st 3 rfl (by kernel_rfl) rfl .plain rfl (fun _ _ _ h => h) ⟨hB7, hpS⟩ (fun w' x => Still.move rfl) ?_
        refine Gq.st 4 rfl (by kernel_rfl) rfl .plain rfl (fun _ _ _ h => h) ⟨hB7, hpS⟩ (fun w' x => Still.at' sl37 hpS rfl rfl) ?_
        refine Gq.st 5 rfl (by kernel_rfl) rfl .plain rfl (fun _ _ _ h => h) ⟨hB7, hpS⟩ (fun w' x => Still.loadA one9 rfl (x.2).1) ?_
        refine Gq.st 6 rfl (by kernel_rfl) rfl .plain rfl (fun _ _ _ h => h) ⟨hB7, hpS⟩ (fun w' x => Still.idxStr und9 rfl rfl (by omega) (str_at (by omega))) ?_
        refine Gq.st 7 rfl (by kernel_rfl) rfl .plain rfl (fun _ _ _ h => h) ⟨hB7, hpS⟩ (fun w' x => Still.eql rfl rfl) ?_
        refine Gq.one 8 rfl (by kernel_rfl) ?_
        refine Sq.lit sl24 rfl rfl .plain rfl rfl (one_cons rfl one_nil) (fun b75 w76 e77 hlo78 ho79 _ => ?_)
        replace ho79 := ho79 w72.heap.size (Nat.le_refl _)
        have hs81 := Below.size e77
        replace E := E.trans e77
        replace hB4 := hB4.ext e77
        replace ho12 := ho12.ext e77
        replace hB7 := hB7.ext e77
        replace hoa := hoa.ext e77
        replace ho62r := ho62r.ext e77
        replace hpS := hpS.ext e77
        refine Sq.nil ?_
        refine Eq.goes (fun _ => ⟨hB7, hpS⟩) ?_
        refine Gq.one 9 rfl (by kernel_rfl) ?_
        refine Sq.app sl24 hoa (by omega) (Own.row ho79) (one_cons rfl one_nil) (by first | omega | (simp; omega)) .plain rfl rfl rfl rfl (fun v82 w83 ho85 g84 => ?_)
        have hs86 := g84.size
        replace E := E.owned hoa g84 (by omega)
        replace hB4 := hB4.owned hoa g84 (by decide)
        replace ho12 := ho12.owned hoa g84 (by decide)
        replace hB7 := hB7.owned hoa g84 (by decide)
        replace ho62r := ho62r.owned hoa g84 (by decide) (by decide)
        replace hpS := hpS.owned hoa g84 (by decide)
        refine Sq.nil ?_
        refine Eq.goes (fun _ => ⟨hB7, hpS⟩) ?_
        refine Gq.one 10 rfl (by kernel_rfl) ?_
        refine Sq.fieldAddr fld26_2 .plain rfl rfl ?_
        refine Sq.nil ?_
        refine Eq.goes (fun h => absurd h (by decide)) ?_
        refine Gq.one 11 rfl (by kernel_rfl) ?_
        refine Sq.store one24 .plain rfl rfl (Row.one (Own.row ho85)) hB7 (by simp) (fun w87 g88 hB89 => ?_)
        have hs90 := World.grownBy.size g88
        replace E := E.grown g88 (fun k hk => by injection hk with hk; subst hk; omega)
        replace hB4 := hB4.grown g88 (by intro h; injection h with h; omega)
        replace ho12 := ho12.stored g88 hB7 (by decide)
        replace ho62r := ho62r.stored g88 hB7 (by decide) (by decide)
        replace ho85 := ho85.stored g88 hB7 (by decide)
        replace hB7 := hB89
        refine Sq.nil ?_
        refine Eq.goes (fun h => absurd h (by decide)) ?_
        refine Gq.done (by kernel_rfl) ?_
        refine Eq.end ?_
        refine Eq.next ?_
        refine Cq.region ?_
        refine Sq.move .plain rfl rfl ?_
        refine Sq.add .plain rfl rfl rfl (by omega) ?_
        refine Sq.assign .plain rfl rfl ?_
        refine Sq.nil ?_
        refine Eq.round _ _ ⟨i + 1, _, _, _, _, rfl, by omega, hB7, OwnRows.now ho62r, Own.snocB ho85, ⟨by simp; omega, by simp; omega, all_app hxl.2.2 (by omega)⟩, E, hB4, ho12, rfl⟩ (by omega) (.cons rfl (.cons rfl (.cons rfl (.cons rfl (.cons rfl (.nil))))))
      refine Sq.notF .plain rfl rfl ?_
      refine Sq.nil ?_
      refine Eq.next ?_
      refine Cq.thn rfl ?_
      refine Cq.seq ?_
      refine Cq.region ?_
      refine Sq.build st26 rfl rfl .plain rfl rfl one_nil rfl ?_
      refine Sq.storeAgg agg26 .plain rfl rfl (one_cons rfl (one_cons rfl (one_cons rfl one_nil))) hB4 rfl rfl (fun w91 g92 hB93 => ?_)
      have hs94 := World.grownBy.size g92
      replace E := E.grown g92 (fun k hk => by injection hk with hk; subst hk; omega)
      replace hB4 := hB93
      refine Sq.assign .plain rfl rfl ?_
      refine Sq.nil ?_
      refine Eq.next ?_
      refine Cq.ret ?_
      refine Eq.pastRet ?_
      refine Eq.outRet ?_
      refine Eq.pastRet ?_
      refine Eq.pastRet ?_
      refine Eq.outRet ?_
      refine Eq.pastRet ?_
      refine Eq.retCell2 rfl rfl agg26 hB4 rfl rfl ?_
      exact ⟨⟨_, _, zeroA, rfl, ⟨_, _, rfl, OwnRows.nil _ _ _ _ _, Own.nil _ _ _⟩, by refine ⟨?_, ?_, ?_, ?_⟩ <;> simp [zeroA], by simp [zeroA]⟩, E⟩
    refine Sq.nil ?_
    refine Eq.next ?_
    refine Cq.els rfl ?_
    refine Cq.exit ?_
    refine Eq.past ?_
    refine Eq.past ?_
    refine Eq.hit ?_
    refine Eq.next ?_
    refine Cq.seq ?_
    refine Cq.seq ?_
    refine Cq.region ?_
    refine Sq.loadAgg agg26 .plain rfl rfl hB7 rfl ?_
    have hd100 := hB4.lt
    have hd101 := hB7.lt
    refine Sq.call fn7 .plain rfl rfl (fmtA_c _ (⟨n21, xss, ys⟩ : A) _ _ (OwnRows.rows hor) (Own.row hoa)) ?_
    rintro _ w96 ⟨⟨s98, rfl, hs99⟩, e97⟩
    have hs102 := Below.size E
    have hs103 := Below.size e97
    replace E := E.trans e97
    replace hB4 := hB4.ext e97
    replace hB7 := hB7.ext e97
    replace hor := hor.ext e97
    replace hoa := hoa.ext e97
    refine Sq.move .plain rfl rfl ?_
    refine Sq.neqS .plain rfl rfl rfl ?_
    refine Sq.part (fun c104 => ?_) (fun c104 => ?_)
    · refine Sq.nil ?_
      refine Eq.next ?_
      refine Cq.thn rfl ?_
      refine Cq.seq ?_
      refine Cq.region ?_
      refine Sq.build st26 rfl rfl .plain rfl rfl one_nil rfl ?_
      refine Sq.storeAgg agg26 .plain rfl rfl (one_cons rfl (one_cons rfl (one_cons rfl one_nil))) hB4 rfl rfl (fun w105 g106 hB107 => ?_)
      have hs108 := World.grownBy.size g106
      replace E := E.grown g106 (fun k hk => by injection hk with hk; subst hk; omega)
      replace hB4 := hB107
      refine Sq.assign .plain rfl rfl ?_
      refine Sq.nil ?_
      refine Eq.next ?_
      refine Cq.ret ?_
      refine Eq.pastRet ?_
      refine Eq.retCell2 rfl rfl agg26 hB4 rfl rfl ?_
      exact ⟨⟨_, _, zeroA, rfl, ⟨_, _, rfl, OwnRows.nil _ _ _ _ _, Own.nil _ _ _⟩, by refine ⟨?_, ?_, ?_, ?_⟩ <;> simp [zeroA], by simp [zeroA]⟩, E⟩
    refine Sq.nil ?_
    refine Eq.next ?_
    refine Cq.els rfl ?_
    refine Cq.skip ?_
    refine Eq.next ?_
    refine Cq.seq ?_
    refine Cq.region ?_
    refine Sq.loadAgg agg26 .plain rfl rfl hB7 rfl ?_
    refine Sq.storeAgg agg26 .plain rfl rfl (one_cons rfl (one_cons (Rows.one (OwnRows.rows hor)) (one_cons (Row.one (Own.row hoa)) one_nil))) hB4 rfl rfl (fun w109 g110 hB111 => ?_)
    have hs112 := World.grownBy.size g110
    replace E := E.grown g110 (fun k hk => by injection hk with hk; subst hk; omega)
    replace hor := hor.stored g110 hB4 (by decide) (by decide)
    replace hoa := hoa.stored g110 hB4 (by decide)
    replace hB4 := hB111
    refine Sq.assign .plain rfl rfl ?_
    refine Sq.nil ?_
    refine Eq.next ?_
    refine Cq.ret ?_
    refine Eq.retCell2 rfl rfl agg26 hB4 rfl rfl ?_
    exact ⟨⟨_, _, ⟨n21, xss, ys⟩, rfl, ⟨_, _, rfl, OwnRows.now hor, hoa⟩, by refine ⟨?_, ?_, ?_, ?_⟩ <;> first | (show -1000 ≤ n21 ∧ n21 ≤ 1000; omega) | (show xss.length ≤ 200; omega) | (show ys.length ≤ 200; omega) | (intro row hr; have := hxl.2.2 row hr; omega), by show 0 ≤ n21 ∧ n21 ≤ 63; omega⟩, E⟩
  refine Sq.notF .plain rfl rfl ?_
  refine Sq.nil ?_
  refine Eq.next ?_
  refine Cq.thn rfl ?_
  refine Cq.seq ?_
  refine Cq.region ?_
  refine Sq.build st26 rfl rfl .plain rfl rfl one_nil rfl ?_
  refine Sq.storeAgg agg26 .plain rfl rfl (one_cons rfl (one_cons rfl (one_cons rfl one_nil))) hB4 rfl rfl (fun w113 g114 hB115 => ?_)
  have hs116 := World.grownBy.size g114
  replace E := E.grown g114 (fun k hk => by injection hk with hk; subst hk; omega)
  replace hB4 := hB115
  refine Sq.assign .plain rfl rfl ?_
  refine Sq.nil ?_
  refine Eq.next ?_
  refine Cq.ret ?_
  refine Eq.pastRet ?_
  refine Eq.retCell2 rfl rfl agg26 hB4 rfl rfl ?_
  exact ⟨⟨_, _, zeroA, rfl, ⟨_, _, rfl, OwnRows.nil _ _ _ _ _, Own.nil _ _ _⟩, by refine ⟨?_, ?_, ?_, ?_⟩ <;> simp [zeroA], by simp [zeroA]⟩, E⟩
set_option maxRecDepth 100000 in
theorem l3Texts_c (w0 : World) : Ret Tryz.prog 50 #[] w0 (fun v w => (∃ xs : List ByteArray, Own w w0.heap.size 9 v (xs.map Value.string) ∧ xs.length = 12 ∧ ∀ x ∈ xs, x.size ≤ 60) ∧ Ext w0 w) := by
  have E := Ext.refl w0
  refine Ret.of (args := []) Tryz.func50 rfl rfl rfl ?_
  rintro _ rfl
  show Cq _ _ _ _ [] _
  refine Cq.seq ?_
  refine Cq.region ?_
  refine Sq.assign .plain rfl rfl ?_
  refine Sq.nil ?_
  refine Eq.next ?_
  refine Cq.seq ?_
  refine Cq.region ?_
  refine Sq.lit sl37 rfl rfl .plain rfl rfl (one_cons rfl (one_cons rfl (one_cons rfl (one_cons rfl (one_cons rfl (one_cons rfl (one_cons rfl (one_cons rfl (one_cons rfl (one_cons rfl (one_cons rfl (one_cons rfl one_nil)))))))))))) (fun b1 w2 e3 hlo4 ho5 _ => ?_)
  replace ho5 := ho5 w0.heap.size (Nat.le_refl _)
  have hs7 := Below.size e3
  replace E := E.trans e3
  refine Sq.assign .plain rfl rfl ?_
  refine Sq.nil ?_
  refine Eq.next ?_
  refine Cq.ret ?_
  refine Eq.ret1 rfl rfl ?_
  exact ⟨⟨([(⟨#[97, 98, 32, 43, 49, 44, 48, 32, 45, 49, 44, 49]⟩ : ByteArray), (⟨#[97, 98, 32, 43, 48, 44, 49, 32, 43, 50, 44, 49, 32, 45, 50, 44, 50]⟩ : ByteArray), (⟨#[97, 99, 32, 43, 49, 44, 50, 32, 43, 49, 44, 50, 32, 45, 50, 44, 50]⟩ : ByteArray), (⟨#[98, 32, 43, 49, 32, 45, 49]⟩ : ByteArray), (⟨#[97, 98, 99, 32, 43, 49, 44, 48, 44, 50, 32, 43, 50, 44, 48, 44, 49, 32, 45, 50, 44, 50, 44, 50]⟩ : ByteArray), (⟨#[45, 32, 43]⟩ : ByteArray), (⟨#[45, 32, 45]⟩ : ByteArray), (⟨#[97, 32, 43, 49, 32, 45, 48]⟩ : ByteArray), (⟨#[97, 98, 32, 43, 48, 44, 49, 32, 45, 48, 44, 49]⟩ : ByteArray), (⟨#[98, 99, 32, 43, 49, 44, 50, 32, 43, 50, 44, 48, 32, 45, 50, 44, 50]⟩ : ByteArray), (⟨#[97, 98, 32, 43, 49, 44, 50, 32, 45, 49, 44, 51, 32, 43, 52, 44, 50, 32, 45, 49, 44, 51, 32, 43, 52, 44, 50]⟩ : ByteArray), (⟨#[97, 98, 99, 32, 43, 48, 44, 49, 44, 48, 32, 43, 48, 44, 49, 44, 50, 32, 45, 50, 44, 50, 44, 50]⟩ : ByteArray)] : List ByteArray), Own.mono ho5 (by omega), rfl, all_size (by decide)⟩, E⟩
set_option maxRecDepth 100000 in
theorem open_c (w0 : World) (e : TypeId) (a0 : Option Addr) (c0 : Nat) (cs : List UInt8) (hc : Bytes w0 e (.slice a0 cs.length c0) cs) (hcap : cs.length ≤ c0) : Ret Tryz.prog 29 #[Value.slice a0 cs.length c0] w0 (fun v w => (∃ rb bv bs, v = .pointer (some ⟨rb, 0, none⟩) ∧ w0.heap.size ≤ rb ∧ Blk w rb 73 [bv, .int .i64 0] ∧ Src w e bv bs rb ∧ bs.length ≤ 2000) ∧ Ext w0 w) := by
  have E := Ext.refl w0
  refine Ret.of (args := [Value.slice a0 cs.length c0]) Tryz.func29 rfl rfl rfl ?_
  rintro _ rfl
  show Cq _ _ _ _ [(0, Value.slice a0 cs.length c0)] _
  refine Cq.seq ?_
  refine Cq.region ?_
  refine Sq.assign .plain rfl rfl ?_
  refine Sq.nil ?_
  refine Eq.next ?_
  refine Cq.seq ?_
  refine Cq.seq ?_
  refine Cq.region ?_
  refine Sq.move .plain rfl rfl ?_
  refine Sq.lenBytes (hc.ext E) .plain rfl und22 rfl ?_
  refine Sq.gtr .plain rfl rfl rfl ?_
  refine Sq.part (fun c1 => ?_) (fun c1 => ?_)
  · refine Sq.nil ?_
    refine Eq.next ?_
    refine Cq.thn rfl ?_
    refine Cq.region ?_
    refine Sq.move .plain rfl rfl ?_
    refine Sq.cutBytes sl22 hc hcap (by omega) .plain rfl rfl rfl (fun bv0 hbv0 => ?_)
    refine Sq.assign .plain rfl rfl ?_
    refine Sq.nil ?_
    refine Eq.next ?_
    refine Cq.seq ?_
    refine Cq.region ?_
    refine Sq.move .plain rfl rfl ?_
    refine Sq.build st73 rfl rfl .plain rfl rfl (one_cons (Row.one (hbv0.ext E)) one_nil) rfl ?_
    refine Sq.box .plain rfl rfl (fun b2 w3 e4 hB5 hlo6 => ?_)
    have hd7 := Nat.le_trans (Below.size E) hlo6
    have hs8 := Below.size e4
    replace E := E.trans e4
    refine Sq.assign .plain rfl rfl ?_
    refine Sq.nil ?_
    refine Eq.next ?_
    refine Cq.ret ?_
    refine Eq.ret1 rfl rfl ?_
    exact ⟨⟨_, _, (cs.take (2000 : Int).toNat), rfl, by omega, hB5, Src.of hbv0 E (by omega), by rw [List.length_take]; omega⟩, E⟩
  refine Sq.nil ?_
  refine Eq.next ?_
  refine Cq.els rfl ?_
  refine Cq.skip ?_
  refine Eq.next ?_
  refine Cq.seq ?_
  refine Cq.region ?_
  refine Sq.move .plain rfl rfl ?_
  refine Sq.build st73 rfl rfl .plain rfl rfl (one_cons (Row.one (hc.ext E)) one_nil) rfl ?_
  refine Sq.box .plain rfl rfl (fun b9 w10 e11 hB12 hlo13 => ?_)
  have hd14 := Nat.le_trans (Below.size E) hlo13
  have hs15 := Below.size e11
  replace E := E.trans e11
  refine Sq.assign .plain rfl rfl ?_
  refine Sq.nil ?_
  refine Eq.next ?_
  refine Cq.ret ?_
  refine Eq.ret1 rfl rfl ?_
  exact ⟨⟨_, _, cs, rfl, by omega, hB12, Src.of hc E (by omega), by omega⟩, E⟩
set_option maxRecDepth 100000 in
theorem l3Draw_c (w0 : World) (rb : Nat) (bv : Value) (p : Int) (bs : List UInt8) (e0 : TypeId) (hR : Blk w0 rb 73 [bv, .int .i64 p]) (hb : Src w0 e0 bv bs rb) (hbl : bs.length ≤ 2000) (hp : 0 ≤ p ∧ p ≤ 500000000) : Ret Tryz.prog 30 #[Value.pointer (some ⟨rb, 0, none⟩)] w0 (fun v w => (∃ p', (p ≤ p' ∧ p' ≤ p + 300) ∧ Blk w rb 73 [bv, .int .i64 p'] ∧ w0.grownBy w (some rb)) ∧ ∃ a, RowsA w v a ∧ Small 200 a ∧ 0 ≤ a.al ∧ a.al ≤ 63) := by
  have G := World.grownBy.refl w0 (some rb)
  have hlt := hR.lt
  refine Ret.of (args := [Value.pointer (some ⟨rb, 0, none⟩)]) Tryz.func30 rfl rfl rfl ?_
  rintro _ rfl
  show Cq _ _ _ _ [(0, Value.pointer (some ⟨rb, 0, none⟩))] _
  refine Cq.seq ?_
  refine Cq.region ?_
  refine Sq.alloc zero26 .plain rfl (fun b1 w2 e3 hB4 hlo5 => ?_)
  have hd6 := Nat.lt_of_lt_of_le hR.lt hlo5
  have hd7 := Nat.le_trans (World.grownBy.size G) hlo5
  have hs8 := Below.size e3
  replace hR := hR.ext e3
  replace G := grown_trans G (Ext.to_grown e3 _)
  refine Sq.nil ?_
  refine Eq.next ?_
  refine Cq.seq ?_
  refine Cq.seq ?_
  refine Cq.region ?_
  refine Sq.move .plain rfl rfl ?_
  refine Sq.call fn31 .plain rfl rfl (pick_c _ _ _ _ _ _ hR (hb.go G) hbl (by omega) 3 (by omega)) ?_
  rintro _ w10 ⟨⟨p11, hp14, hB13, g12⟩, ⟨k15, rfl, hk16⟩⟩
  have hs17 := World.grownBy.size g12
  have hs18 := World.grownBy.size G
  have hs19 := World.grownBy.size g12
  replace G := grown_trans G g12
  replace hB4 := hB4.grown g12 (by intro h; injection h with h; omega)
  replace hR := hB13
  refine Sq.eql .plain rfl rfl rfl ?_
  refine Sq.part (fun c20 => ?_) (fun c20 => ?_)
  · refine Sq.nil ?_
    refine Eq.next ?_
    refine Cq.thn rfl ?_
    refine Cq.seq ?_
    refine Cq.region ?_
    refine Sq.move .plain rfl rfl ?_
    have hd28 := hR.lt
    have hd29 := hB4.lt
    refine Sq.call fn50 .plain rfl rfl (l3Texts_c _) ?_
    rintro v21 w22 ⟨⟨xs24, ho25, hl26, hxs27⟩, e23⟩
    have hs30 := World.grownBy.size G
    have hs31 := Below.size e23
    replace hR := hR.ext e23
    replace G := grown_trans G (Ext.to_grown e23 _)
    replace hB4 := hB4.ext e23
    refine Sq.call fn32 .plain rfl rfl (of_c _ _ _ _ _ _ hR (hb.go G) hbl (by omega) _ xs24 (Own.row ho25) (by first | omega | simp)) ?_
    rintro _ w33 ⟨⟨p34, hp37, hB36, g35⟩, ⟨s38, rfl, hm39⟩⟩
    have hs40 := World.grownBy.size g35
    have hs41 := World.grownBy.size G
    have hs42 := World.grownBy.size g35
    replace G := grown_trans G g35
    replace hB4 := hB4.grown g35 (by intro h; injection h with h; omega)
    replace hR := hB36
    have hd55 := hR.lt
    have hd56 := hB4.lt
    refine Sq.call fn12 .plain rfl rfl (parseA_c s38 (by have := hxs27 _ hm39; omega) _) ?_
    rintro _ w44 ⟨⟨u46, ok47, a48, rfl, ⟨nx49, ac50, rfl, hn51, ha52⟩, hsm53, hal54⟩, e45⟩
    have hs57 := World.grownBy.size G
    have hs58 := Below.size e45
    replace hR := hR.ext e45
    replace G := grown_trans G (Ext.to_grown e45 _)
    replace hB4 := hB4.ext e45
    refine Sq.move .plain rfl rfl ?_
    refine Sq.extract .plain rfl rfl rfl ?_
    refine Sq.extract .plain rfl rfl rfl ?_
    refine Sq.alloc zero26 .plain rfl (fun b59 w60 e61 hB62 hlo63 => ?_)
    have hd64 := Nat.lt_of_lt_of_le hR.lt hlo63
    have hd65 := Nat.le_trans (World.grownBy.size G) hlo63
    have hd66 := Nat.lt_of_lt_of_le hB4.lt hlo63
    have hs67 := Below.size e61
    replace hR := hR.ext e61
    replace G := grown_trans G (Ext.to_grown e61 _)
    replace hB4 := hB4.ext e61
    replace hn51 := hn51.ext e61
    replace ha52 := ha52.ext e61
    refine Sq.storeAgg agg26 .plain rfl rfl (one_cons rfl (one_cons (Rows.one (OwnRows.rows hn51)) (one_cons (Row.one (Own.row ha52)) one_nil))) hB62 rfl rfl (fun w68 g69 hB70 => ?_)
    have hs71 := World.grownBy.size g69
    replace hR := hR.grown g69 (by intro h; injection h with h; omega)
    replace G := grown_far G g69 (fun k hk => by injection hk with hk; subst hk; omega)
    replace hB4 := hB4.grown g69 (by intro h; injection h with h; omega)
    replace hn51 := hn51.stored g69 hB62 (by decide) (by decide)
    replace ha52 := ha52.stored g69 hB62 (by decide)
    replace hB62 := hB70
    refine Sq.assign .plain rfl rfl ?_
    refine Sq.nil ?_
    refine Eq.next ?_
    refine Cq.seq ?_
    refine Cq.region ?_
    refine Sq.move .plain rfl rfl ?_
    refine Sq.partB (fun c72 => ?_) (fun c72 => ?_)
    · refine Sq.nil ?_
      refine Eq.next ?_
      refine Cq.thn rfl ?_
      refine Cq.seq ?_
      refine Cq.region ?_
      refine Sq.loadAgg agg26 .plain rfl rfl hB62 rfl ?_
      refine Sq.storeAgg agg26 .plain rfl rfl (one_cons rfl (one_cons (Rows.one (OwnRows.rows hn51)) (one_cons (Row.one (Own.row ha52)) one_nil))) hB4 rfl rfl (fun w73 g74 hB75 => ?_)
      have hs76 := World.grownBy.size g74
      replace hR := hR.grown g74 (by intro h; injection h with h; omega)
      replace G := grown_far G g74 (fun k hk => by injection hk with hk; subst hk; omega)
      replace hn51 := hn51.stored g74 hB4 (by decide) (by decide)
      replace ha52 := ha52.stored g74 hB4 (by decide)
      replace hB4 := hB75
      refine Sq.nil ?_
      refine Eq.next ?_
      refine Cq.ret ?_
      refine Eq.pastRet ?_
      refine Eq.retCell rfl rfl agg26 hB4 rfl ?_
      exact ⟨⟨_, by omega, hR, G⟩, _, ⟨_, _, rfl, (OwnRows.rows hn51), (Own.row ha52)⟩, by first | exact (Small.of hsm53).mono (by omega) | exact Small.mono hsm53 (by omega) | exact (Small.of hsm53).mono (by omega) | exact Small.mono hsm53 (by omega), by omega⟩
    refine Sq.nil ?_
    refine Eq.next ?_
    refine Cq.els rfl ?_
    refine Cq.skip ?_
    refine Eq.next ?_
    refine Cq.seq ?_
    refine Cq.region ?_
    refine Sq.move .plain rfl rfl ?_
    refine Sq.move .plain rfl rfl ?_
    refine Sq.lit sl36 rfl rfl .plain rfl rfl (one_cons rfl (one_cons rfl (one_cons rfl (one_cons rfl (one_cons rfl (one_cons rfl (one_cons rfl one_nil))))))) (fun b77 w78 e79 hlo80 ho81 _ => ?_)
    replace ho81 := ho81 w68.heap.size (Nat.le_refl _)
    have hs83 := Below.size e79
    replace hR := hR.ext e79
    replace G := grown_trans G (Ext.to_grown e79 _)
    replace hB4 := hB4.ext e79
    refine Sq.call fn52 .plain rfl rfl (num_c _ _ _ _ _ _ hR (hb.go G) hbl (by omega) _ [3, 6, 7, 5, 1, 0, 2] (Own.row ho81) (by simp)) ?_
    rintro _ w85 ⟨⟨p86, hp89, hB88, g87⟩, ⟨k90, rfl, hm91⟩⟩
    have hs92 := World.grownBy.size g87
    have hs93 := World.grownBy.size G
    have hs94 := World.grownBy.size g87
    replace G := grown_trans G g87
    replace hB4 := hB4.grown g87 (by intro h; injection h with h; omega)
    replace hR := hB88
    simp only [List.mem_cons, List.not_mem_nil, or_false] at hm91
    refine Sq.call fn51 .plain rfl rfl (l3Over_c _ _ _ _ _ _ hR (hb.go G) hbl (by omega) k90 (by omega)) ?_
    rintro _ w96 ⟨⟨p97, hp100, hB99, g98⟩, ⟨a101, ⟨nx102, ac103, rfl, hn104, ha105⟩, hv106, hal107⟩⟩
    have hs108 := World.grownBy.size g98
    have hs109 := World.grownBy.size G
    have hs110 := World.grownBy.size g98
    replace G := grown_trans G g98
    replace hB4 := hB4.grown g98 (by intro h; injection h with h; omega)
    replace hR := hB99
    refine Sq.storeAgg agg26 .plain rfl rfl (one_cons rfl (one_cons (Rows.one (OwnRows.rows hn104)) (one_cons (Row.one (Own.row ha105)) one_nil))) hB4 rfl rfl (fun w111 g112 hB113 => ?_)
    have hs114 := World.grownBy.size g112
    replace hR := hR.grown g112 (by intro h; injection h with h; omega)
    replace G := grown_far G g112 (fun k hk => by injection hk with hk; subst hk; omega)
    replace hn104 := hn104.stored g112 hB4 (by decide) (by decide)
    replace ha105 := ha105.stored g112 hB4 (by decide)
    replace hB4 := hB113
    refine Sq.nil ?_
    refine Eq.next ?_
    refine Cq.ret ?_
    refine Eq.retCell rfl rfl agg26 hB4 rfl ?_
    exact ⟨⟨_, by omega, hR, G⟩, _, ⟨_, _, rfl, (OwnRows.rows hn104), (Own.row ha105)⟩, by first | exact (Small.of hv106).mono (by omega) | exact Small.mono hv106 (by omega) | exact (Small.of hsm53).mono (by omega) | exact Small.mono hsm53 (by omega) | exact (Small.of hsm53).mono (by omega) | exact Small.mono hsm53 (by omega), by omega⟩
  refine Sq.nil ?_
  refine Eq.next ?_
  refine Cq.els rfl ?_
  refine Cq.skip ?_
  refine Eq.next ?_
  refine Cq.seq ?_
  refine Cq.region ?_
  refine Sq.move .plain rfl rfl ?_
  refine Sq.move .plain rfl rfl ?_
  refine Sq.lit sl36 rfl rfl .plain rfl rfl (one_cons rfl (one_cons rfl (one_cons rfl (one_cons rfl (one_cons rfl (one_cons rfl (one_cons rfl one_nil))))))) (fun b115 w116 e117 hlo118 ho119 _ => ?_)
  replace ho119 := ho119 w10.heap.size (Nat.le_refl _)
  have hs121 := Below.size e117
  replace hR := hR.ext e117
  replace G := grown_trans G (Ext.to_grown e117 _)
  replace hB4 := hB4.ext e117
  refine Sq.call fn52 .plain rfl rfl (num_c _ _ _ _ _ _ hR (hb.go G) hbl (by omega) _ [3, 6, 7, 5, 1, 0, 2] (Own.row ho119) (by simp)) ?_
  rintro _ w123 ⟨⟨p124, hp127, hB126, g125⟩, ⟨k128, rfl, hm129⟩⟩
  have hs130 := World.grownBy.size g125
  have hs131 := World.grownBy.size G
  have hs132 := World.grownBy.size g125
  replace G := grown_trans G g125
  replace hB4 := hB4.grown g125 (by intro h; injection h with h; omega)
  replace hR := hB126
  simp only [List.mem_cons, List.not_mem_nil, or_false] at hm129
  refine Sq.call fn51 .plain rfl rfl (l3Over_c _ _ _ _ _ _ hR (hb.go G) hbl (by omega) k128 (by omega)) ?_
  rintro _ w134 ⟨⟨p135, hp138, hB137, g136⟩, ⟨a139, ⟨nx140, ac141, rfl, hn142, ha143⟩, hv144, hal145⟩⟩
  have hs146 := World.grownBy.size g136
  have hs147 := World.grownBy.size G
  have hs148 := World.grownBy.size g136
  replace G := grown_trans G g136
  replace hB4 := hB4.grown g136 (by intro h; injection h with h; omega)
  replace hR := hB137
  refine Sq.storeAgg agg26 .plain rfl rfl (one_cons rfl (one_cons (Rows.one (OwnRows.rows hn142)) (one_cons (Row.one (Own.row ha143)) one_nil))) hB4 rfl rfl (fun w149 g150 hB151 => ?_)
  have hs152 := World.grownBy.size g150
  replace hR := hR.grown g150 (by intro h; injection h with h; omega)
  replace G := grown_far G g150 (fun k hk => by injection hk with hk; subst hk; omega)
  replace hn142 := hn142.stored g150 hB4 (by decide) (by decide)
  replace ha143 := ha143.stored g150 hB4 (by decide)
  replace hB4 := hB151
  refine Sq.nil ?_
  refine Eq.next ?_
  refine Cq.ret ?_
  refine Eq.retCell rfl rfl agg26 hB4 rfl ?_
  exact ⟨⟨_, by omega, hR, G⟩, _, ⟨_, _, rfl, (OwnRows.rows hn142), (Own.row ha143)⟩, by first | exact (Small.of hv144).mono (by omega) | exact Small.mono hv144 (by omega) | exact (Small.of hv106).mono (by omega) | exact Small.mono hv106 (by omega) | exact (Small.of hsm53).mono (by omega) | exact Small.mono hsm53 (by omega) | exact (Small.of hsm53).mono (by omega) | exact Small.mono hsm53 (by omega), by omega⟩
set_option maxRecDepth 100000 in
theorem l3Any_c (w0 : World) (rb : Nat) (bv : Value) (p : Int) (bs : List UInt8) (e0 : TypeId) (hR : Blk w0 rb 73 [bv, .int .i64 p]) (hb : Src w0 e0 bv bs rb) (hbl : bs.length ≤ 2000) (hp : 0 ≤ p ∧ p ≤ 400000000) : Ret Tryz.prog 37 #[Value.pointer (some ⟨rb, 0, none⟩)] w0 (fun v w => (∃ p', (p ≤ p' ∧ p' ≤ p + 400) ∧ Blk w rb 73 [bv, .int .i64 p'] ∧ w0.grownBy w (some rb)) ∧ ∃ a, RowsA w v a ∧ Small 300 a) := by
  have G := World.grownBy.refl w0 (some rb)
  have hlt := hR.lt
  refine Ret.of (args := [Value.pointer (some ⟨rb, 0, none⟩)]) Tryz.func37 rfl rfl rfl ?_
  rintro _ rfl
  show Cq _ _ _ _ [(0, Value.pointer (some ⟨rb, 0, none⟩))] _
  refine Cq.seq ?_
  refine Cq.region ?_
  refine Sq.alloc zero26 .plain rfl (fun b1 w2 e3 hB4 hlo5 => ?_)
  have hd6 := Nat.lt_of_lt_of_le hR.lt hlo5
  have hd7 := Nat.le_trans (World.grownBy.size G) hlo5
  have hs8 := Below.size e3
  replace hR := hR.ext e3
  replace G := grown_trans G (Ext.to_grown e3 _)
  refine Sq.nil ?_
  refine Eq.next ?_
  refine Cq.seq ?_
  refine Cq.seq ?_
  refine Cq.region ?_
  refine Sq.move .plain rfl rfl ?_
  refine Sq.call fn31 .plain rfl rfl (pick_c _ _ _ _ _ _ hR (hb.go G) hbl (by omega) 12 (by omega)) ?_
  rintro _ w10 ⟨⟨p11, hp14, hB13, g12⟩, ⟨k15, rfl, hk16⟩⟩
  have hs17 := World.grownBy.size g12
  have hs18 := World.grownBy.size G
  have hs19 := World.grownBy.size g12
  replace G := grown_trans G g12
  replace hB4 := hB4.grown g12 (by intro h; injection h with h; omega)
  replace hR := hB13
  refine Sq.eql .plain rfl rfl rfl ?_
  refine Sq.part (fun c20 => ?_) (fun c20 => ?_)
  · refine Sq.nil ?_
    refine Eq.next ?_
    refine Cq.thn rfl ?_
    refine Cq.seq ?_
    refine Cq.region ?_
    refine Sq.move .plain rfl rfl ?_
    refine Sq.call fn55 .plain rfl rfl (l3Big_c _ _ _ _ _ _ hR (hb.go G) hbl (by omega) ) ?_
    rintro _ w22 ⟨⟨p23, hp26, hB25, g24⟩, ⟨a27, ⟨nx28, ac29, rfl, hn30, ha31⟩, hv32⟩⟩
    have hs33 := World.grownBy.size g24
    have hs34 := World.grownBy.size G
    have hs35 := World.grownBy.size g24
    replace G := grown_trans G g24
    replace hB4 := hB4.grown g24 (by intro h; injection h with h; omega)
    replace hR := hB25
    refine Sq.storeAgg agg26 .plain rfl rfl (one_cons rfl (one_cons (Rows.one (OwnRows.rows hn30)) (one_cons (Row.one (Own.row ha31)) one_nil))) hB4 rfl rfl (fun w36 g37 hB38 => ?_)
    have hs39 := World.grownBy.size g37
    replace hR := hR.grown g37 (by intro h; injection h with h; omega)
    replace G := grown_far G g37 (fun k hk => by injection hk with hk; subst hk; omega)
    replace hn30 := hn30.stored g37 hB4 (by decide) (by decide)
    replace ha31 := ha31.stored g37 hB4 (by decide)
    replace hB4 := hB38
    refine Sq.nil ?_
    refine Eq.next ?_
    refine Cq.ret ?_
    refine Eq.pastRet ?_
    refine Eq.retCell rfl rfl agg26 hB4 rfl ?_
    exact ⟨⟨_, by omega, hR, G⟩, _, ⟨_, _, rfl, (OwnRows.rows hn30), (Own.row ha31)⟩, by first | exact (Small.of hv32).mono (by omega) | exact Small.mono hv32 (by omega)⟩
  refine Sq.nil ?_
  refine Eq.next ?_
  refine Cq.els rfl ?_
  refine Cq.skip ?_
  refine Eq.next ?_
  refine Cq.seq ?_
  refine Cq.region ?_
  refine Sq.move .plain rfl rfl ?_
  refine Sq.move .plain rfl rfl ?_
  refine Sq.call fn30 .plain rfl rfl (l3Draw_c _ _ _ _ _ _ hR (hb.go G) hbl (by omega) ) ?_
  rintro _ w41 ⟨⟨p42, hp45, hB44, g43⟩, ⟨a46, ⟨nx47, ac48, rfl, hn49, ha50⟩, hv51, hal52⟩⟩
  have hs53 := World.grownBy.size g43
  have hs54 := World.grownBy.size G
  have hs55 := World.grownBy.size g43
  replace G := grown_trans G g43
  replace hB4 := hB4.grown g43 (by intro h; injection h with h; omega)
  replace hR := hB44
  refine Sq.call fn36 .plain rfl rfl (l3Wrong_c _ _ _ _ _ _ hR (hb.go G) hbl (by omega) a46 _ _ hn49 ha50 _ (by omega) hv51) ?_
  rintro _ w57 ⟨⟨p58, hp61, hB60, g59⟩, ⟨a62, ⟨nx63, ac64, rfl, hn65, ha66⟩, hv67⟩⟩
  have hs68 := World.grownBy.size g59
  have hs69 := World.grownBy.size G
  have hs70 := World.grownBy.size g59
  replace G := grown_trans G g59
  replace hB4 := hB4.grown g59 (by intro h; injection h with h; omega)
  replace hR := hB60
  refine Sq.storeAgg agg26 .plain rfl rfl (one_cons rfl (one_cons (Rows.one hn65) (one_cons (Row.one ha66) one_nil))) hB4 rfl rfl (fun w71 g72 hB73 => ?_)
  have hs74 := World.grownBy.size g72
  replace hR := hR.grown g72 (by intro h; injection h with h; omega)
  replace G := grown_far G g72 (fun k hk => by injection hk with hk; subst hk; omega)
  replace hn65 := hn65.stored g72 hB4 (by decide) (by decide)
  replace ha66 := ha66.stored g72 hB4 (by decide)
  replace hB4 := hB73
  refine Sq.nil ?_
  refine Eq.next ?_
  refine Cq.ret ?_
  refine Eq.retCell rfl rfl agg26 hB4 rfl ?_
  exact ⟨⟨_, by omega, hR, G⟩, _, ⟨_, _, rfl, hn65, ha66⟩, by first | exact (Small.of hv67).mono (by omega) | exact Small.mono hv67 (by omega) | exact (Small.of hv51).mono (by omega) | exact Small.mono hv51 (by omega) | exact (Small.of hv32).mono (by omega) | exact Small.mono hv32 (by omega)⟩
end Go.Proofs.YtnckpafknojdhaaGreatDoor
set_option linter.unusedSimpArgs false
set_option linter.unusedVariables false
namespace Go.Proofs.YtnckpafknojdhaaGreatDoor
open Go.RowKit
set_option maxRecDepth 100000 in
theorem drawValid_c (w0 : World) (e : TypeId) (a0 : Option Addr) (c0 : Nat) (cs : List UInt8) (hc : Bytes w0 e (.slice a0 cs.length c0) cs) (hcap : cs.length ≤ c0) : Ret Tryz.prog 13 #[Value.slice a0 cs.length c0] w0 (fun v w => (∃ a, RowsA w v a ∧ Small 400 a) ∧ Ext w0 w) := by
  have E := Ext.refl w0
  refine Ret.of (args := [Value.slice a0 cs.length c0]) Tryz.func13 rfl rfl rfl ?_
  rintro _ rfl
  show Cq _ _ _ _ [(0, Value.slice a0 cs.length c0)] _
  refine Cq.seq ?_
  refine Cq.region ?_
  refine Sq.alloc zero26 .plain rfl (fun b1 w2 e3 hB4 hlo5 => ?_)
  have hd6 := Nat.le_trans (Below.size E) hlo5
  have hs7 := Below.size e3
  replace E := E.trans e3
  refine Sq.nil ?_
  refine Eq.next ?_
  refine Cq.seq ?_
  refine Cq.region ?_
  refine Sq.move .plain rfl rfl ?_
  refine Sq.call fn29 .plain rfl rfl (open_c _ _ _ _ _ (hc.ext E) hcap) ?_
  rintro _ w8 ⟨⟨rb, bv, bs, rfl, hrb, hR, hb, hbl⟩, e9⟩
  have hrlt := hR.lt
  have hd10 := Nat.le_trans (Below.size E) hrb
  have hd11 := Nat.lt_of_lt_of_le hB4.lt hrb
  have hs12 := Below.size e9
  replace E := E.trans e9
  replace hB4 := hB4.ext e9
  have G := World.grownBy.refl w8 (some rb)
  refine Sq.assign .plain rfl rfl ?_
  refine Sq.nil ?_
  refine Eq.next ?_
  refine Cq.seq ?_
  refine Cq.region ?_
  refine Sq.move .plain rfl rfl ?_
  refine Sq.move .plain rfl rfl ?_
  refine Sq.call fn37 .plain rfl rfl (l3Any_c _ _ _ _ _ _ hR (hb.go G) hbl (by omega) ) ?_
  rintro _ w14 ⟨⟨p15, hp18, hB17, g16⟩, ⟨a19, ⟨nx20, ac21, rfl, hn22, ha23⟩, hv24⟩⟩
  have hs25 := World.grownBy.size g16
  have hs26 := Below.size E
  have hs27 := World.grownBy.size G
  have hs28 := World.grownBy.size g16
  replace E := E.grown g16 (fun k hk => by injection hk with hk; subst hk; omega)
  replace hB4 := hB4.grown g16 (by intro h; injection h with h; omega)
  replace G := grown_trans G g16
  replace hR := hB17
  refine Sq.call fn36 .plain rfl rfl (l3Wrong_c _ _ _ _ _ _ hR (hb.go G) hbl (by omega) a19 _ _ hn22 ha23 _ (by omega) hv24) ?_
  rintro _ w30 ⟨⟨p31, hp34, hB33, g32⟩, ⟨a35, ⟨nx36, ac37, rfl, hn38, ha39⟩, hv40⟩⟩
  have hs41 := World.grownBy.size g32
  have hs42 := Below.size E
  have hs43 := World.grownBy.size G
  have hs44 := World.grownBy.size g32
  replace E := E.grown g32 (fun k hk => by injection hk with hk; subst hk; omega)
  replace hB4 := hB4.grown g32 (by intro h; injection h with h; omega)
  refine Sq.storeAgg agg26 .plain rfl rfl (one_cons rfl (one_cons (Rows.one hn38) (one_cons (Row.one ha39) one_nil))) hB4 rfl rfl (fun w45 g46 hB47 => ?_)
  have hs48 := World.grownBy.size g46
  replace E := E.grown g46 (fun k hk => by injection hk with hk; subst hk; omega)
  replace hn38 := hn38.stored g46 hB4 (by decide) (by decide)
  replace ha39 := ha39.stored g46 hB4 (by decide)
  replace hB4 := hB47
  refine Sq.nil ?_
  refine Eq.next ?_
  refine Cq.ret ?_
  refine Eq.retCell rfl rfl agg26 hB4 rfl ?_
  exact ⟨⟨_, ⟨_, _, rfl, hn38, ha39⟩, by first | exact (Small.of hv40).mono (by omega) | exact Small.mono hv40 (by omega) | exact (Small.of hv24).mono (by omega) | exact Small.mono hv24 (by omega)⟩, E⟩
end Go.Proofs.YtnckpafknojdhaaGreatDoor
set_option linter.unusedSimpArgs false
set_option linter.unusedVariables false
namespace Go.Proofs.YtnckpafknojdhaaGreatDoor
open Go.RowKit
set_option maxRecDepth 100000 in
theorem l3DrawV_c (w0 : World) (rb : Nat) (bv : Value) (p : Int) (bs : List UInt8) (e0 : TypeId) (hR : Blk w0 rb 73 [bv, .int .i64 p]) (hb : Src w0 e0 bv bs rb) (hbl : bs.length ≤ 2000) (hp : 0 ≤ p ∧ p ≤ 500000000) : Ret Tryz.prog 30 #[Value.pointer (some ⟨rb, 0, none⟩)] w0 (fun v w => (∃ p', (p ≤ p' ∧ p' ≤ p + 300) ∧ Blk w rb 73 [bv, .int .i64 p'] ∧ w0.grownBy w (some rb)) ∧ ∃ a, RowsA w v a ∧ validA a = true) := by
  have G := World.grownBy.refl w0 (some rb)
  have hlt := hR.lt
  refine Ret.of (args := [Value.pointer (some ⟨rb, 0, none⟩)]) Tryz.func30 rfl rfl rfl ?_
  rintro _ rfl
  show Cq _ _ _ _ [(0, Value.pointer (some ⟨rb, 0, none⟩))] _
  refine Cq.seq ?_
  refine Cq.region ?_
  refine Sq.alloc zero26 .plain rfl (fun b1 w2 e3 hB4 hlo5 => ?_)
  have hd6 := Nat.lt_of_lt_of_le hR.lt hlo5
  have hd7 := Nat.le_trans (World.grownBy.size G) hlo5
  have hs8 := Below.size e3
  replace hR := hR.ext e3
  replace G := grown_trans G (Ext.to_grown e3 _)
  refine Sq.nil ?_
  refine Eq.next ?_
  refine Cq.seq ?_
  refine Cq.seq ?_
  refine Cq.region ?_
  refine Sq.move .plain rfl rfl ?_
  refine Sq.call fn31 .plain rfl rfl (pick_c _ _ _ _ _ _ hR (hb.go G) hbl (by omega) 3 (by omega)) ?_
  rintro _ w10 ⟨⟨p11, hp14, hB13, g12⟩, ⟨k15, rfl, hk16⟩⟩
  have hs17 := World.grownBy.size g12
  have hs18 := World.grownBy.size G
  have hs19 := World.grownBy.size g12
  replace G := grown_trans G g12
  replace hB4 := hB4.grown g12 (by intro h; injection h with h; omega)
  replace hR := hB13
  refine Sq.eql .plain rfl rfl rfl ?_
  refine Sq.part (fun c20 => ?_) (fun c20 => ?_)
  · refine Sq.nil ?_
    refine Eq.next ?_
    refine Cq.thn rfl ?_
    refine Cq.seq ?_
    refine Cq.region ?_
    refine Sq.move .plain rfl rfl ?_
    have hd28 := hR.lt
    have hd29 := hB4.lt
    refine Sq.call fn50 .plain rfl rfl (l3Texts_c _) ?_
    rintro v21 w22 ⟨⟨xs24, ho25, hl26, hxs27⟩, e23⟩
    have hs30 := World.grownBy.size G
    have hs31 := Below.size e23
    replace hR := hR.ext e23
    replace G := grown_trans G (Ext.to_grown e23 _)
    replace hB4 := hB4.ext e23
    refine Sq.call fn32 .plain rfl rfl (of_c _ _ _ _ _ _ hR (hb.go G) hbl (by omega) _ xs24 (Own.row ho25) (by first | omega | simp)) ?_
    rintro _ w33 ⟨⟨p34, hp37, hB36, g35⟩, ⟨s38, rfl, hm39⟩⟩
    have hs40 := World.grownBy.size g35
    have hs41 := World.grownBy.size G
    have hs42 := World.grownBy.size g35
    replace G := grown_trans G g35
    replace hB4 := hB4.grown g35 (by intro h; injection h with h; omega)
    replace hR := hB36
    have hd54 := hR.lt
    have hd55 := hB4.lt
    refine Sq.call fn12 .plain rfl rfl (parseA2_c s38 (by have := hxs27 _ hm39; omega) _) ?_
    rintro _ w44 ⟨⟨u46, ok47, a48, rfl, ⟨nx49, ac50, rfl, hn51, ha52⟩, hpd53⟩, e45⟩
    have hs56 := World.grownBy.size G
    have hs57 := Below.size e45
    replace hR := hR.ext e45
    replace G := grown_trans G (Ext.to_grown e45 _)
    replace hB4 := hB4.ext e45
    refine Sq.move .plain rfl rfl ?_
    refine Sq.extract .plain rfl rfl rfl ?_
    refine Sq.extract .plain rfl rfl rfl ?_
    refine Sq.alloc zero26 .plain rfl (fun b58 w59 e60 hB61 hlo62 => ?_)
    have hd63 := Nat.lt_of_lt_of_le hR.lt hlo62
    have hd64 := Nat.le_trans (World.grownBy.size G) hlo62
    have hd65 := Nat.lt_of_lt_of_le hB4.lt hlo62
    have hs66 := Below.size e60
    replace hR := hR.ext e60
    replace G := grown_trans G (Ext.to_grown e60 _)
    replace hB4 := hB4.ext e60
    replace hn51 := hn51.ext e60
    replace ha52 := ha52.ext e60
    refine Sq.storeAgg agg26 .plain rfl rfl (one_cons rfl (one_cons (Rows.one (OwnRows.rows hn51)) (one_cons (Row.one (Own.row ha52)) one_nil))) hB61 rfl rfl (fun w67 g68 hB69 => ?_)
    have hs70 := World.grownBy.size g68
    replace hR := hR.grown g68 (by intro h; injection h with h; omega)
    replace G := grown_far G g68 (fun k hk => by injection hk with hk; subst hk; omega)
    replace hB4 := hB4.grown g68 (by intro h; injection h with h; omega)
    replace hn51 := hn51.stored g68 hB61 (by decide) (by decide)
    replace ha52 := ha52.stored g68 hB61 (by decide)
    replace hB61 := hB69
    refine Sq.assign .plain rfl rfl ?_
    refine Sq.nil ?_
    refine Eq.next ?_
    refine Cq.seq ?_
    refine Cq.region ?_
    refine Sq.move .plain rfl rfl ?_
    refine Sq.partB (fun hok => ?_) (fun hok => ?_)
    · refine Sq.nil ?_
      refine Eq.next ?_
      refine Cq.thn rfl ?_
      refine Cq.seq ?_
      refine Cq.region ?_
      refine Sq.loadAgg agg26 .plain rfl rfl hB61 rfl ?_
      refine Sq.storeAgg agg26 .plain rfl rfl (one_cons rfl (one_cons (Rows.one (OwnRows.rows hn51)) (one_cons (Row.one (Own.row ha52)) one_nil))) hB4 rfl rfl (fun w71 g72 hB73 => ?_)
      have hs74 := World.grownBy.size g72
      replace hR := hR.grown g72 (by intro h; injection h with h; omega)
      replace G := grown_far G g72 (fun k hk => by injection hk with hk; subst hk; omega)
      replace hn51 := hn51.stored g72 hB4 (by decide) (by decide)
      replace ha52 := ha52.stored g72 hB4 (by decide)
      replace hB4 := hB73
      refine Sq.nil ?_
      refine Eq.next ?_
      refine Cq.ret ?_
      refine Eq.pastRet ?_
      refine Eq.retCell rfl rfl agg26 hB4 rfl ?_
      exact ⟨⟨_, by omega, hR, G⟩, _, ⟨_, _, rfl, (OwnRows.rows hn51), (Own.row ha52)⟩, (hpd53.1 hok).1⟩
    refine Sq.nil ?_
    refine Eq.next ?_
    refine Cq.els rfl ?_
    refine Cq.skip ?_
    refine Eq.next ?_
    refine Cq.seq ?_
    refine Cq.region ?_
    refine Sq.move .plain rfl rfl ?_
    refine Sq.move .plain rfl rfl ?_
    refine Sq.lit sl36 rfl rfl .plain rfl rfl (one_cons rfl (one_cons rfl (one_cons rfl (one_cons rfl (one_cons rfl (one_cons rfl (one_cons rfl one_nil))))))) (fun b75 w76 e77 hlo78 ho79 _ => ?_)
    replace ho79 := ho79 w67.heap.size (Nat.le_refl _)
    have hs81 := Below.size e77
    replace hR := hR.ext e77
    replace G := grown_trans G (Ext.to_grown e77 _)
    replace hB4 := hB4.ext e77
    refine Sq.call fn52 .plain rfl rfl (num_c _ _ _ _ _ _ hR (hb.go G) hbl (by omega) _ [3, 6, 7, 5, 1, 0, 2] (Own.row ho79) (by simp)) ?_
    rintro _ w83 ⟨⟨p84, hp87, hB86, g85⟩, ⟨k88, rfl, hm89⟩⟩
    have hs90 := World.grownBy.size g85
    have hs91 := World.grownBy.size G
    have hs92 := World.grownBy.size g85
    replace G := grown_trans G g85
    replace hB4 := hB4.grown g85 (by intro h; injection h with h; omega)
    replace hR := hB86
    simp only [List.mem_cons, List.not_mem_nil, or_false] at hm89
    refine Sq.call fn51 .plain rfl rfl (l3Over_c _ _ _ _ _ _ hR (hb.go G) hbl (by omega) k88 (by omega)) ?_
    rintro _ w94 ⟨⟨p95, hp98, hB97, g96⟩, ⟨a99, ⟨nx100, ac101, rfl, hn102, ha103⟩, hv104, hal105⟩⟩
    have hs106 := World.grownBy.size g96
    have hs107 := World.grownBy.size G
    have hs108 := World.grownBy.size g96
    replace G := grown_trans G g96
    replace hB4 := hB4.grown g96 (by intro h; injection h with h; omega)
    replace hR := hB97
    refine Sq.storeAgg agg26 .plain rfl rfl (one_cons rfl (one_cons (Rows.one (OwnRows.rows hn102)) (one_cons (Row.one (Own.row ha103)) one_nil))) hB4 rfl rfl (fun w109 g110 hB111 => ?_)
    have hs112 := World.grownBy.size g110
    replace hR := hR.grown g110 (by intro h; injection h with h; omega)
    replace G := grown_far G g110 (fun k hk => by injection hk with hk; subst hk; omega)
    replace hn102 := hn102.stored g110 hB4 (by decide) (by decide)
    replace ha103 := ha103.stored g110 hB4 (by decide)
    replace hB4 := hB111
    refine Sq.nil ?_
    refine Eq.next ?_
    refine Cq.ret ?_
    refine Eq.retCell rfl rfl agg26 hB4 rfl ?_
    exact ⟨⟨_, by omega, hR, G⟩, _, ⟨_, _, rfl, (OwnRows.rows hn102), (Own.row ha103)⟩, hv104⟩
  refine Sq.nil ?_
  refine Eq.next ?_
  refine Cq.els rfl ?_
  refine Cq.skip ?_
  refine Eq.next ?_
  refine Cq.seq ?_
  refine Cq.region ?_
  refine Sq.move .plain rfl rfl ?_
  refine Sq.move .plain rfl rfl ?_
  refine Sq.lit sl36 rfl rfl .plain rfl rfl (one_cons rfl (one_cons rfl (one_cons rfl (one_cons rfl (one_cons rfl (one_cons rfl (one_cons rfl one_nil))))))) (fun b113 w114 e115 hlo116 ho117 _ => ?_)
  replace ho117 := ho117 w10.heap.size (Nat.le_refl _)
  have hs119 := Below.size e115
  replace hR := hR.ext e115
  replace G := grown_trans G (Ext.to_grown e115 _)
  replace hB4 := hB4.ext e115
  refine Sq.call fn52 .plain rfl rfl (num_c _ _ _ _ _ _ hR (hb.go G) hbl (by omega) _ [3, 6, 7, 5, 1, 0, 2] (Own.row ho117) (by simp)) ?_
  rintro _ w121 ⟨⟨p122, hp125, hB124, g123⟩, ⟨k126, rfl, hm127⟩⟩
  have hs128 := World.grownBy.size g123
  have hs129 := World.grownBy.size G
  have hs130 := World.grownBy.size g123
  replace G := grown_trans G g123
  replace hB4 := hB4.grown g123 (by intro h; injection h with h; omega)
  replace hR := hB124
  simp only [List.mem_cons, List.not_mem_nil, or_false] at hm127
  refine Sq.call fn51 .plain rfl rfl (l3Over_c _ _ _ _ _ _ hR (hb.go G) hbl (by omega) k126 (by omega)) ?_
  rintro _ w132 ⟨⟨p133, hp136, hB135, g134⟩, ⟨a137, ⟨nx138, ac139, rfl, hn140, ha141⟩, hv142, hal143⟩⟩
  have hs144 := World.grownBy.size g134
  have hs145 := World.grownBy.size G
  have hs146 := World.grownBy.size g134
  replace G := grown_trans G g134
  replace hB4 := hB4.grown g134 (by intro h; injection h with h; omega)
  replace hR := hB135
  refine Sq.storeAgg agg26 .plain rfl rfl (one_cons rfl (one_cons (Rows.one (OwnRows.rows hn140)) (one_cons (Row.one (Own.row ha141)) one_nil))) hB4 rfl rfl (fun w147 g148 hB149 => ?_)
  have hs150 := World.grownBy.size g148
  replace hR := hR.grown g148 (by intro h; injection h with h; omega)
  replace G := grown_far G g148 (fun k hk => by injection hk with hk; subst hk; omega)
  replace hn140 := hn140.stored g148 hB4 (by decide) (by decide)
  replace ha141 := ha141.stored g148 hB4 (by decide)
  replace hB4 := hB149
  refine Sq.nil ?_
  refine Eq.next ?_
  refine Cq.ret ?_
  refine Eq.retCell rfl rfl agg26 hB4 rfl ?_
  exact ⟨⟨_, by omega, hR, G⟩, _, ⟨_, _, rfl, (OwnRows.rows hn140), (Own.row ha141)⟩, hv142⟩
set_option maxRecDepth 100000 in
theorem drawFmt_c (w0 : World) (e : TypeId) (a0 : Option Addr) (c0 : Nat) (cs : List UInt8) (hc : Bytes w0 e (.slice a0 cs.length c0) cs) (hcap : cs.length ≤ c0) : Ret Tryz.prog 4 #[Value.slice a0 cs.length c0] w0 (fun v w => (∃ a, RowsA w v a ∧ Small 400 a) ∧ Ext w0 w) := by
  have E := Ext.refl w0
  refine Ret.of (args := [Value.slice a0 cs.length c0]) Tryz.func4 rfl rfl rfl ?_
  rintro _ rfl
  show Cq _ _ _ _ [(0, Value.slice a0 cs.length c0)] _
  refine Cq.seq ?_
  refine Cq.region ?_
  refine Sq.alloc zero26 .plain rfl (fun b1 w2 e3 hB4 hlo5 => ?_)
  have hd6 := Nat.le_trans (Below.size E) hlo5
  have hs7 := Below.size e3
  replace E := E.trans e3
  refine Sq.nil ?_
  refine Eq.next ?_
  refine Cq.seq ?_
  refine Cq.region ?_
  refine Sq.move .plain rfl rfl ?_
  have hd17 := hB4.lt
  refine Sq.call fn13 .plain rfl rfl (drawValid_c _ _ _ _ _ (hc.ext E) hcap) ?_
  rintro _ w9 ⟨⟨a11, ⟨nx12, ac13, rfl, hn14, ha15⟩, hsm16⟩, e10⟩
  have hs18 := Below.size E
  have hs19 := Below.size e10
  replace E := E.trans e10
  replace hB4 := hB4.ext e10
  refine Sq.storeAgg agg26 .plain rfl rfl (one_cons rfl (one_cons (Rows.one hn14) (one_cons (Row.one ha15) one_nil))) hB4 rfl rfl (fun w20 g21 hB22 => ?_)
  have hs23 := World.grownBy.size g21
  replace E := E.grown g21 (fun k hk => by injection hk with hk; subst hk; omega)
  replace hn14 := hn14.stored g21 hB4 (by decide) (by decide)
  replace ha15 := ha15.stored g21 hB4 (by decide)
  replace hB4 := hB22
  refine Sq.nil ?_
  refine Eq.next ?_
  refine Cq.ret ?_
  refine Eq.retCell rfl rfl agg26 hB4 rfl ?_
  exact ⟨⟨_, ⟨_, _, rfl, hn14, ha15⟩, by first | exact (Small.of hsm16).mono (by omega) | exact Small.mono hsm16 (by omega) | exact (Small.of hsm16).mono (by omega) | exact Small.mono hsm16 (by omega)⟩, E⟩
set_option maxRecDepth 100000 in
theorem drawPar_c (w0 : World) (e : TypeId) (a0 : Option Addr) (c0 : Nat) (cs : List UInt8) (hc : Bytes w0 e (.slice a0 cs.length c0) cs) (hcap : cs.length ≤ c0) : Ret Tryz.prog 11 #[Value.slice a0 cs.length c0] w0 (fun v w => (∃ s, v = .string s ∧ s.size ≤ 2000) ∧ Ext w0 w) := by
  have E := Ext.refl w0
  refine Ret.of (args := [Value.slice a0 cs.length c0]) Tryz.func11 rfl rfl rfl ?_
  rintro _ rfl
  show Cq _ _ _ _ [(0, Value.slice a0 cs.length c0)] _
  refine Cq.seq ?_
  refine Cq.region ?_
  refine Sq.assign .plain rfl rfl ?_
  refine Sq.nil ?_
  refine Eq.next ?_
  refine Cq.seq ?_
  refine Cq.region ?_
  refine Sq.move .plain rfl rfl ?_
  refine Sq.call fn29 .plain rfl rfl (open_c _ _ _ _ _ (hc.ext E) hcap) ?_
  rintro _ w1 ⟨⟨rb, bv, bs, rfl, hrb, hR, hb, hbl⟩, e2⟩
  have hrlt := hR.lt
  have hd3 := Nat.le_trans (Below.size E) hrb
  have hs4 := Below.size e2
  replace E := E.trans e2
  have G := World.grownBy.refl w1 (some rb)
  refine Sq.assign .plain rfl rfl ?_
  refine Sq.nil ?_
  refine Eq.next ?_
  refine Cq.seq ?_
  refine Cq.region ?_
  refine Sq.move .plain rfl rfl ?_
  refine Sq.call fn30 .plain rfl rfl (l3DrawV_c _ _ _ _ _ _ hR (hb.go G) hbl (by omega) ) ?_
  rintro _ w6 ⟨⟨p7, hp10, hB9, g8⟩, ⟨a11, ⟨nx12, ac13, rfl, hn14, ha15⟩, hv16⟩⟩
  have hs17 := World.grownBy.size g8
  have hs18 := Below.size E
  have hs19 := World.grownBy.size G
  have hs20 := World.grownBy.size g8
  replace E := E.grown g8 (fun k hk => by injection hk with hk; subst hk; omega)
  replace G := grown_trans G g8
  replace hR := hB9
  have hd24 := hR.lt
  refine Sq.call fn7 .plain rfl rfl (fmtV_c _ a11 _ _ hn14 ha15) ?_
  rintro _ w22 ⟨rfl, e23⟩
  have hs25 := Below.size E
  have hs26 := World.grownBy.size G
  have hs27 := Below.size e23
  replace E := E.trans e23
  replace hR := hR.ext e23
  replace G := grown_trans G (Ext.to_grown e23 _)
  refine Sq.assign .plain rfl rfl ?_
  refine Sq.nil ?_
  refine Eq.next ?_
  refine Cq.seq ?_
  refine Cq.seq ?_
  refine Cq.region ?_
  have hz1 := fmtV_some hv16
  have hz2 := fmtV_size a11
  refine Sq.move .plain rfl rfl ?_
  refine Sq.call fn31 .plain rfl rfl (pick_c _ _ _ _ _ _ hR (hb.go G) hbl (by omega) 2 (by omega)) ?_
  rintro _ w29 ⟨⟨p30, hp33, hB32, g31⟩, ⟨k34, rfl, hk35⟩⟩
  have hs36 := World.grownBy.size g31
  have hs37 := Below.size E
  have hs38 := World.grownBy.size G
  have hs39 := World.grownBy.size g31
  replace E := E.grown g31 (fun k hk => by injection hk with hk; subst hk; omega)
  replace G := grown_trans G g31
  replace hR := hB32
  refine Sq.eql .plain rfl rfl rfl ?_
  refine Sq.part (fun c40 => ?_) (fun c40 => ?_)
  · refine Sq.nil ?_
    refine Eq.next ?_
    refine Cq.thn rfl ?_
    refine Cq.seq ?_
    refine Cq.region ?_
    refine Sq.move .plain rfl rfl ?_
    refine Sq.assign .plain rfl rfl ?_
    refine Sq.nil ?_
    refine Eq.next ?_
    refine Cq.ret ?_
    refine Eq.pastRet ?_
    refine Eq.ret1 rfl rfl ?_
    exact ⟨⟨_, rfl, by first | omega | (simp only [size_cat]; refine Nat.le_trans (Nat.add_le_add (Nat.add_le_add (Nat.le_trans (size_cut _) hz2) (by assumption)) (Nat.le_trans (size_cut _) hz2)) (by decide))⟩, E⟩
  refine Sq.nil ?_
  refine Eq.next ?_
  refine Cq.els rfl ?_
  refine Cq.skip ?_
  refine Eq.next ?_
  refine Cq.seq ?_
  refine Cq.region ?_
  refine Sq.move .plain rfl rfl ?_
  refine Sq.move .plain rfl rfl ?_
  refine Sq.lenStr .plain rfl und9 rfl ?_
  refine Sq.call fn31 .plain rfl rfl (pick_c _ _ _ _ _ _ hR (hb.go G) hbl (by omega) ((ByteArray.size (fmtV a11) : Int)) (by omega)) ?_
  rintro _ w42 ⟨⟨p43, hp46, hB45, g44⟩, ⟨k47, rfl, hk48⟩⟩
  have hs49 := World.grownBy.size g44
  have hs50 := Below.size E
  have hs51 := World.grownBy.size G
  have hs52 := World.grownBy.size g44
  replace E := E.grown g44 (fun k hk => by injection hk with hk; subst hk; omega)
  replace G := grown_trans G g44
  replace hR := hB45
  refine Sq.assign .plain rfl rfl ?_
  refine Sq.nil ?_
  refine Eq.next ?_
  refine Cq.seq ?_
  refine Cq.draw 14 (some rb) mixed (fun w53 e54 => ?_)
  have hs55 := Below.size e54
  replace E := E.trans e54
  replace hR := hR.ext e54
  replace G := grown_trans G (Ext.to_grown e54 _)
  refine Gq.st 0 rfl (by kernel_rfl) rfl .plain rfl (fun _ _ _ h => h) (World.grownBy.refl w53 _) (fun w' x => Still.move rfl) ?_
  refine Gq.st 1 rfl (by kernel_rfl) rfl .plain rfl (fun _ _ _ h => h) (World.grownBy.refl w53 _) (fun w' x => Still.move rfl) ?_
  refine Gq.st 2 rfl (by kernel_rfl) rfl .plain rfl (fun _ _ _ h => h) (World.grownBy.refl w53 _) (fun w' x => Still.cutH und9 rfl rfl (by omega)) ?_
  refine Gq.st 3 rfl (by kernel_rfl) rfl .plain rfl (fun _ _ _ h => h) (World.grownBy.refl w53 _) (fun w' x => Still.move rfl) ?_
  refine Gq.st 7 rfl (by kernel_rfl) rfl .plain rfl (fun _ _ _ h => h) (World.grownBy.refl w53 _) (fun w' x => Still.move rfl) ?_
  refine Gq.st 8 rfl (by kernel_rfl) rfl .plain rfl (fun _ _ _ h => h) (World.grownBy.refl w53 _) (fun w' x => Still.move rfl) ?_
  refine Gq.st 9 rfl (by kernel_rfl) rfl .plain rfl (fun _ _ _ h => h) (World.grownBy.refl w53 _) (fun w' x => Still.move rfl) ?_
  refine Gq.one 4 rfl (by kernel_rfl) ?_
  refine Sq.lit sl37 rfl rfl .plain rfl rfl (one_cons rfl (one_cons rfl (one_cons rfl (one_cons rfl (one_cons rfl (one_cons rfl (one_cons rfl (one_cons rfl one_nil)))))))) (fun b56 w57 e58 hlo59 ho60 _ => ?_)
  replace ho60 := ho60 w53.heap.size (Nat.le_refl _)
  have hs62 := Below.size e58
  replace E := E.trans e58
  replace hR := hR.ext e58
  replace G := grown_trans G (Ext.to_grown e58 _)
  refine Sq.nil ?_
  refine Eq.goes (fun _ => (grown_trans (World.grownBy.refl w53 _) (Ext.to_grown e58 _))) ?_
  refine Gq.one 5 rfl (by kernel_rfl) ?_
  refine Sq.call fn32 .plain rfl rfl (of_c _ _ _ _ _ _ hR (hb.go G) hbl (by omega) _ (([(⟨#[]⟩ : ByteArray), (⟨#[32]⟩ : ByteArray), (⟨#[44]⟩ : ByteArray), (⟨#[48]⟩ : ByteArray), (⟨#[43]⟩ : ByteArray), (⟨#[45]⟩ : ByteArray), (⟨#[97]⟩ : ByteArray), (⟨#[49]⟩ : ByteArray)] : List ByteArray)) (Own.row ho60) (by first | omega | simp)) ?_
  rintro _ w64 ⟨⟨p65, hp68, hB67, g66⟩, ⟨s69, rfl, hm70⟩⟩
  have hs71 := World.grownBy.size g66
  have hs72 := Below.size E
  have hs73 := World.grownBy.size G
  have hs74 := World.grownBy.size g66
  replace E := E.grown g66 (fun k hk => by injection hk with hk; subst hk; omega)
  replace G := grown_trans G g66
  replace hR := hB67
  have hz75 := of_size (n := 10) (by decide) hm70
  refine Sq.nil ?_
  refine Eq.goes (fun _ => (grown_trans (grown_trans (World.grownBy.refl w53 _) (Ext.to_grown e58 _)) g66)) ?_
  refine Gq.st 6 rfl (by kernel_rfl) rfl .plain rfl (fun _ _ _ h => h) (grown_trans (grown_trans (World.grownBy.refl w53 _) (Ext.to_grown e58 _)) g66) (fun w' x => Still.cat rfl rfl (by first | omega | (simp only [size_cat]; omega) | (simp only [chr_size]; omega) | (simp; omega))) ?_
  refine Gq.one 10 rfl (by kernel_rfl) ?_
  refine Sq.call fn31 .plain rfl rfl (pick_c _ _ _ _ _ _ hR (hb.go G) hbl (by omega) 2 (by omega)) ?_
  rintro _ w77 ⟨⟨p78, hp81, hB80, g79⟩, ⟨k82, rfl, hk83⟩⟩
  have hs84 := World.grownBy.size g79
  have hs85 := Below.size E
  have hs86 := World.grownBy.size G
  have hs87 := World.grownBy.size g79
  replace E := E.grown g79 (fun k hk => by injection hk with hk; subst hk; omega)
  refine Sq.nil ?_
  refine Eq.goes (fun _ => (grown_trans (grown_trans (grown_trans (World.grownBy.refl w53 _) (Ext.to_grown e58 _)) g66) g79)) ?_
  refine Gq.st 11 rfl (by kernel_rfl) rfl .plain rfl (fun _ _ _ h => h) (grown_trans (grown_trans (grown_trans (World.grownBy.refl w53 _) (Ext.to_grown e58 _)) g66) g79) (fun w' x => Still.add rfl rfl (by omega)) ?_
  refine Gq.st 12 rfl (by kernel_rfl) rfl .plain rfl (fun _ _ _ h => h) (grown_trans (grown_trans (grown_trans (World.grownBy.refl w53 _) (Ext.to_grown e58 _)) g66) g79) (fun w' x => Still.cutL und9 rfl rfl (by omega)) ?_
  refine Gq.st 13 rfl (by kernel_rfl) rfl .plain rfl (fun _ _ _ h => h) (grown_trans (grown_trans (grown_trans (World.grownBy.refl w53 _) (Ext.to_grown e58 _)) g66) g79) (fun w' x => Still.cat rfl rfl (by first | omega | (simp only [size_cat]; omega) | (simp only [chr_size]; omega) | (simp; omega))) ?_
  refine Gq.one 14 rfl (by kernel_rfl) ?_
  refine Sq.assign .plain rfl rfl ?_
  refine Sq.nil ?_
  refine Eq.goes (fun h => absurd h (by decide)) ?_
  refine Gq.done (by kernel_rfl) ?_
  refine Eq.next ?_
  refine Cq.ret ?_
  refine Eq.ret1 rfl rfl ?_
  exact ⟨⟨_, rfl, by first | omega | (simp only [size_cat]; refine Nat.le_trans (Nat.add_le_add (Nat.add_le_add (Nat.le_trans (size_cut _) hz2) (by assumption)) (Nat.le_trans (size_cut _) hz2)) (by decide))⟩, E⟩
end Go.Proofs.YtnckpafknojdhaaGreatDoor
set_option linter.unusedSimpArgs false
set_option linter.unusedVariables false
namespace Go.Proofs.YtnckpafknojdhaaGreatDoor
open Go.RowKit
theorem Parsed.fit {s : ByteArray} {ok : Bool} {a : A} (h : Parsed s ok a) : Fit a := by
  cases hk : ok with
  | true => exact fit_of_valid (h.1 hk).1
  | false => rw [h.2.1 hk]; exact fit_zero
theorem fmtV_text {a : A} {v : Bool} (hv : validA a = v) : decide (¬ (fmtV a).data.toList = (⟨#[]⟩ : ByteArray).data.toList) = v := by
  cases v with
  | true =>
    refine decide_eq_true fun e => ?_
    have h := fmtV_some hv
    rw [bytes_ext e] at h
    exact absurd h (by decide)
  | false => rw [fmtV_no hv]; rfl
theorem parseA2_s (s : ByteArray) (hs : s.size ≤ 2000000) (ok : Bool) (a : A) (hp : Parsed s ok a) (w0 : World) : Ret Tryz.prog 12 #[Value.string s] w0 (fun v w => (∃ u, v = .tuple #[u, .bool ok] ∧ OwnA w w0.heap.size u a) ∧ Ext w0 w) :=
  (parseA2_c s hs w0).mono fun v w h => by
    obtain ⟨⟨u, ok', a', rfl, ho, hp'⟩, x⟩ := h
    obtain ⟨rfl, rfl⟩ := hp.same hp'
    exact ⟨⟨u, rfl, ho⟩, x⟩
theorem parseAI_v (a : A) (hv : validA a = true) (w0 : World) (hE : ErrCell w0 2) (hE' : ErrCell w0 3) : Ret Tryz.prog 9 #[Value.string (fmtV a)] w0 (fun v w => (∃ u, v = .tuple #[u, .bool true] ∧ OwnA w w0.heap.size u a) ∧ Ext w0 w) :=
  (parseAI_c (fmtV a) (Nat.le_trans (fmtV_size a) (by decide)) w0 hE hE').mono fun v w h => by
    obtain ⟨⟨u, ok', a', rfl, ho, hp'⟩, x⟩ := h
    obtain ⟨rfl, rfl⟩ := hp'.2.2 a hv rfl
    exact ⟨⟨u, rfl, ho⟩, x⟩
set_option maxRecDepth 100000 in
theorem lText (w0 : World) (e : TypeId) (a0 : Option Addr) (c0 : Nat) (cs : List UInt8) (hc : Bytes w0 e (.slice a0 cs.length c0) cs) (hcap : cs.length ≤ c0) (e' : TypeId) (a0' : Option Addr) (c0' : Nat) (cs' : List UInt8) (hc' : Bytes w0 e' (.slice a0' cs'.length c0') cs') (hcap' : cs'.length ≤ c0') (hE : ErrCell w0 2) (hE' : ErrCell w0 3) : Ret Tryz.prog 3 #[Value.slice a0 cs.length c0, Value.slice a0' cs'.length c0'] w0 (fun v w => v = .bool true ∧ Ext w0 w) := by
  have E := Ext.refl w0
  refine Ret.of (args := [Value.slice a0 cs.length c0, Value.slice a0' cs'.length c0']) Tryz.func3 rfl rfl rfl ?_
  rintro _ rfl
  show Cq _ _ _ _ [(0, Value.slice a0 cs.length c0), (1, Value.slice a0' cs'.length c0')] _
  refine Cq.seq ?_
  refine Cq.region ?_
  refine Sq.assign .plain rfl rfl ?_
  refine Sq.nil ?_
  refine Eq.next ?_
  refine Cq.seq ?_
  refine Cq.seq ?_
  refine Cq.region ?_
  refine Sq.move .plain rfl rfl ?_
  refine Sq.lenBytes (hc.ext E) .plain rfl und22 rfl ?_
  refine Sq.gtr .plain rfl rfl rfl ?_
  refine Sq.part (fun c1 => ?_) (fun c1 => ?_)
  · refine Sq.move .plain rfl rfl ?_
    refine Sq.off rfl rfl rfl rfl rfl rfl ?_
    refine Sq.off rfl rfl rfl rfl rfl rfl ?_
    refine Sq.off rfl rfl rfl rfl rfl rfl ?_
    refine Sq.pickT .plain rfl rfl rfl ?_
    refine Sq.nil ?_
    refine Eq.next ?_
    refine Cq.thn rfl ?_
    refine Cq.seq ?_
    refine Cq.region ?_
    refine Sq.assign .plain rfl rfl ?_
    refine Sq.nil ?_
    refine Eq.next ?_
    refine Cq.ret ?_
    refine Eq.pastRet ?_
    refine Eq.ret1 rfl rfl ?_
    exact ⟨rfl, E⟩
  refine Sq.move .plain rfl rfl ?_
  refine Sq.move (.met rfl rfl rfl) rfl rfl ?_
  refine Sq.lenBytes (hc'.ext E) (.met rfl rfl rfl) rfl und22 rfl ?_
  refine Sq.gtr (.met rfl rfl rfl) rfl rfl rfl ?_
  refine Sq.part (fun c2 => ?_) (fun c2 => ?_)
  · refine Sq.pickF .plain rfl rfl rfl ?_
    refine Sq.nil ?_
    refine Eq.next ?_
    refine Cq.thn rfl ?_
    refine Cq.seq ?_
    refine Cq.region ?_
    refine Sq.assign .plain rfl rfl ?_
    refine Sq.nil ?_
    refine Eq.next ?_
    refine Cq.ret ?_
    refine Eq.pastRet ?_
    refine Eq.ret1 rfl rfl ?_
    exact ⟨rfl, E⟩
  refine Sq.pickF .plain rfl rfl rfl ?_
  refine Sq.nil ?_
  refine Eq.next ?_
  refine Cq.els rfl ?_
  refine Cq.skip ?_
  refine Eq.next ?_
  refine Cq.seq ?_
  refine Cq.region ?_
  refine Sq.move .plain rfl rfl ?_
  refine Sq.call fn4 .plain rfl rfl (drawFmt_c _ _ _ _ _ (hc.ext E) hcap) ?_
  rintro _ w4 ⟨⟨a6, ⟨nx7, ac8, rfl, hn9, ha10⟩, hsm11⟩, e5⟩
  have hs12 := Below.size E
  have hs13 := Below.size e5
  replace E := E.trans e5
  refine Sq.alloc zero26 .plain rfl (fun b14 w15 e16 hB17 hlo18 => ?_)
  have hd19 := Nat.le_trans (Below.size E) hlo18
  have hs20 := Below.size e16
  replace E := E.trans e16
  replace hn9 := hn9.ext e16
  replace ha10 := ha10.ext e16
  refine Sq.storeAgg agg26 .plain rfl rfl (one_cons rfl (one_cons (Rows.one hn9) (one_cons (Row.one ha10) one_nil))) hB17 rfl rfl (fun w21 g22 hB23 => ?_)
  have hs24 := World.grownBy.size g22
  replace E := E.grown g22 (fun k hk => by injection hk with hk; subst hk; omega)
  replace hn9 := hn9.stored g22 hB17 (by decide) (by decide)
  replace ha10 := ha10.stored g22 hB17 (by decide)
  replace hB17 := hB23
  refine Sq.nil ?_
  refine Eq.next ?_
  refine Cq.seq ?_
  refine Cq.region ?_
  refine Sq.loadAgg agg26 .plain rfl rfl hB17 rfl ?_
  have hd28 := hB17.lt
  refine Sq.call fn5 .plain rfl rfl (fmtVI_c _ a6 _ _ hn9 ha10) ?_
  rintro _ w26 ⟨rfl, e27⟩
  have hs29 := Below.size E
  have hs30 := Below.size e27
  replace E := E.trans e27
  replace hn9 := hn9.ext e27
  replace ha10 := ha10.ext e27
  replace hB17 := hB17.ext e27
  refine Sq.assign .plain rfl rfl ?_
  refine Sq.nil ?_
  refine Eq.next ?_
  refine Cq.seq ?_
  refine Cq.region ?_
  refine Sq.loadAgg agg26 .plain rfl rfl hB17 rfl ?_
  have hd34 := hB17.lt
  refine Sq.call fn6 .plain rfl rfl (valid_c _ a6 _ _ hn9 ha10) ?_
  rintro _ w32 ⟨rfl, e33⟩
  have hs35 := Below.size E
  have hs36 := Below.size e33
  replace E := E.trans e33
  replace hn9 := hn9.ext e33
  replace ha10 := ha10.ext e33
  replace hB17 := hB17.ext e33
  refine Sq.assign .plain rfl rfl ?_
  refine Sq.nil ?_
  refine Eq.next ?_
  refine Cq.seq ?_
  refine Cq.seq ?_
  refine Cq.region ?_
  refine Sq.move .plain rfl rfl ?_
  refine Sq.loadAgg agg26 .plain rfl rfl hB17 rfl ?_
  have hd40 := hB17.lt
  refine Sq.call fn7 .plain rfl rfl (fmtV_c _ a6 _ _ hn9 ha10) ?_
  rintro _ w38 ⟨rfl, e39⟩
  have hs41 := Below.size E
  have hs42 := Below.size e39
  replace E := E.trans e39
  replace hn9 := hn9.ext e39
  replace ha10 := ha10.ext e39
  replace hB17 := hB17.ext e39
  refine Sq.neqS .plain rfl rfl rfl ?_
  refine Sq.isF (fun h => h rfl) ?_
  refine Sq.move .plain rfl rfl ?_
  refine Sq.move (.met rfl rfl rfl) rfl rfl ?_
  refine Sq.partB (fun hv => ?_) (fun hv => ?_)
  · refine Sq.loadAgg agg26 (.met rfl rfl rfl) rfl rfl hB17 rfl ?_
    have hd46 := hB17.lt
    refine Sq.call fn8 (.met rfl rfl rfl) rfl rfl (sValid_c _ a6 _ _ hn9 ha10) ?_
    rintro _ w44 ⟨rfl, e45⟩
    have hs47 := Below.size E
    have hs48 := Below.size e45
    replace E := E.trans e45
    replace hn9 := hn9.ext e45
    replace ha10 := ha10.ext e45
    replace hB17 := hB17.ext e45
    refine Sq.neqB und4 (.met rfl rfl rfl) rfl rfl rfl ?_
    refine Sq.beF (by rw [hv]; decide) ?_
    refine Sq.pickF .plain rfl rfl rfl ?_
    refine Sq.move .plain rfl rfl ?_
    refine Sq.move (.met rfl rfl rfl) rfl rfl ?_
    refine Sq.neqS (.met rfl rfl rfl) rfl rfl rfl ?_
    refine Sq.isT (of_decide_eq_true (fmtV_text hv)) ?_
    refine Sq.move (.met rfl rfl rfl) rfl rfl ?_
    refine Sq.beT (hv) ?_
    refine Sq.neqB und4 (.met rfl rfl rfl) rfl rfl rfl ?_
    refine Sq.pickF .plain rfl rfl rfl ?_
    refine Sq.nil ?_
    refine Eq.next ?_
    refine Cq.els rfl ?_
    refine Cq.skip ?_
    refine Eq.next ?_
    refine Cq.seq ?_
    refine Cq.seq ?_
    refine Cq.region ?_
    refine Sq.move .plain rfl rfl ?_
    refine Sq.beT (hv) ?_
    refine Sq.nil ?_
    refine Eq.next ?_
    refine Cq.thn rfl ?_
    refine Cq.seq ?_
    refine Cq.region ?_
    refine Sq.move .plain rfl rfl ?_
    have hd57 := hB17.lt
    refine Sq.call fn9 .plain rfl rfl (parseAI_v _ hv _ (hE.ext E) (hE'.ext E)) ?_
    rintro _ w50 ⟨⟨u52, rfl, ⟨nx53, ac54, rfl, hn55, ha56⟩⟩, e51⟩
    have hs58 := Below.size E
    have hs59 := Below.size e51
    replace E := E.trans e51
    replace hn9 := hn9.ext e51
    replace ha10 := ha10.ext e51
    replace hB17 := hB17.ext e51
    have hl_ha56 := Own.low ha56
    refine Sq.move .plain rfl rfl ?_
    refine Sq.extract .plain rfl rfl rfl ?_
    refine Sq.extract .plain rfl rfl rfl ?_
    refine Sq.alloc zero26 .plain rfl (fun b60 w61 e62 hB63 hlo64 => ?_)
    have hd65 := Nat.le_trans (Below.size E) hlo64
    have hd66 := Nat.lt_of_lt_of_le hB17.lt hlo64
    have hs67 := Below.size e62
    replace E := E.trans e62
    replace hn9 := hn9.ext e62
    replace ha10 := ha10.ext e62
    replace hB17 := hB17.ext e62
    replace hn55 := hn55.ext e62
    replace ha56 := ha56.ext e62
    refine Sq.storeAgg agg26 .plain rfl rfl (one_cons rfl (one_cons (Rows.one (OwnRows.rows hn55)) (one_cons (Row.one (Own.row ha56)) one_nil))) hB63 rfl rfl (fun w68 g69 hB70 => ?_)
    have hs71 := World.grownBy.size g69
    replace E := E.grown g69 (fun k hk => by injection hk with hk; subst hk; omega)
    replace hn9 := hn9.stored g69 hB63 (by decide) (by decide)
    replace ha10 := ha10.stored g69 hB63 (by decide)
    replace hB17 := hB17.grown g69 (by intro h; injection h with h; omega)
    replace hn55 := hn55.stored g69 hB63 (by decide) (by decide)
    replace ha56 := ha56.stored g69 hB63 (by decide)
    replace hB63 := hB70
    refine Sq.assign .plain rfl rfl ?_
    refine Sq.nil ?_
    refine Eq.next ?_
    refine Cq.seq ?_
    refine Cq.region ?_
    refine Sq.move .plain rfl rfl ?_
    refine Sq.notT .plain rfl rfl ?_
    refine Sq.move .plain rfl rfl ?_
    refine Sq.loadAgg agg26 (.met rfl rfl rfl) rfl rfl hB63 rfl ?_
    refine Sq.loadAgg agg26 (.met rfl rfl rfl) rfl rfl hB17 rfl ?_
    have hd75 := hB17.lt
    have hd76 := hB63.lt
    refine Sq.call fn10 (.met rfl rfl rfl) rfl rfl (agAutomata_c _ a6 a6 _ _ _ _ (OwnRows.rows hn55) (Own.row ha56) hn9 ha10 (by first | exact fit_of_valid hv | exact hpf | assumption)) ?_
    rintro _ w73 ⟨rfl, e74⟩
    have hs77 := Below.size E
    have hs78 := Below.size e74
    replace E := E.trans e74
    replace hB17 := hB17.ext e74
    replace hB63 := hB63.ext e74
    refine Sq.beT (by exact eqA_refl _) ?_
    refine Sq.notT (.met rfl rfl rfl) rfl rfl ?_
    refine Sq.pickF .plain rfl rfl rfl ?_
    refine Sq.nil ?_
    refine Eq.next ?_
    refine Cq.els rfl ?_
    refine Cq.skip ?_
    refine Eq.next ?_
    refine Cq.seq ?_
    refine Cq.region ?_
    refine Sq.move .plain rfl rfl ?_
    have hd84 := hB17.lt
    have hd85 := hB63.lt
    refine Sq.call fn11 .plain rfl rfl (drawPar_c _ _ _ _ _ (hc'.ext E) hcap') ?_
    rintro _ w80 ⟨⟨s82, rfl, hsz83⟩, e81⟩
    have hs86 := Below.size E
    have hs87 := Below.size e81
    replace E := E.trans e81
    replace hB17 := hB17.ext e81
    replace hB63 := hB63.ext e81
    refine Sq.assign .plain rfl rfl ?_
    refine Sq.nil ?_
    refine Eq.next ?_
    refine Cq.seq ?_
    refine Cq.region ?_
    refine Sq.move .plain rfl rfl ?_
    have hd99 := hB17.lt
    have hd100 := hB63.lt
    refine Sq.call fn9 .plain rfl rfl (parseAI_c s82 (by omega) _ (hE.ext E) (hE'.ext E)) ?_
    rintro _ w89 ⟨⟨u91, ok92, a93, rfl, ⟨nx94, ac95, rfl, hn96, ha97⟩, hpd98⟩, e90⟩
    have hs101 := Below.size E
    have hs102 := Below.size e90
    replace E := E.trans e90
    replace hB17 := hB17.ext e90
    replace hB63 := hB63.ext e90
    have hpf := hpd98.fit
    have hl_ha97 := Own.low ha97
    refine Sq.move .plain rfl rfl ?_
    refine Sq.extract .plain rfl rfl rfl ?_
    refine Sq.extract .plain rfl rfl rfl ?_
    refine Sq.alloc zero26 .plain rfl (fun b103 w104 e105 hB106 hlo107 => ?_)
    have hd108 := Nat.le_trans (Below.size E) hlo107
    have hd109 := Nat.lt_of_lt_of_le hB17.lt hlo107
    have hd110 := Nat.lt_of_lt_of_le hB63.lt hlo107
    have hs111 := Below.size e105
    replace E := E.trans e105
    replace hB17 := hB17.ext e105
    replace hB63 := hB63.ext e105
    replace hn96 := hn96.ext e105
    replace ha97 := ha97.ext e105
    refine Sq.storeAgg agg26 .plain rfl rfl (one_cons rfl (one_cons (Rows.one (OwnRows.rows hn96)) (one_cons (Row.one (Own.row ha97)) one_nil))) hB106 rfl rfl (fun w112 g113 hB114 => ?_)
    have hs115 := World.grownBy.size g113
    replace E := E.grown g113 (fun k hk => by injection hk with hk; subst hk; omega)
    replace hB17 := hB17.grown g113 (by intro h; injection h with h; omega)
    replace hB63 := hB63.grown g113 (by intro h; injection h with h; omega)
    replace hn96 := hn96.stored g113 hB106 (by decide) (by decide)
    replace ha97 := ha97.stored g113 hB106 (by decide)
    replace hB106 := hB114
    refine Sq.assign .plain rfl rfl ?_
    refine Sq.nil ?_
    refine Eq.next ?_
    refine Cq.seq ?_
    refine Cq.region ?_
    refine Sq.move .plain rfl rfl ?_
    have hd124 := hB17.lt
    have hd125 := hB63.lt
    have hd126 := hB106.lt
    refine Sq.call fn12 .plain rfl rfl (parseA2_s s82 (by omega) ok92 a93 hpd98 _) ?_
    rintro _ w117 ⟨⟨u119, rfl, ⟨nx120, ac121, rfl, hn122, ha123⟩⟩, e118⟩
    have hs127 := Below.size E
    have hs128 := Below.size e118
    replace E := E.trans e118
    replace hB17 := hB17.ext e118
    replace hB63 := hB63.ext e118
    replace hn96 := hn96.ext e118
    replace ha97 := ha97.ext e118
    replace hB106 := hB106.ext e118
    have hl_ha123 := Own.low ha123
    refine Sq.move .plain rfl rfl ?_
    refine Sq.extract .plain rfl rfl rfl ?_
    refine Sq.extract .plain rfl rfl rfl ?_
    refine Sq.alloc zero26 .plain rfl (fun b129 w130 e131 hB132 hlo133 => ?_)
    have hd134 := Nat.le_trans (Below.size E) hlo133
    have hd135 := Nat.lt_of_lt_of_le hB17.lt hlo133
    have hd136 := Nat.lt_of_lt_of_le hB63.lt hlo133
    have hd137 := Nat.lt_of_lt_of_le hB106.lt hlo133
    have hs138 := Below.size e131
    replace E := E.trans e131
    replace hB17 := hB17.ext e131
    replace hB63 := hB63.ext e131
    replace hn96 := hn96.ext e131
    replace ha97 := ha97.ext e131
    replace hB106 := hB106.ext e131
    replace hn122 := hn122.ext e131
    replace ha123 := ha123.ext e131
    refine Sq.storeAgg agg26 .plain rfl rfl (one_cons rfl (one_cons (Rows.one (OwnRows.rows hn122)) (one_cons (Row.one (Own.row ha123)) one_nil))) hB132 rfl rfl (fun w139 g140 hB141 => ?_)
    have hs142 := World.grownBy.size g140
    replace E := E.grown g140 (fun k hk => by injection hk with hk; subst hk; omega)
    replace hB17 := hB17.grown g140 (by intro h; injection h with h; omega)
    replace hB63 := hB63.grown g140 (by intro h; injection h with h; omega)
    replace hn96 := hn96.stored g140 hB132 (by decide) (by decide)
    replace ha97 := ha97.stored g140 hB132 (by decide)
    replace hB106 := hB106.grown g140 (by intro h; injection h with h; omega)
    replace hn122 := hn122.stored g140 hB132 (by decide) (by decide)
    replace ha123 := ha123.stored g140 hB132 (by decide)
    replace hB132 := hB141
    refine Sq.assign .plain rfl rfl ?_
    refine Sq.nil ?_
    refine Eq.next ?_
    refine Cq.seq ?_
    refine Cq.region ?_
    refine Sq.loadAgg agg26 .plain rfl rfl hB106 rfl ?_
    refine Sq.loadAgg agg26 .plain rfl rfl hB132 rfl ?_
    have hd146 := hB17.lt
    have hd147 := hB63.lt
    have hd148 := hB106.lt
    have hd149 := hB132.lt
    refine Sq.call fn10 .plain rfl rfl (agAutomata_c _ a93 a93 _ _ _ _ (OwnRows.rows hn96) (Own.row ha97) (OwnRows.rows hn122) (Own.row ha123) (by first | exact fit_of_valid hv | exact hpf | assumption)) ?_
    rintro _ w144 ⟨rfl, e145⟩
    have hs150 := Below.size E
    have hs151 := Below.size e145
    replace E := E.trans e145
    replace hB17 := hB17.ext e145
    replace hB63 := hB63.ext e145
    replace hn96 := hn96.ext e145
    replace ha97 := ha97.ext e145
    replace hB106 := hB106.ext e145
    replace hB132 := hB132.ext e145
    refine Sq.beT (by exact eqA_refl _) ?_
    refine Sq.move .plain rfl rfl ?_
    refine Sq.move (.met rfl rfl rfl) rfl rfl ?_
    refine Sq.move (.met rfl rfl rfl) rfl rfl ?_
    refine Sq.eqlB und4 (.met rfl rfl rfl) rfl rfl rfl ?_
    refine Sq.beT (beq_self_eq_true _) ?_
    refine Sq.pickT .plain rfl rfl rfl ?_
    refine Sq.move .plain rfl rfl ?_
    refine Sq.move (.met rfl rfl rfl) rfl rfl ?_
    refine Sq.partB (fun hok => ?_) (fun hok => ?_)
    · refine Sq.notT (.met rfl rfl rfl) rfl rfl ?_
      refine Sq.move (.met rfl rfl rfl) rfl rfl ?_
      refine Sq.loadAgg agg26 (.met rfl rfl rfl) rfl rfl hB106 rfl ?_
      have hd155 := hB17.lt
      have hd156 := hB63.lt
      have hd157 := hB106.lt
      have hd158 := hB132.lt
      refine Sq.call fn5 (.met rfl rfl rfl) rfl rfl (fmtVI_c _ a93 _ _ (OwnRows.rows hn96) (Own.row ha97)) ?_
      rintro _ w153 ⟨rfl, e154⟩
      have hs159 := Below.size E
      have hs160 := Below.size e154
      replace E := E.trans e154
      refine Sq.move (.met rfl rfl rfl) rfl rfl ?_
      refine Sq.eqlS (.met rfl rfl rfl) rfl rfl rfl ?_
      refine Sq.isT (by rw [(hpd98.1 hok).2]) ?_
      refine Sq.pickF (.met rfl rfl rfl) rfl rfl rfl ?_
      refine Sq.pickT .plain rfl rfl rfl ?_
      refine Sq.assign .plain rfl rfl ?_
      refine Sq.nil ?_
      refine Eq.next ?_
      refine Cq.ret ?_
      refine Eq.ret1 rfl rfl ?_
      exact ⟨rfl, E⟩
    refine Sq.notF (.met rfl rfl rfl) rfl rfl ?_
    refine Sq.move (.met rfl rfl rfl) rfl rfl ?_
    refine Sq.off rfl rfl rfl rfl rfl rfl ?_
    refine Sq.off rfl rfl rfl rfl rfl rfl ?_
    refine Sq.off rfl rfl rfl rfl rfl rfl ?_
    refine Sq.off rfl rfl rfl rfl rfl rfl ?_
    refine Sq.pickT (.met rfl rfl rfl) rfl rfl rfl ?_
    refine Sq.pickT .plain rfl rfl rfl ?_
    refine Sq.assign .plain rfl rfl ?_
    refine Sq.nil ?_
    refine Eq.next ?_
    refine Cq.ret ?_
    refine Eq.ret1 rfl rfl ?_
    exact ⟨rfl, E⟩
  refine Sq.loadAgg agg26 (.met rfl rfl rfl) rfl rfl hB17 rfl ?_
  have hd164 := hB17.lt
  refine Sq.call fn8 (.met rfl rfl rfl) rfl rfl (sValid_c _ a6 _ _ hn9 ha10) ?_
  rintro _ w162 ⟨rfl, e163⟩
  have hs165 := Below.size E
  have hs166 := Below.size e163
  replace E := E.trans e163
  replace hB17 := hB17.ext e163
  refine Sq.neqB und4 (.met rfl rfl rfl) rfl rfl rfl ?_
  refine Sq.beF (by rw [hv]; decide) ?_
  refine Sq.pickF .plain rfl rfl rfl ?_
  refine Sq.move .plain rfl rfl ?_
  refine Sq.move (.met rfl rfl rfl) rfl rfl ?_
  refine Sq.neqS (.met rfl rfl rfl) rfl rfl rfl ?_
  refine Sq.isF (of_decide_eq_false (fmtV_text hv)) ?_
  refine Sq.move (.met rfl rfl rfl) rfl rfl ?_
  refine Sq.beF (hv) ?_
  refine Sq.neqB und4 (.met rfl rfl rfl) rfl rfl rfl ?_
  refine Sq.pickF .plain rfl rfl rfl ?_
  refine Sq.nil ?_
  refine Eq.next ?_
  refine Cq.els rfl ?_
  refine Cq.skip ?_
  refine Eq.next ?_
  refine Cq.seq ?_
  refine Cq.seq ?_
  refine Cq.region ?_
  refine Sq.move .plain rfl rfl ?_
  refine Sq.beF (hv) ?_
  refine Sq.nil ?_
  refine Eq.next ?_
  refine Cq.els rfl ?_
  refine Cq.skip ?_
  refine Eq.next ?_
  refine Cq.seq ?_
  refine Cq.region ?_
  refine Sq.move .plain rfl rfl ?_
  have hd172 := hB17.lt
  refine Sq.call fn11 .plain rfl rfl (drawPar_c _ _ _ _ _ (hc'.ext E) hcap') ?_
  rintro _ w168 ⟨⟨s170, rfl, hsz171⟩, e169⟩
  have hs173 := Below.size E
  have hs174 := Below.size e169
  replace E := E.trans e169
  replace hB17 := hB17.ext e169
  refine Sq.assign .plain rfl rfl ?_
  refine Sq.nil ?_
  refine Eq.next ?_
  refine Cq.seq ?_
  refine Cq.region ?_
  refine Sq.move .plain rfl rfl ?_
  have hd186 := hB17.lt
  refine Sq.call fn9 .plain rfl rfl (parseAI_c s170 (by omega) _ (hE.ext E) (hE'.ext E)) ?_
  rintro _ w176 ⟨⟨u178, ok179, a180, rfl, ⟨nx181, ac182, rfl, hn183, ha184⟩, hpd185⟩, e177⟩
  have hs187 := Below.size E
  have hs188 := Below.size e177
  replace E := E.trans e177
  replace hB17 := hB17.ext e177
  have hpf := hpd185.fit
  have hl_ha184 := Own.low ha184
  refine Sq.move .plain rfl rfl ?_
  refine Sq.extract .plain rfl rfl rfl ?_
  refine Sq.extract .plain rfl rfl rfl ?_
  refine Sq.alloc zero26 .plain rfl (fun b189 w190 e191 hB192 hlo193 => ?_)
  have hd194 := Nat.le_trans (Below.size E) hlo193
  have hd195 := Nat.lt_of_lt_of_le hB17.lt hlo193
  have hs196 := Below.size e191
  replace E := E.trans e191
  replace hB17 := hB17.ext e191
  replace hn183 := hn183.ext e191
  replace ha184 := ha184.ext e191
  refine Sq.storeAgg agg26 .plain rfl rfl (one_cons rfl (one_cons (Rows.one (OwnRows.rows hn183)) (one_cons (Row.one (Own.row ha184)) one_nil))) hB192 rfl rfl (fun w197 g198 hB199 => ?_)
  have hs200 := World.grownBy.size g198
  replace E := E.grown g198 (fun k hk => by injection hk with hk; subst hk; omega)
  replace hB17 := hB17.grown g198 (by intro h; injection h with h; omega)
  replace hn183 := hn183.stored g198 hB192 (by decide) (by decide)
  replace ha184 := ha184.stored g198 hB192 (by decide)
  replace hB192 := hB199
  refine Sq.assign .plain rfl rfl ?_
  refine Sq.nil ?_
  refine Eq.next ?_
  refine Cq.seq ?_
  refine Cq.region ?_
  refine Sq.move .plain rfl rfl ?_
  have hd209 := hB17.lt
  have hd210 := hB192.lt
  refine Sq.call fn12 .plain rfl rfl (parseA2_s s170 (by omega) ok179 a180 hpd185 _) ?_
  rintro _ w202 ⟨⟨u204, rfl, ⟨nx205, ac206, rfl, hn207, ha208⟩⟩, e203⟩
  have hs211 := Below.size E
  have hs212 := Below.size e203
  replace E := E.trans e203
  replace hB17 := hB17.ext e203
  replace hn183 := hn183.ext e203
  replace ha184 := ha184.ext e203
  replace hB192 := hB192.ext e203
  have hl_ha208 := Own.low ha208
  refine Sq.move .plain rfl rfl ?_
  refine Sq.extract .plain rfl rfl rfl ?_
  refine Sq.extract .plain rfl rfl rfl ?_
  refine Sq.alloc zero26 .plain rfl (fun b213 w214 e215 hB216 hlo217 => ?_)
  have hd218 := Nat.le_trans (Below.size E) hlo217
  have hd219 := Nat.lt_of_lt_of_le hB17.lt hlo217
  have hd220 := Nat.lt_of_lt_of_le hB192.lt hlo217
  have hs221 := Below.size e215
  replace E := E.trans e215
  replace hB17 := hB17.ext e215
  replace hn183 := hn183.ext e215
  replace ha184 := ha184.ext e215
  replace hB192 := hB192.ext e215
  replace hn207 := hn207.ext e215
  replace ha208 := ha208.ext e215
  refine Sq.storeAgg agg26 .plain rfl rfl (one_cons rfl (one_cons (Rows.one (OwnRows.rows hn207)) (one_cons (Row.one (Own.row ha208)) one_nil))) hB216 rfl rfl (fun w222 g223 hB224 => ?_)
  have hs225 := World.grownBy.size g223
  replace E := E.grown g223 (fun k hk => by injection hk with hk; subst hk; omega)
  replace hB17 := hB17.grown g223 (by intro h; injection h with h; omega)
  replace hn183 := hn183.stored g223 hB216 (by decide) (by decide)
  replace ha184 := ha184.stored g223 hB216 (by decide)
  replace hB192 := hB192.grown g223 (by intro h; injection h with h; omega)
  replace hn207 := hn207.stored g223 hB216 (by decide) (by decide)
  replace ha208 := ha208.stored g223 hB216 (by decide)
  replace hB216 := hB224
  refine Sq.assign .plain rfl rfl ?_
  refine Sq.nil ?_
  refine Eq.next ?_
  refine Cq.seq ?_
  refine Cq.region ?_
  refine Sq.loadAgg agg26 .plain rfl rfl hB192 rfl ?_
  refine Sq.loadAgg agg26 .plain rfl rfl hB216 rfl ?_
  have hd229 := hB17.lt
  have hd230 := hB192.lt
  have hd231 := hB216.lt
  refine Sq.call fn10 .plain rfl rfl (agAutomata_c _ a180 a180 _ _ _ _ (OwnRows.rows hn183) (Own.row ha184) (OwnRows.rows hn207) (Own.row ha208) (by first | exact fit_of_valid hv | exact hpf | assumption)) ?_
  rintro _ w227 ⟨rfl, e228⟩
  have hs232 := Below.size E
  have hs233 := Below.size e228
  replace E := E.trans e228
  replace hB17 := hB17.ext e228
  replace hn183 := hn183.ext e228
  replace ha184 := ha184.ext e228
  replace hB192 := hB192.ext e228
  replace hB216 := hB216.ext e228
  refine Sq.beT (by exact eqA_refl _) ?_
  refine Sq.move .plain rfl rfl ?_
  refine Sq.move (.met rfl rfl rfl) rfl rfl ?_
  refine Sq.move (.met rfl rfl rfl) rfl rfl ?_
  refine Sq.eqlB und4 (.met rfl rfl rfl) rfl rfl rfl ?_
  refine Sq.beT (beq_self_eq_true _) ?_
  refine Sq.pickT .plain rfl rfl rfl ?_
  refine Sq.move .plain rfl rfl ?_
  refine Sq.move (.met rfl rfl rfl) rfl rfl ?_
  refine Sq.partB (fun hok => ?_) (fun hok => ?_)
  · refine Sq.notT (.met rfl rfl rfl) rfl rfl ?_
    refine Sq.move (.met rfl rfl rfl) rfl rfl ?_
    refine Sq.loadAgg agg26 (.met rfl rfl rfl) rfl rfl hB192 rfl ?_
    have hd237 := hB17.lt
    have hd238 := hB192.lt
    have hd239 := hB216.lt
    refine Sq.call fn5 (.met rfl rfl rfl) rfl rfl (fmtVI_c _ a180 _ _ (OwnRows.rows hn183) (Own.row ha184)) ?_
    rintro _ w235 ⟨rfl, e236⟩
    have hs240 := Below.size E
    have hs241 := Below.size e236
    replace E := E.trans e236
    refine Sq.move (.met rfl rfl rfl) rfl rfl ?_
    refine Sq.eqlS (.met rfl rfl rfl) rfl rfl rfl ?_
    refine Sq.isT (by rw [(hpd185.1 hok).2]) ?_
    refine Sq.pickF (.met rfl rfl rfl) rfl rfl rfl ?_
    refine Sq.pickT .plain rfl rfl rfl ?_
    refine Sq.assign .plain rfl rfl ?_
    refine Sq.nil ?_
    refine Eq.next ?_
    refine Cq.ret ?_
    refine Eq.ret1 rfl rfl ?_
    exact ⟨rfl, E⟩
  refine Sq.notF (.met rfl rfl rfl) rfl rfl ?_
  refine Sq.move (.met rfl rfl rfl) rfl rfl ?_
  refine Sq.off rfl rfl rfl rfl rfl rfl ?_
  refine Sq.off rfl rfl rfl rfl rfl rfl ?_
  refine Sq.off rfl rfl rfl rfl rfl rfl ?_
  refine Sq.off rfl rfl rfl rfl rfl rfl ?_
  refine Sq.pickT (.met rfl rfl rfl) rfl rfl rfl ?_
  refine Sq.pickT .plain rfl rfl rfl ?_
  refine Sq.assign .plain rfl rfl ?_
  refine Sq.nil ?_
  refine Eq.next ?_
  refine Cq.ret ?_
  refine Eq.ret1 rfl rfl ?_
  exact ⟨rfl, E⟩
end Go.Proofs.YtnckpafknojdhaaGreatDoor
set_option linter.unusedSimpArgs false
set_option linter.unusedVariables false
namespace Go.Proofs.YtnckpafknojdhaaGreatDoor
open Go.RowKit
def IsRow (k : IntKind) (w : World) (a : Option Addr) (len cap : Nat) (zs : List Int) : Prop :=
  (a = none ∧ len = 0 ∧ cap = 0 ∧ zs = []) ∨
  ∃ x, a = some x ∧ len ≤ cap ∧ cap ≤ maxLen ∧ zs.length = cap ∧ (∀ i, i < zs.length → w.cell? (x.add i) = some (.int k (zs.getD i 0))) ∧ ∀ n ∈ zs, (Lit.int k n).wf = true
theorem wf8 {n : Int} (h : (Lit.int .u8 n).wf = true) : 0 ≤ n ∧ n ≤ 255 := by
  simp [Lit.wf, IntKind.min, IntKind.max, IntKind.signed, IntKind.bits] at h
  omega
theorem bytes_of {w : World} {a : Option Addr} {len cap : Nat} {zs : List Int} (h : IsRow .u8 w a len cap zs) : ∃ e xs, len = List.length xs ∧ Bytes w e (.slice a xs.length cap) xs ∧ xs.length ≤ cap := by
  rcases h with ⟨rfl, rfl, rfl, rfl⟩ | ⟨x, rfl, hl, hm, hz, hcell, hwz⟩
  · exact ⟨0, [], rfl, .inl ⟨rfl, none, 0, rfl, fun _ => rfl⟩, Nat.le_refl _⟩
  · rcases Nat.eq_zero_or_pos len with h0 | h0
    · subst h0
      exact ⟨0, [], rfl, .inl ⟨rfl, some x, cap, rfl, fun h => by cases h⟩, Nat.zero_le _⟩
    · obtain ⟨b, o, s⟩ := x
      have hc := hcell 0 (by omega)
      have hs : s = none := by simpa [Addr.add] using World.cell?_spot hc
      subst hs
      have hb : ∃ cur e fr, w.heap[b]? = some (.cells cur e fr) := by
        rw [addr_add] at hc
        unfold World.cell? at hc
        simp only at hc
        cases hw : w.heap[b]? with
        | none => rw [hw] at hc; simp at hc
        | some ob =>
          rw [hw] at hc
          cases ob <;> simp at hc
          rename_i cur e fr
          exact ⟨cur, e, fr, rfl⟩
      obtain ⟨cur, e, fr, hb⟩ := hb
      have hlen : ((zs.take len).map fun z => UInt8.ofNat z.toNat).length = len := by simp; omega
      refine ⟨e, (zs.take len).map fun z => UInt8.ofNat z.toNat, hlen.symm, .inr ⟨b, o, cap, cur, fr, by simp, hb, fun i y hy => ?_⟩, by omega⟩
      have hi : i < len := by
        have := (List.getElem?_eq_some_iff.1 hy).1
        simp at this; omega
      have hi2 : i < zs.length := by omega
      have h1 := hcell i hi2
      rw [addr_add] at h1
      have h2 : y = .int .u8 (zs.getD i 0) := by
        have hw := wf8 (hwz _ (List.getElem_mem hi2))
        have e2 := u8_of hw
        simp [List.getElem?_take, hi, hi2] at hy
        rw [← hy]
        simp [hi2]
        omega
      rw [h2]
      simpa [World.cell?, hb] using h1
end Go.Proofs.YtnckpafknojdhaaGreatDoor
