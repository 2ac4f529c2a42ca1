/-
  The texts of this proof, joined (wip/merge.py): the calculus of slots, plain mathematics, walks.
-/
import Derived.Test.YtdejmfkpohgamaaGd2
set_option linter.unusedSimpArgs false
set_option linter.unusedVariables false
namespace Go.Proofs.Ytdejmfkpohgamaa
open Go.RowKit
set_option maxRecDepth 100000 in
theorem l3Wrong_c (w0 : World) (rb : Nat) (bv : Value) (p : Int) (bs : List UInt8) (e0 : TypeId) (hR : Blk w0 rb 88 [bv, .int .i64 p]) (hb : Src w0 e0 bv bs rb) (hbl : bs.length ≤ 2000) (hp : 0 ≤ p ∧ p ≤ 700000000) (a : A) (nx ac : Value) (hnx : Rows w0 56 3 nx a.next) (hac : Bools w0 4 ac a.acc) (N : Nat) (hN : N ≤ 1000) (hsm : Small N a) : Ret Try.prog 46 #[Value.pointer (some ⟨rb, 0, none⟩), Value.agg #[Value.int .i64 a.al, nx, ac]] w0 (fun v w => (∃ p', (p ≤ p' ∧ p' ≤ p + 10) ∧ Blk w rb 88 [bv, .int .i64 p'] ∧ w0.grownBy w (some rb)) ∧ ∃ a', RowsA w v a' ∧ Small (N + 20) a') := by
  have G := World.grownBy.refl w0 (some rb)
  have hlt := hR.lt
  have hsm1 := hsm.2.1
  have hsm2 := hsm.2.2.1
  refine Ret.of (args := [Value.pointer (some ⟨rb, 0, none⟩), Value.agg #[Value.int .i64 a.al, nx, ac]]) Try.func46 rfl rfl rfl ?_
  rintro _ rfl
  show Cq _ _ _ _ [(0, Value.pointer (some ⟨rb, 0, none⟩)), (1, Value.agg #[Value.int .i64 a.al, nx, ac])] _
  refine Cq.seq ?_
  refine Cq.region ?_
  refine Sq.box .plain rfl rfl (fun b1 w2 e3 hB4 hlo5 => ?_)
  have hd6 := Nat.lt_of_lt_of_le hR.lt hlo5
  have hd7 := Nat.le_trans (World.grownBy.size G) hlo5
  have hs8 := Below.size e3
  replace hR := hR.ext e3
  replace G := grown_trans G (Ext.to_grown e3 _)
  replace hnx := hnx.ext e3
  replace hac := hac.ext e3
  refine Sq.alloc zero26 .plain rfl (fun b9 w10 e11 hB12 hlo13 => ?_)
  have hd14 := Nat.lt_of_lt_of_le hR.lt hlo13
  have hd15 := Nat.le_trans (World.grownBy.size G) hlo13
  have hd16 := Nat.lt_of_lt_of_le hB4.lt hlo13
  have hs17 := Below.size e11
  replace hR := hR.ext e11
  replace G := grown_trans G (Ext.to_grown e11 _)
  replace hnx := hnx.ext e11
  replace hac := hac.ext e11
  replace hB4 := hB4.ext e11
  refine Sq.nil ?_
  refine Eq.next ?_
  refine Cq.seq ?_
  refine Cq.region ?_
  refine Sq.loadAgg agg26 .plain rfl rfl hB4 rfl ?_
  have hd25 := hR.lt
  have hd26 := hB4.lt
  have hd27 := hB12.lt
  refine Sq.call fn88 .plain rfl rfl (l3Copy_c _ a _ _ hnx hac (hsm.fit (by omega))) ?_
  rintro _ w19 ⟨⟨nx21, ac22, rfl, hn23, ha24⟩, e20⟩
  have hs28 := World.grownBy.size G
  have hs29 := Below.size e20
  replace hR := hR.ext e20
  replace G := grown_trans G (Ext.to_grown e20 _)
  replace hB4 := hB4.ext e20
  replace hB12 := hB12.ext e20
  refine Sq.alloc zero26 .plain rfl (fun b30 w31 e32 hB33 hlo34 => ?_)
  have hd35 := Nat.lt_of_lt_of_le hR.lt hlo34
  have hd36 := Nat.le_trans (World.grownBy.size G) hlo34
  have hd37 := Nat.lt_of_lt_of_le hB4.lt hlo34
  have hd38 := Nat.lt_of_lt_of_le hB12.lt hlo34
  have hs39 := Below.size e32
  replace hR := hR.ext e32
  replace G := grown_trans G (Ext.to_grown e32 _)
  replace hB12 := hB12.ext e32
  replace hn23 := hn23.ext e32
  replace ha24 := ha24.ext e32
  refine Sq.storeAgg agg26 .plain rfl rfl (one_cons rfl (one_cons (Rows.one (OwnRows.rows hn23)) (one_cons (Row.one (Own.row ha24)) one_nil))) hB33 rfl rfl (fun w40 g41 hB42 => ?_)
  have hs43 := World.grownBy.size g41
  replace hR := hR.grown g41 (by intro h; injection h with h; omega)
  replace G := grown_far G g41 (fun k hk => by injection hk with hk; subst hk; omega)
  replace hB12 := hB12.grown g41 (by intro h; injection h with h; omega)
  replace hn23 := hn23.stored g41 hB33 (by decide) (by decide)
  replace ha24 := ha24.stored g41 hB33 (by decide)
  replace hB33 := hB42
  refine Sq.nil ?_
  refine Eq.next ?_
  refine Cq.seq ?_
  refine Cq.region ?_
  refine Sq.fieldAddr fld26_1 .plain rfl rfl ?_
  refine Sq.loadB one23 .plain rfl rfl hB33 rfl ?_
  refine Sq.lenRows (OwnRows.rows hn23) .plain rfl und23 rfl ?_
  refine Sq.assign .plain rfl rfl ?_
  refine Sq.nil ?_
  refine Eq.next ?_
  refine Cq.seq ?_
  refine Cq.region ?_
  refine Sq.move .plain rfl rfl ?_
  refine Sq.move .plain rfl rfl ?_
  refine Sq.call fn43 .plain rfl rfl (pick_c _ _ _ _ _ _ hR (hb.go G) hbl (by omega) (List.length a.next : Int) (by omega)) ?_
  rintro _ w45 ⟨⟨p46, hp49, hB48, g47⟩, ⟨k50, rfl, hk51⟩⟩
  have hs52 := World.grownBy.size g47
  have hs53 := World.grownBy.size G
  have hs54 := World.grownBy.size g47
  replace G := grown_trans G g47
  replace hB12 := hB12.grown g47 (by intro h; injection h with h; omega)
  replace hn23 := hn23.stored g47 hR (by decide) (by decide)
  replace ha24 := ha24.stored g47 hR (by decide)
  replace hB33 := hB33.grown g47 (by intro h; injection h with h; omega)
  replace hR := hB48
  have hrowk := hsm.rowAt (k := k50.toNat)
  refine Sq.assign .plain rfl rfl ?_
  refine Sq.nil ?_
  refine Eq.next ?_
  refine Cq.seq ?_
  refine Cq.seq ?_
  refine Cq.region ?_
  refine Sq.move .plain rfl rfl ?_
  refine Sq.call fn43 .plain rfl rfl (pick_c _ _ _ _ _ _ hR (hb.go G) hbl (by omega) 30 (by omega)) ?_
  rintro _ w56 ⟨⟨p57, hp60, hB59, g58⟩, ⟨k61, rfl, hk62⟩⟩
  have hs63 := World.grownBy.size g58
  have hs64 := World.grownBy.size G
  have hs65 := World.grownBy.size g58
  replace G := grown_trans G g58
  replace hB12 := hB12.grown g58 (by intro h; injection h with h; omega)
  replace hn23 := hn23.stored g58 hR (by decide) (by decide)
  replace ha24 := ha24.stored g58 hR (by decide)
  replace hB33 := hB33.grown g58 (by intro h; injection h with h; omega)
  replace hR := hB59
  refine Sq.nil ?_
  refine Eq.next ?_
  refine Cq.block ?_
  refine Cq.seq ?_
  refine Cq.region ?_
  refine Sq.eql .plain rfl rfl rfl ?_
  refine Sq.part (fun c66 => ?_) (fun c66 => ?_)
  · refine Sq.assign .plain rfl rfl ?_
    refine Sq.nil ?_
    refine Eq.next ?_
    refine Cq.thn rfl ?_
    refine Cq.region ?_
    refine Sq.move .plain rfl rfl ?_
    refine Sq.lit sl56 rfl rfl .plain rfl rfl (one_cons rfl (one_cons rfl (one_cons rfl (one_cons rfl (one_cons rfl one_nil))))) (fun b67 w68 e69 hlo70 ho71 _ => ?_)
    replace ho71 := ho71 w56.heap.size (Nat.le_refl _)
    have hs73 := Below.size e69
    replace hR := hR.ext e69
    replace G := grown_trans G (Ext.to_grown e69 _)
    replace hB12 := hB12.ext e69
    replace hn23 := hn23.ext e69
    replace ha24 := ha24.ext e69
    replace hB33 := hB33.ext e69
    refine Sq.call fn47 .plain rfl rfl (num_c _ _ _ _ _ _ hR (hb.go G) hbl (by omega) _ [64, -1, 1, 63, 0] (Own.row ho71) (by simp)) ?_
    rintro _ w75 ⟨⟨p76, hp79, hB78, g77⟩, ⟨k80, rfl, hm81⟩⟩
    have hs82 := World.grownBy.size g77
    have hs83 := World.grownBy.size G
    have hs84 := World.grownBy.size g77
    replace G := grown_trans G g77
    replace hB12 := hB12.grown g77 (by intro h; injection h with h; omega)
    replace hn23 := hn23.stored g77 hR (by decide) (by decide)
    replace ha24 := ha24.stored g77 hR (by decide)
    replace hB33 := hB33.grown g77 (by intro h; injection h with h; omega)
    replace hR := hB78
    simp only [List.mem_cons, List.not_mem_nil, or_false] at hm81
    refine Sq.fieldAddr fld26_0 .plain rfl rfl ?_
    refine Sq.store one3 .plain rfl rfl rfl hB33 (by simp) (fun w85 g86 hB87 => ?_)
    have hs88 := World.grownBy.size g86
    replace hR := hR.grown g86 (by intro h; injection h with h; omega)
    replace G := grown_far G g86 (fun k hk => by injection hk with hk; subst hk; omega)
    replace hB12 := hB12.grown g86 (by intro h; injection h with h; omega)
    replace hn23 := hn23.stored g86 hB33 (by decide) (by decide)
    replace ha24 := ha24.stored g86 hB33 (by decide)
    replace hB33 := hB87
    refine Sq.nil ?_
    refine Eq.end ?_
    refine Eq.next ?_
    refine Cq.seq ?_
    refine Cq.region ?_
    refine Sq.loadAgg agg26 .plain rfl rfl hB33 rfl ?_
    refine Sq.storeAgg agg26 .plain rfl rfl (one_cons rfl (one_cons (Rows.one (OwnRows.rows hn23)) (one_cons (Row.one (Own.row ha24)) one_nil))) hB12 rfl rfl (fun w89 g90 hB91 => ?_)
    have hs92 := World.grownBy.size g90
    replace hR := hR.grown g90 (by intro h; injection h with h; omega)
    replace G := grown_far G g90 (fun k hk => by injection hk with hk; subst hk; omega)
    replace hn23 := hn23.stored g90 hB12 (by decide) (by decide)
    replace ha24 := ha24.stored g90 hB12 (by decide)
    replace hB12 := hB91
    refine Sq.nil ?_
    refine Eq.next ?_
    refine Cq.ret ?_
    refine Eq.retCell rfl rfl agg26 hB12 rfl ?_
    exact ⟨⟨_, by omega, hR, G⟩, ⟨k80, a.next, a.acc⟩, ⟨_, _, rfl, (OwnRows.rows hn23), (Own.row ha24)⟩, hsm.same (by omega) (by omega)⟩
  refine Sq.assign .plain rfl rfl ?_
  refine Sq.nil ?_
  refine Eq.next ?_
  refine Cq.els rfl ?_
  refine Cq.seq ?_
  refine Cq.region ?_
  refine Sq.eql .plain rfl rfl rfl ?_
  refine Sq.part (fun c93 => ?_) (fun c93 => ?_)
  · refine Sq.assign .plain rfl rfl ?_
    refine Sq.nil ?_
    refine Eq.next ?_
    refine Cq.thn rfl ?_
    refine Cq.region ?_
    refine Sq.fieldAddr fld26_2 .plain rfl rfl ?_
    refine Sq.loadB one24 .plain rfl rfl hB33 rfl ?_
    refine Sq.app1 sl24 ha24 (by omega) (by first | omega | (simp; omega)) .plain rfl rfl rfl rfl rfl rfl rfl (fun v94 w95 ho97 g96 _ => ?_)
    have hs98 := g96.size
    replace hR := hR.owned ha24 g96 (by decide)
    replace G := grown_new G ha24 g96 (by omega)
    replace hB12 := hB12.owned ha24 g96 (by decide)
    replace hn23 := hn23.owned ha24 g96 (by decide) (by decide)
    replace hB33 := hB33.owned ha24 g96 (by decide)
    refine Sq.fieldAddr fld26_2 .plain rfl rfl ?_
    refine Sq.store one24 .plain rfl rfl (Row.one (Own.row ho97)) hB33 (by simp) (fun w99 g100 hB101 => ?_)
    have hs102 := World.grownBy.size g100
    replace hR := hR.grown g100 (by intro h; injection h with h; omega)
    replace G := grown_far G g100 (fun k hk => by injection hk with hk; subst hk; omega)
    replace hB12 := hB12.grown g100 (by intro h; injection h with h; omega)
    replace hn23 := hn23.stored g100 hB33 (by decide) (by decide)
    replace ho97 := ho97.stored g100 hB33 (by decide)
    replace hB33 := hB101
    refine Sq.nil ?_
    refine Eq.end ?_
    refine Eq.next ?_
    refine Cq.seq ?_
    refine Cq.region ?_
    refine Sq.loadAgg agg26 .plain rfl rfl hB33 rfl ?_
    refine Sq.storeAgg agg26 .plain rfl rfl (one_cons rfl (one_cons (Rows.one (OwnRows.rows hn23)) (one_cons (Row.one (Own.row ho97)) one_nil))) hB12 rfl rfl (fun w103 g104 hB105 => ?_)
    have hs106 := World.grownBy.size g104
    replace hR := hR.grown g104 (by intro h; injection h with h; omega)
    replace G := grown_far G g104 (fun k hk => by injection hk with hk; subst hk; omega)
    replace hn23 := hn23.stored g104 hB12 (by decide) (by decide)
    replace ho97 := ho97.stored g104 hB12 (by decide)
    replace hB12 := hB105
    refine Sq.nil ?_
    refine Eq.next ?_
    refine Cq.ret ?_
    refine Eq.retCell rfl rfl agg26 hB12 rfl ?_
    exact ⟨⟨_, by omega, hR, G⟩, ⟨a.al, a.next, a.acc ++ [true]⟩, ⟨_, _, rfl, (OwnRows.rows hn23), (Own.row (Own.snocB ho97))⟩, hsm.push (by omega)⟩
  refine Sq.assign .plain rfl rfl ?_
  refine Sq.nil ?_
  refine Eq.next ?_
  refine Cq.els rfl ?_
  refine Cq.seq ?_
  refine Cq.region ?_
  refine Sq.eql .plain rfl rfl rfl ?_
  refine Sq.part (fun c107 => ?_) (fun c107 => ?_)
  · refine Sq.assign .plain rfl rfl ?_
    refine Sq.nil ?_
    refine Eq.next ?_
    refine Cq.thn rfl ?_
    refine Cq.seq ?_
    refine Cq.region ?_
    refine Sq.move .plain rfl rfl ?_
    refine Sq.gtr .plain rfl rfl rfl ?_
    refine Sq.part (fun c108 => ?_) (fun c108 => ?_)
    · refine Sq.nil ?_
      refine Eq.next ?_
      refine Cq.thn rfl ?_
      obtain ⟨pA, rA, hpA, _⟩ := Rows.at (OwnRows.rows hn23) (i := k50) (by omega) (by omega)
      have hrA := (OwnRows.rowAt hn23 hpA).1
      obtain ⟨_, hoA, _, _⟩ := OwnRows.open hn23 (by decide)
      have hpAo := AtO.of hoA hpA
      refine Cq.drawS 10 (fun w' => Blk w' b30 26 [Value.int .i64 a.al, nx21, ac22] ∧ At w' 56 nx21 k50 pA rA) mixed (⟨hB33, hpA⟩) (fun w109 e110 hS => ?_)
      clear hS
      have hs111 := Below.size e110
      replace hR := hR.ext e110
      replace G := grown_trans G (Ext.to_grown e110 _)
      replace hB12 := hB12.ext e110
      replace hn23 := hn23.ext e110
      replace ha24 := ha24.ext e110
      replace hB33 := hB33.ext e110
      replace hpA := hpA.ext e110
      replace hrA := hrA.ext e110
      refine Gq.st 0 rfl (by kernel_rfl) rfl .plain rfl (fun _ _ _ h => h) ⟨hB33, hpA⟩ (fun w' x => Still.fieldAddr fld26_1 rfl) ?_
      refine Gq.st 1 rfl (by kernel_rfl) rfl .plain rfl (fun _ _ _ h => h) ⟨hB33, hpA⟩ (fun w' x => Still.loadB one23 rfl x.1 rfl) ?_
      refine Gq.st 2 rfl (by kernel_rfl) rfl .plain rfl (fun _ _ _ h => h) ⟨hB33, hpA⟩ (fun w' x => Still.move rfl) ?_
      refine Gq.st 3 rfl (by kernel_rfl) rfl .plain rfl (fun _ _ _ h => h) ⟨hB33, hpA⟩ (fun w' x => Still.fieldAddr fld26_1 rfl) ?_
      refine Gq.st 4 rfl (by kernel_rfl) rfl .plain rfl (fun _ _ _ h => h) ⟨hB33, hpA⟩ (fun w' x => Still.loadB one23 rfl x.1 rfl) ?_
      refine Gq.st 5 rfl (by kernel_rfl) rfl .plain rfl (fun _ _ _ h => h) ⟨hB33, hpA⟩ (fun w' x => Still.move rfl) ?_
      refine Gq.st 6 rfl (by kernel_rfl) rfl .plain rfl (fun _ _ _ h => h) ⟨hB33, hpA⟩ (fun w' x => Still.at' sl23 hpA rfl rfl) ?_
      refine Gq.st 7 rfl (by kernel_rfl) rfl .plain rfl (fun _ _ _ h => h) ⟨hB33, hpA⟩ (fun w' x => Still.loadA one56 rfl (x.2).1) ?_
      refine Gq.one 8 rfl (by kernel_rfl) ?_
      refine Sq.lit sl56 rfl rfl .plain rfl rfl (one_cons rfl one_nil) (fun b112 w113 e114 hlo115 ho116 _ => ?_)
      replace ho116 := ho116 w109.heap.size (Nat.le_refl _)
      have hs118 := Below.size e114
      replace hR := hR.ext e114
      replace G := grown_trans G (Ext.to_grown e114 _)
      replace hB12 := hB12.ext e114
      replace hn23 := hn23.ext e114
      replace ha24 := ha24.ext e114
      replace hB33 := hB33.ext e114
      replace hpA := hpA.ext e114
      replace hrA := hrA.ext e114
      refine Sq.nil ?_
      refine Eq.goes (fun _ => ⟨hB33, hpA⟩) ?_
      refine Gq.one 9 rfl (by kernel_rfl) ?_
      refine Sq.app sl56 hrA (by omega) (Own.row ho116) (one_cons rfl one_nil) (by simp only [List.length_map, List.length_cons, List.length_nil]; omega) .plain rfl rfl rfl rfl (fun v119 w120 ho121 g122 => ?_)
      obtain ⟨rsA, hoB, hswap⟩ := OwnRows.swap hn23 (by decide) hpA (Own.snocI ho121) g122
      replace hR := hR.owned hrA g122 (by decide)
      replace G := grown_new G hrA g122 (by omega)
      replace hB12 := hB12.owned hrA g122 (by decide)
      replace ha24 := ha24.owned hrA g122 (by decide)
      replace hB33 := hB33.owned hrA g122 (by decide)
      replace hpA := hpA.owned hrA g122 (by decide)
      refine Sq.nil ?_
      refine Eq.goes (fun _ => ⟨hB33, hpA⟩) ?_
      refine Gq.one 10 rfl (by kernel_rfl) ?_
      refine Sq.val .plain rfl rfl (Still.at' sl23 hpA rfl rfl) ?_
      refine Sq.nil ?_
      refine Eq.goes (fun h => absurd h (by decide)) ?_
      refine Gq.one 11 rfl (by kernel_rfl) ?_
      refine Sq.storeO one56 hoB hpAo .plain rfl rfl (Row.one (Own.row ho121)) (fun w123 g124 ho125 => ?_)
      have hnA := hswap _ g124 ho125
      replace hR := hR.owned hoB g124 (by decide)
      replace G := grown_new G hoB g124 (by omega)
      replace hB12 := hB12.owned hoB g124 (by decide)
      replace ha24 := ha24.owned hoB g124 (by decide)
      replace hB33 := hB33.owned hoB g124 (by decide)
      refine Sq.nil ?_
      refine Eq.goes (fun h => absurd h (by decide)) ?_
      refine Gq.done (by kernel_rfl) ?_
      refine Eq.end ?_
      refine Eq.next ?_
      refine Cq.seq ?_
      refine Cq.region ?_
      refine Sq.loadAgg agg26 .plain rfl rfl hB33 rfl ?_
      refine Sq.storeAgg agg26 .plain rfl rfl (one_cons rfl (one_cons (Rows.one hnA) (one_cons (Row.one (Own.row ha24)) one_nil))) hB12 rfl rfl (fun w126 g127 hB128 => ?_)
      have hs129 := World.grownBy.size g127
      replace hR := hR.grown g127 (by intro h; injection h with h; omega)
      replace G := grown_far G g127 (fun k hk => by injection hk with hk; subst hk; omega)
      replace ha24 := ha24.stored g127 hB12 (by decide)
      replace hnA := hnA.stored g127 hB12 (by decide) (by decide)
      replace hB12 := hB128
      refine Sq.nil ?_
      refine Eq.next ?_
      refine Cq.ret ?_
      refine Eq.retCell rfl rfl agg26 hB12 rfl ?_
      exact ⟨⟨_, by omega, hR, G⟩, ⟨a.al, (a.next.set k50.toNat (a.next.getD k50.toNat [] ++ [0])), a.acc⟩, ⟨_, _, rfl, hnA, (Own.row ha24)⟩, hsm.row (by omega) (by have := hsm.rowAt (k := k50.toNat); simp only [List.length_append, List.length_cons, List.length_nil]; omega)⟩
    refine Sq.nil ?_
    refine Eq.next ?_
    refine Cq.els rfl ?_
    refine Cq.skip ?_
    refine Eq.end ?_
    refine Eq.next ?_
    refine Cq.seq ?_
    refine Cq.region ?_
    refine Sq.loadAgg agg26 .plain rfl rfl hB33 rfl ?_
    refine Sq.storeAgg agg26 .plain rfl rfl (one_cons rfl (one_cons (Rows.one (OwnRows.rows hn23)) (one_cons (Row.one (Own.row ha24)) one_nil))) hB12 rfl rfl (fun w130 g131 hB132 => ?_)
    have hs133 := World.grownBy.size g131
    replace hR := hR.grown g131 (by intro h; injection h with h; omega)
    replace G := grown_far G g131 (fun k hk => by injection hk with hk; subst hk; omega)
    replace hn23 := hn23.stored g131 hB12 (by decide) (by decide)
    replace ha24 := ha24.stored g131 hB12 (by decide)
    replace hB12 := hB132
    refine Sq.nil ?_
    refine Eq.next ?_
    refine Cq.ret ?_
    refine Eq.retCell rfl rfl agg26 hB12 rfl ?_
    exact ⟨⟨_, by omega, hR, G⟩, a, ⟨_, _, rfl, (OwnRows.rows hn23), (Own.row ha24)⟩, hsm.mono (by omega)⟩
  refine Sq.assign .plain rfl rfl ?_
  refine Sq.nil ?_
  refine Eq.next ?_
  refine Cq.els rfl ?_
  refine Cq.seq ?_
  refine Cq.region ?_
  refine Sq.eql .plain rfl rfl rfl ?_
  refine Sq.part (fun c134 => ?_) (fun c134 => ?_)
  · refine Sq.assign .plain rfl rfl ?_
    refine Sq.nil ?_
    refine Eq.next ?_
    refine Cq.thn rfl ?_
    refine Cq.seq ?_
    refine Cq.region ?_
    refine Sq.move .plain rfl rfl ?_
    refine Sq.gtr .plain rfl rfl rfl ?_
    refine Sq.part (fun c135 => ?_) (fun c135 => ?_)
    · refine Sq.move .plain rfl rfl ?_
      refine Sq.fieldAddr fld26_1 (.met rfl rfl rfl) rfl rfl ?_
      refine Sq.loadB one23 (.met rfl rfl rfl) rfl rfl hB33 rfl ?_
      refine Sq.move (.met rfl rfl rfl) rfl rfl ?_
      refine Sq.idxRows sl23 one56 (OwnRows.rows hn23) (.met rfl rfl rfl) rfl rfl rfl (.met rfl rfl rfl) rfl rfl (by omega) (by omega) (fun r136 hr137 => ?_)
      refine Sq.lenInts hr137 (.met rfl rfl rfl) rfl und56 rfl ?_
      refine Sq.gtr (.met rfl rfl rfl) rfl rfl rfl ?_
      refine Sq.part (fun c138 => ?_) (fun c138 => ?_)
      · refine Sq.pickT .plain rfl rfl rfl ?_
        refine Sq.nil ?_
        refine Eq.next ?_
        refine Cq.thn rfl ?_
        refine Cq.seq ?_
        refine Cq.region ?_
        refine Sq.move .plain rfl rfl ?_
        refine Sq.fieldAddr fld26_1 .plain rfl rfl ?_
        refine Sq.loadB one23 .plain rfl rfl hB33 rfl ?_
        refine Sq.move .plain rfl rfl ?_
        refine Sq.idxRows sl23 one56 (OwnRows.rows hn23) .plain rfl rfl rfl .plain rfl rfl (by omega) (by omega) (fun r139 hr140 => ?_)
        refine Sq.lenInts hr140 .plain rfl und56 rfl ?_
        refine Sq.call fn43 .plain rfl rfl (pick_c _ _ _ _ _ _ hR (hb.go G) hbl (by omega) ((List.length (a.next.getD k50.toNat []) : Int)) (by omega)) ?_
        rintro _ w142 ⟨⟨p143, hp146, hB145, g144⟩, ⟨k147, rfl, hk148⟩⟩
        have hs149 := World.grownBy.size g144
        have hs150 := World.grownBy.size G
        have hs151 := World.grownBy.size g144
        replace G := grown_trans G g144
        replace hB12 := hB12.grown g144 (by intro h; injection h with h; omega)
        replace hn23 := hn23.stored g144 hR (by decide) (by decide)
        replace ha24 := ha24.stored g144 hR (by decide)
        replace hB33 := hB33.grown g144 (by intro h; injection h with h; omega)
        replace hR := hB145
        refine Sq.assign .plain rfl rfl ?_
        refine Sq.nil ?_
        refine Eq.next ?_
        obtain ⟨pA, rA, hpA, _⟩ := Rows.at (OwnRows.rows hn23) (i := k50) (by omega) (by omega)
        have hrA := (OwnRows.rowAt hn23 hpA).1
        obtain ⟨_, hoA, _, _⟩ := OwnRows.open hn23 (by decide)
        have hpAo := AtO.of hoA hpA
        obtain ⟨pJ, hpJo⟩ := Own.at hrA (i := k147) (by omega) (by rw [List.length_map]; omega)
        refine Cq.drawS 12 (fun w' => Blk w' b30 26 [Value.int .i64 a.al, nx21, ac22] ∧ At w' 56 nx21 k50 pA rA) mixed (⟨hB33, hpA⟩) (fun w152 e153 hS => ?_)
        clear hS
        have hs154 := Below.size e153
        replace hR := hR.ext e153
        replace G := grown_trans G (Ext.to_grown e153 _)
        replace hB12 := hB12.ext e153
        replace hn23 := hn23.ext e153
        replace ha24 := ha24.ext e153
        replace hB33 := hB33.ext e153
        replace hpA := hpA.ext e153
        replace hrA := hrA.ext e153
        refine Gq.st 0 rfl (by kernel_rfl) rfl .plain rfl (fun _ _ _ h => h) ⟨hB33, hpA⟩ (fun w' x => Still.fieldAddr fld26_1 rfl) ?_
        refine Gq.st 1 rfl (by kernel_rfl) rfl .plain rfl (fun _ _ _ h => h) ⟨hB33, hpA⟩ (fun w' x => Still.loadB one23 rfl x.1 rfl) ?_
        refine Gq.st 2 rfl (by kernel_rfl) rfl .plain rfl (fun _ _ _ h => h) ⟨hB33, hpA⟩ (fun w' x => Still.move rfl) ?_
        refine Gq.st 3 rfl (by kernel_rfl) rfl .plain rfl (fun _ _ _ h => h) ⟨hB33, hpA⟩ (fun w' x => Still.at' sl23 hpA rfl rfl) ?_
        refine Gq.st 4 rfl (by kernel_rfl) rfl .plain rfl (fun _ _ _ h => h) ⟨hB33, hpA⟩ (fun w' x => Still.loadA one56 rfl (x.2).1) ?_
        refine Gq.st 5 rfl (by kernel_rfl) rfl .plain rfl (fun _ _ _ h => h) ⟨hB33, hpA⟩ (fun w' x => Still.move rfl) ?_
        refine Gq.st 6 rfl (by kernel_rfl) rfl .plain rfl (fun _ _ _ h => h) ⟨hB33, hpA⟩ (fun w' x => Still.move rfl) ?_
        refine Gq.st 7 rfl (by kernel_rfl) rfl .plain rfl (fun _ _ _ h => h) ⟨hB33, hpA⟩ (fun w' x => Still.move rfl) ?_
        refine Gq.st 8 rfl (by kernel_rfl) rfl .plain rfl (fun _ _ _ h => h) ⟨hB33, hpA⟩ (fun w' x => Still.move rfl) ?_
        refine Gq.st 9 rfl (by kernel_rfl) rfl .plain rfl (fun _ _ _ h => h) ⟨hB33, hpA⟩ (fun w' x => Still.sub rfl rfl (by omega)) ?_
        refine Gq.one 10 rfl (by kernel_rfl) ?_
        refine Sq.lit sl56 rfl rfl .plain rfl rfl (one_cons rfl (one_cons rfl (one_cons rfl (one_cons rfl one_nil)))) (fun b155 w156 e157 hlo158 ho159 _ => ?_)
        replace ho159 := ho159 w152.heap.size (Nat.le_refl _)
        have hs161 := Below.size e157
        replace hR := hR.ext e157
        replace G := grown_trans G (Ext.to_grown e157 _)
        replace hB12 := hB12.ext e157
        replace hn23 := hn23.ext e157
        replace ha24 := ha24.ext e157
        replace hB33 := hB33.ext e157
        replace hpA := hpA.ext e157
        replace hrA := hrA.ext e157
        refine Sq.nil ?_
        refine Eq.goes (fun _ => ⟨hB33, hpA⟩) ?_
        refine Gq.one 11 rfl (by kernel_rfl) ?_
        refine Sq.call fn47 .plain rfl rfl (num_c _ _ _ _ _ _ hR (hb.go G) hbl (by omega) _ [-1, (List.length a.next : Int), (List.length a.next : Int) - 1, 0] (Own.row ho159) (by simp)) ?_
        rintro _ w163 ⟨⟨p164, hp167, hB166, g165⟩, ⟨k168, rfl, hm169⟩⟩
        have hs170 := World.grownBy.size g165
        have hs171 := World.grownBy.size G
        have hs172 := World.grownBy.size g165
        replace G := grown_trans G g165
        replace hB12 := hB12.grown g165 (by intro h; injection h with h; omega)
        replace hn23 := hn23.stored g165 hR (by decide) (by decide)
        replace ha24 := ha24.stored g165 hR (by decide)
        replace hB33 := hB33.grown g165 (by intro h; injection h with h; omega)
        replace hpA := hpA.stored g165 hR (by decide)
        replace hrA := hrA.stored g165 hR (by decide)
        replace hR := hB166
        simp only [List.mem_cons, List.not_mem_nil, or_false] at hm169
        refine Sq.nil ?_
        refine Eq.goes (fun _ => ⟨hB33, hpA⟩) ?_
        refine Gq.one 12 rfl (by kernel_rfl) ?_
        refine Sq.atO sl56 hpJo .plain rfl rfl rfl ?_
        refine Sq.nil ?_
        refine Eq.goes (fun h => absurd h (by decide)) ?_
        refine Gq.one 13 rfl (by kernel_rfl) ?_
        refine Sq.storeO one3 hrA hpJo .plain rfl rfl rfl (fun w173 g174 ho175 => ?_)
        have hs176 := World.grownBy.size g174
        rw [← List.map_set] at ho175
        replace hn23 := (OwnRows.set hn23 (by decide) hpA ho175 g174).1
        replace hR := hR.owned hrA g174 (by decide)
        replace G := grown_new G hrA g174 (by omega)
        replace hB12 := hB12.owned hrA g174 (by decide)
        replace ha24 := ha24.owned hrA g174 (by decide)
        replace hB33 := hB33.owned hrA g174 (by decide)
        refine Sq.nil ?_
        refine Eq.goes (fun h => absurd h (by decide)) ?_
        refine Gq.done (by kernel_rfl) ?_
        refine Eq.end ?_
        refine Eq.next ?_
        refine Cq.seq ?_
        refine Cq.region ?_
        refine Sq.loadAgg agg26 .plain rfl rfl hB33 rfl ?_
        refine Sq.storeAgg agg26 .plain rfl rfl (one_cons rfl (one_cons (Rows.one (OwnRows.rows hn23)) (one_cons (Row.one (Own.row ha24)) one_nil))) hB12 rfl rfl (fun w177 g178 hB179 => ?_)
        have hs180 := World.grownBy.size g178
        replace hR := hR.grown g178 (by intro h; injection h with h; omega)
        replace G := grown_far G g178 (fun k hk => by injection hk with hk; subst hk; omega)
        replace hn23 := hn23.stored g178 hB12 (by decide) (by decide)
        replace ha24 := ha24.stored g178 hB12 (by decide)
        replace hB12 := hB179
        refine Sq.nil ?_
        refine Eq.next ?_
        refine Cq.ret ?_
        refine Eq.retCell rfl rfl agg26 hB12 rfl ?_
        exact ⟨⟨_, by omega, hR, G⟩, ⟨a.al, a.next.set k50.toNat ((a.next.getD k50.toNat []).set k147.toNat k168), a.acc⟩, ⟨_, _, rfl, (OwnRows.rows hn23), (Own.row ha24)⟩, hsm.row (by omega) (by have := hsm.rowAt (k := k50.toNat); rw [List.length_set]; omega)⟩
      refine Sq.pickT .plain rfl rfl rfl ?_
      refine Sq.nil ?_
      refine Eq.next ?_
      refine Cq.els rfl ?_
      refine Cq.skip ?_
      refine Eq.end ?_
      refine Eq.next ?_
      refine Cq.seq ?_
      refine Cq.region ?_
      refine Sq.loadAgg agg26 .plain rfl rfl hB33 rfl ?_
      refine Sq.storeAgg agg26 .plain rfl rfl (one_cons rfl (one_cons (Rows.one (OwnRows.rows hn23)) (one_cons (Row.one (Own.row ha24)) one_nil))) hB12 rfl rfl (fun w181 g182 hB183 => ?_)
      have hs184 := World.grownBy.size g182
      replace hR := hR.grown g182 (by intro h; injection h with h; omega)
      replace G := grown_far G g182 (fun k hk => by injection hk with hk; subst hk; omega)
      replace hn23 := hn23.stored g182 hB12 (by decide) (by decide)
      replace ha24 := ha24.stored g182 hB12 (by decide)
      replace hB12 := hB183
      refine Sq.nil ?_
      refine Eq.next ?_
      refine Cq.ret ?_
      refine Eq.retCell rfl rfl agg26 hB12 rfl ?_
      exact ⟨⟨_, by omega, hR, G⟩, a, ⟨_, _, rfl, (OwnRows.rows hn23), (Own.row ha24)⟩, hsm.mono (by omega)⟩
    refine Sq.move .plain rfl rfl ?_
    refine Sq.off rfl rfl rfl rfl rfl rfl ?_
    refine Sq.off rfl rfl rfl rfl rfl rfl ?_
    refine Sq.off rfl rfl rfl rfl rfl rfl ?_
    refine Sq.off rfl rfl rfl rfl rfl rfl ?_
    refine Sq.off rfl rfl rfl rfl rfl rfl ?_
    refine Sq.off rfl rfl rfl rfl rfl rfl ?_
    refine Sq.off rfl rfl rfl rfl rfl rfl ?_
    refine Sq.pickF .plain rfl rfl rfl ?_
    refine Sq.nil ?_
    refine Eq.next ?_
    refine Cq.els rfl ?_
    refine Cq.skip ?_
    refine Eq.end ?_
    refine Eq.next ?_
    refine Cq.seq ?_
    refine Cq.region ?_
    refine Sq.loadAgg agg26 .plain rfl rfl hB33 rfl ?_
    refine Sq.storeAgg agg26 .plain rfl rfl (one_cons rfl (one_cons (Rows.one (OwnRows.rows hn23)) (one_cons (Row.one (Own.row ha24)) one_nil))) hB12 rfl rfl (fun w185 g186 hB187 => ?_)
    have hs188 := World.grownBy.size g186
    replace hR := hR.grown g186 (by intro h; injection h with h; omega)
    replace G := grown_far G g186 (fun k hk => by injection hk with hk; subst hk; omega)
    replace hn23 := hn23.stored g186 hB12 (by decide) (by decide)
    replace ha24 := ha24.stored g186 hB12 (by decide)
    replace hB12 := hB187
    refine Sq.nil ?_
    refine Eq.next ?_
    refine Cq.ret ?_
    refine Eq.retCell rfl rfl agg26 hB12 rfl ?_
    exact ⟨⟨_, by omega, hR, G⟩, a, ⟨_, _, rfl, (OwnRows.rows hn23), (Own.row ha24)⟩, hsm.mono (by omega)⟩
  refine Sq.assign .plain rfl rfl ?_
  refine Sq.nil ?_
  refine Eq.next ?_
  refine Cq.els rfl ?_
  refine Cq.seq ?_
  refine Cq.region ?_
  refine Sq.eql .plain rfl rfl rfl ?_
  refine Sq.part (fun c189 => ?_) (fun c189 => ?_)
  · refine Sq.assign .plain rfl rfl ?_
    refine Sq.nil ?_
    refine Eq.next ?_
    refine Cq.thn rfl ?_
    refine Cq.seq ?_
    refine Cq.region ?_
    refine Sq.lit sl23 rfl rfl .plain rfl rfl one_nil (fun b190 w191 e192 hlo193 ho194 _ => ?_)
    replace ho194 := ho194 w56.heap.size (Nat.le_refl _)
    have hs196 := Below.size e192
    replace hR := hR.ext e192
    replace G := grown_trans G (Ext.to_grown e192 _)
    replace hB12 := hB12.ext e192
    replace hB33 := hB33.ext e192
    replace ho194 : OwnRows _ _ 0 56 3 _ [] := OwnRows.none ho194
    refine Sq.fieldAddr fld26_1 .plain rfl rfl ?_
    refine Sq.store one23 .plain rfl rfl (Rows.one (OwnRows.rows ho194)) hB33 (by simp) (fun w197 g198 hB199 => ?_)
    have hs200 := World.grownBy.size g198
    replace hR := hR.grown g198 (by intro h; injection h with h; omega)
    replace G := grown_far G g198 (fun k hk => by injection hk with hk; subst hk; omega)
    replace hB12 := hB12.grown g198 (by intro h; injection h with h; omega)
    replace ho194 := ho194.stored g198 hB33 (by decide) (by decide)
    replace hB33 := hB199
    refine Sq.nil ?_
    refine Eq.next ?_
    refine Cq.region ?_
    refine Sq.lit sl24 rfl rfl .plain rfl rfl one_nil (fun b201 w202 e203 hlo204 ho205 _ => ?_)
    replace ho205 := ho205 w197.heap.size (Nat.le_refl _)
    have hs207 := Below.size e203
    replace hR := hR.ext e203
    replace G := grown_trans G (Ext.to_grown e203 _)
    replace hB12 := hB12.ext e203
    replace hB33 := hB33.ext e203
    replace ho194 := ho194.ext e203
    refine Sq.fieldAddr fld26_2 .plain rfl rfl ?_
    refine Sq.store one24 .plain rfl rfl (Row.one (Own.row ho205)) hB33 (by simp) (fun w208 g209 hB210 => ?_)
    have hs211 := World.grownBy.size g209
    replace hR := hR.grown g209 (by intro h; injection h with h; omega)
    replace G := grown_far G g209 (fun k hk => by injection hk with hk; subst hk; omega)
    replace hB12 := hB12.grown g209 (by intro h; injection h with h; omega)
    replace ho194 := ho194.stored g209 hB33 (by decide) (by decide)
    replace ho205 := ho205.stored g209 hB33 (by decide)
    replace hB33 := hB210
    refine Sq.nil ?_
    refine Eq.end ?_
    refine Eq.next ?_
    refine Cq.seq ?_
    refine Cq.region ?_
    refine Sq.loadAgg agg26 .plain rfl rfl hB33 rfl ?_
    refine Sq.storeAgg agg26 .plain rfl rfl (one_cons rfl (one_cons (Rows.one (OwnRows.rows ho194)) (one_cons (Row.one (Own.row ho205)) one_nil))) hB12 rfl rfl (fun w212 g213 hB214 => ?_)
    have hs215 := World.grownBy.size g213
    replace hR := hR.grown g213 (by intro h; injection h with h; omega)
    replace G := grown_far G g213 (fun k hk => by injection hk with hk; subst hk; omega)
    replace ho194 := ho194.stored g213 hB12 (by decide) (by decide)
    replace ho205 := ho205.stored g213 hB12 (by decide)
    replace hB12 := hB214
    refine Sq.nil ?_
    refine Eq.next ?_
    refine Cq.ret ?_
    refine Eq.retCell rfl rfl agg26 hB12 rfl ?_
    exact ⟨⟨_, by omega, hR, G⟩, ⟨a.al, [], []⟩, ⟨_, _, rfl, (OwnRows.rows ho194), (Own.row ho205)⟩, ⟨hsm.1, by simp, by simp, by simp⟩⟩
  refine Sq.assign .plain rfl rfl ?_
  refine Sq.nil ?_
  refine Eq.next ?_
  refine Cq.els rfl ?_
  refine Cq.seq ?_
  refine Cq.region ?_
  refine Sq.eql .plain rfl rfl rfl ?_
  refine Sq.part (fun c216 => ?_) (fun c216 => ?_)
  · refine Sq.assign .plain rfl rfl ?_
    refine Sq.nil ?_
    refine Eq.next ?_
    refine Cq.thn rfl ?_
    refine Cq.block ?_
    refine Cq.loop (fun nn w ls => ∃ (nxv : Value), ∃ (acv : Value), ∃ (xss : List (List Int)), ∃ (ys : List Bool), ls = [(0, Value.pointer (some ⟨rb, 0, none⟩)), (4, Value.pointer (some ⟨b9, 0, none⟩)), (5, Value.pointer (some ⟨b30, 0, none⟩)), (6, Value.int .i64 (List.length a.next : Int)), (7, Value.int .i64 k50), (18, Value.int .i64 k61), (19, Value.bool false), (25, Value.bool false), (32, Value.bool false), (47, Value.bool false), (81, Value.bool false), (87, Value.bool true)] ∧ Blk w b30 26 [Value.int .i64 a.al, nxv, acv] ∧ OwnRows w w0.heap.size w.heap.size 56 3 nxv xss ∧ Own w w0.heap.size 4 acv (ys.map Value.bool) ∧ (a.next.length ≤ xss.length ∧ xss.length ≤ a.next.length + 13 ∧ ys.length + a.next.length = a.acc.length + xss.length) ∧ (∀ row ∈ xss, row.length ≤ N) ∧ World.grownBy w0 w (some rb) ∧ Blk w rb 88 [bv, Value.int .i64 p57] ∧ Blk w b9 26 [Value.int .i64 0, Value.slice none 0 0, Value.slice none 0 0] ∧ nn = (13 - xss.length)) _ _ ⟨_, _, _, _, rfl, hB33, OwnRows.mono (OwnRows.now hn23) (by omega), Own.mono ha24 (by omega), by have := hsm.2; omega, hsm.2.2.2, G, hR, hB12, rfl⟩ (.cons rfl (.cons rfl (.cons rfl (.cons rfl (.cons rfl (.cons rfl (.cons rfl (.cons rfl (.cons rfl (.cons rfl (.cons rfl (.cons rfl (.nil))))))))))))) ?_
    rintro nn wl1 ls ⟨nxv, acv, xss, ys, rfl, hB7, hor, hoa, hll, hall, G, hR, hB12, rfl⟩
    have hs217 := World.grownBy.size G
    have hx0 := all_row hall (k := (0 : Int).toNat)
    refine Cq.seq ?_
    refine Cq.seq ?_
    refine Cq.region ?_
    refine Sq.move .plain rfl rfl ?_
    refine Sq.gtr .plain rfl rfl rfl ?_
    refine Sq.part (fun c218 => ?_) (fun c218 => ?_)
    · refine Sq.move .plain rfl rfl ?_
      refine Sq.fieldAddr fld26_1 (.met rfl rfl rfl) rfl rfl ?_
      refine Sq.loadB one23 (.met rfl rfl rfl) rfl rfl hB7 rfl ?_
      refine Sq.lenRows (OwnRows.rows hor) (.met rfl rfl rfl) rfl und23 rfl ?_
      refine Sq.leq (.met rfl rfl rfl) rfl rfl rfl ?_
      refine Sq.part (fun c219 => ?_) (fun c219 => ?_)
      · refine Sq.pickT .plain rfl rfl rfl ?_
        refine Sq.nil ?_
        refine Eq.next ?_
        refine Cq.thn rfl ?_
        refine Cq.skip ?_
        refine Eq.next ?_
        refine Cq.block ?_
        refine Cq.seq ?_
        obtain ⟨pA, rA, hpA, _⟩ := Rows.at (OwnRows.rows hor) (i := 0) (by omega) (by simp; omega)
        have hrA := (OwnRows.rowAt hor hpA).1
        refine Cq.drawS 10 (fun w' => Blk w' b30 26 [Value.int .i64 a.al, nxv, acv]) mixed (hB7) (fun w220 e221 hS => ?_)
        clear hS
        have hs222 := Below.size e221
        replace G := grown_trans G (Ext.to_grown e221 _)
        replace hR := hR.ext e221
        replace hB12 := hB12.ext e221
        replace hB7 := hB7.ext e221
        replace hor := hor.ext e221
        replace hoa := hoa.ext e221
        replace hpA := hpA.ext e221
        replace hrA := hrA.ext e221
        refine Gq.st 0 rfl (by kernel_rfl) rfl .plain rfl (fun _ _ _ h => h) hB7 (fun w' x => Still.fieldAddr fld26_1 rfl) ?_
        refine Gq.st 1 rfl (by kernel_rfl) rfl .plain rfl (fun _ _ _ h => h) hB7 (fun w' x => Still.loadB one23 rfl x rfl) ?_
        refine Gq.st 3 rfl (by kernel_rfl) rfl .plain rfl (fun _ _ _ h => h) hB7 (fun w' x => Still.fieldAddr fld26_1 rfl) ?_
        refine Gq.st 4 rfl (by kernel_rfl) rfl .plain rfl (fun _ _ _ h => h) hB7 (fun w' x => Still.loadB one23 rfl x rfl) ?_
        refine Gq.st 5 rfl (by kernel_rfl) rfl .plain rfl (fun _ _ _ h => h) hB7 (fun w' x => Still.at' sl23 hpA rfl rfl) ?_
        refine Gq.two 2 6 rfl rfl (by kernel_rfl) ?_ ?_
        · refine Sq.lit sl56 rfl rfl .plain rfl rfl one_nil (fun b223 w224 e225 hlo226 ho227 _ => ?_)
          replace ho227 := ho227 w220.heap.size (Nat.le_refl _)
          have hs229 := Below.size e225
          replace G := grown_trans G (Ext.to_grown e225 _)
          replace hR := hR.ext e225
          replace hB12 := hB12.ext e225
          replace hB7 := hB7.ext e225
          replace hor := hor.ext e225
          replace hoa := hoa.ext e225
          replace hpA := hpA.ext e225
          replace hrA := hrA.ext e225
          refine Sq.nil ?_
          refine Eq.goes (fun _ => hB7) ?_
          refine Gq.one 6 rfl (by kernel_rfl) ?_
          refine Sq.val .plain rfl rfl (Still.loadA one56 rfl hpA.1) ?_
          refine Sq.nil ?_
          refine Eq.goes (fun _ => hB7) ?_
          refine Gq.one 7 rfl (by kernel_rfl) ?_
          refine Sq.app sl56 ho227 (by omega) (Own.row hrA) (one_ints _) (by rw [List.length_map]; simp only [List.length_nil, Nat.zero_add]; omega) .plain rfl rfl rfl rfl (fun v230 w231 ho233 g232 => ?_)
          have hs234 := g232.size
          replace G := grown_new G ho227 g232 (by omega)
          replace hR := hR.owned ho227 g232 (by decide)
          replace hB12 := hB12.owned ho227 g232 (by decide)
          replace hB7 := hB7.owned ho227 g232 (by decide)
          replace hor := hor.apart ho227 g232 (by omega) (by decide)
          replace hoa := hoa.owned ho227 g232 (by decide)
          simp only [List.nil_append] at ho233
          refine Sq.nil ?_
          refine Eq.goes (fun _ => hB7) ?_
          refine Gq.one 8 rfl (by kernel_rfl) ?_
          refine Sq.lit sl23 rfl rfl .plain rfl rfl (one_cons (Row.one (Own.row ho233)) one_nil) (fun b235 w236 e237 hlo238 ho239 _ => ?_)
          replace ho239 := ho239 w231.heap.size (Nat.le_refl _)
          have hs241 := Below.size e237
          replace G := grown_trans G (Ext.to_grown e237 _)
          replace hR := hR.ext e237
          replace hB12 := hB12.ext e237
          replace hB7 := hB7.ext e237
          replace hor := hor.ext e237
          replace hoa := hoa.ext e237
          replace ho233 := ho233.ext e237
          refine Sq.nil ?_
          refine Eq.goes (fun _ => hB7) ?_
          refine Gq.one 9 rfl (by kernel_rfl) ?_
          obtain ⟨rs246, q247, q248, q249⟩ := OwnRows.open hor (by decide)
          have q249x := Ext.refl w236
          refine Sq.app sl23 q247 (by omega) (Own.row ho239) (one_cons (Row.one (Own.row ho233)) one_nil) (by rw [q248]; first | omega | (simp; omega)) .plain rfl rfl rfl rfl (fun v242 w243 ho245 g244 => ?_)
          have hs250 := g244.size
          have ho245r := q249 _ ((xss.getD (0 : Int).toNat [])) _ _ _ (Ext.refl _) (Own.mono ho233 (by omega)) (by omega) ho245 g244
          replace G := grown_new G q247 g244 (by omega)
          replace hR := hR.owned q247 g244 (by decide)
          replace hB12 := hB12.owned q247 g244 (by decide)
          replace hB7 := hB7.owned q247 g244 (by decide)
          replace hoa := hoa.owned q247 g244 (by decide)
          refine Sq.nil ?_
          refine Eq.goes (fun _ => hB7) ?_
          refine Gq.one 10 rfl (by kernel_rfl) ?_
          refine Sq.fieldAddr fld26_1 .plain rfl rfl ?_
          refine Sq.nil ?_
          refine Eq.goes (fun h => absurd h (by decide)) ?_
          refine Gq.one 11 rfl (by kernel_rfl) ?_
          refine Sq.store one23 .plain rfl rfl (Rows.one (OwnRows.rows ho245r)) hB7 (by simp) (fun w251 g252 hB253 => ?_)
          have hs254 := World.grownBy.size g252
          replace G := grown_far G g252 (fun k hk => by injection hk with hk; subst hk; omega)
          replace hR := hR.grown g252 (by intro h; injection h with h; omega)
          replace hB12 := hB12.grown g252 (by intro h; injection h with h; omega)
          replace hoa := hoa.stored g252 hB7 (by decide)
          replace ho245r := ho245r.stored g252 hB7 (by decide) (by decide)
          replace hB7 := hB253
          refine Sq.nil ?_
          refine Eq.goes (fun h => absurd h (by decide)) ?_
          refine Gq.done (by kernel_rfl) ?_
          refine Eq.next ?_
          refine Cq.region ?_
          refine Sq.fieldAddr fld26_2 .plain rfl rfl ?_
          refine Sq.loadB one24 .plain rfl rfl hB7 rfl ?_
          refine Sq.app1 sl24 hoa (by omega) (by first | omega | (simp; omega)) .plain rfl rfl rfl rfl rfl rfl rfl (fun v255 w256 ho258 g257 _ => ?_)
          have hs259 := g257.size
          replace G := grown_new G hoa g257 (by omega)
          replace hR := hR.owned hoa g257 (by decide)
          replace hB12 := hB12.owned hoa g257 (by decide)
          replace hB7 := hB7.owned hoa g257 (by decide)
          replace ho245r := ho245r.owned hoa g257 (by decide) (by decide)
          refine Sq.fieldAddr fld26_2 .plain rfl rfl ?_
          refine Sq.store one24 .plain rfl rfl (Row.one (Own.row ho258)) hB7 (by simp) (fun w260 g261 hB262 => ?_)
          have hs263 := World.grownBy.size g261
          replace G := grown_far G g261 (fun k hk => by injection hk with hk; subst hk; omega)
          replace hR := hR.grown g261 (by intro h; injection h with h; omega)
          replace hB12 := hB12.grown g261 (by intro h; injection h with h; omega)
          replace ho245r := ho245r.stored g261 hB7 (by decide) (by decide)
          replace ho258 := ho258.stored g261 hB7 (by decide)
          replace hB7 := hB262
          refine Sq.nil ?_
          refine Eq.end ?_
          refine Eq.round _ _ ⟨_, _, _, _, rfl, hB7, OwnRows.now ho245r, Own.snocB ho258, by simp; omega, all_app hall (by omega), G, hR, hB12, rfl⟩ (by simp; omega) (.cons rfl (.cons rfl (.cons rfl (.cons rfl (.cons rfl (.cons rfl (.cons rfl (.cons rfl (.cons rfl (.cons rfl (.cons rfl (.cons rfl (.nil)))))))))))))
        refine Sq.val .plain rfl rfl (Still.loadA one56 rfl hpA.1) ?_
        refine Sq.nil ?_
        refine Eq.goes (fun _ => hB7) ?_
        refine Gq.one 2 rfl (by kernel_rfl) ?_
        refine Sq.lit sl56 rfl rfl .plain rfl rfl one_nil (fun b264 w265 e266 hlo267 ho268 _ => ?_)
        replace ho268 := ho268 w220.heap.size (Nat.le_refl _)
        have hs270 := Below.size e266
        replace G := grown_trans G (Ext.to_grown e266 _)
        replace hR := hR.ext e266
        replace hB12 := hB12.ext e266
        replace hB7 := hB7.ext e266
        replace hor := hor.ext e266
        replace hoa := hoa.ext e266
        replace hrA := hrA.ext e266
        refine Sq.nil ?_
        refine Eq.goes (fun _ => hB7) ?_
        refine Gq.one 7 rfl (by kernel_rfl) ?_
        refine Sq.app sl56 ho268 (by omega) (Own.row hrA) (one_ints _) (by rw [List.length_map]; simp only [List.length_nil, Nat.zero_add]; omega) .plain rfl rfl rfl rfl (fun v271 w272 ho274 g273 => ?_)
        have hs275 := g273.size
        replace G := grown_new G ho268 g273 (by omega)
        replace hR := hR.owned ho268 g273 (by decide)
        replace hB12 := hB12.owned ho268 g273 (by decide)
        replace hB7 := hB7.owned ho268 g273 (by decide)
        replace hor := hor.apart ho268 g273 (by omega) (by decide)
        replace hoa := hoa.owned ho268 g273 (by decide)
        simp only [List.nil_append] at ho274
        refine Sq.nil ?_
        refine Eq.goes (fun _ => hB7) ?_
        refine Gq.one 8 rfl (by kernel_rfl) ?_
        refine Sq.lit sl23 rfl rfl .plain rfl rfl (one_cons (Row.one (Own.row ho274)) one_nil) (fun b276 w277 e278 hlo279 ho280 _ => ?_)
        replace ho280 := ho280 w272.heap.size (Nat.le_refl _)
        have hs282 := Below.size e278
        replace G := grown_trans G (Ext.to_grown e278 _)
        replace hR := hR.ext e278
        replace hB12 := hB12.ext e278
        replace hB7 := hB7.ext e278
        replace hor := hor.ext e278
        replace hoa := hoa.ext e278
        replace ho274 := ho274.ext e278
        refine Sq.nil ?_
        refine Eq.goes (fun _ => hB7) ?_
        refine Gq.one 9 rfl (by kernel_rfl) ?_
        obtain ⟨rs287, q288, q289, q290⟩ := OwnRows.open hor (by decide)
        have q290x := Ext.refl w277
        refine Sq.app sl23 q288 (by omega) (Own.row ho280) (one_cons (Row.one (Own.row ho274)) one_nil) (by rw [q289]; first | omega | (simp; omega)) .plain rfl rfl rfl rfl (fun v283 w284 ho286 g285 => ?_)
        have hs291 := g285.size
        have ho286r := q290 _ ((xss.getD (0 : Int).toNat [])) _ _ _ (Ext.refl _) (Own.mono ho274 (by omega)) (by omega) ho286 g285
        replace G := grown_new G q288 g285 (by omega)
        replace hR := hR.owned q288 g285 (by decide)
        replace hB12 := hB12.owned q288 g285 (by decide)
        replace hB7 := hB7.owned q288 g285 (by decide)
        replace hoa := hoa.owned q288 g285 (by decide)
        refine Sq.nil ?_
        refine Eq.goes (fun _ => hB7) ?_
        refine Gq.one 10 rfl (by kernel_rfl) ?_
        refine Sq.fieldAddr fld26_1 .plain rfl rfl ?_
        refine Sq.nil ?_
        refine Eq.goes (fun h => absurd h (by decide)) ?_
        refine Gq.one 11 rfl (by kernel_rfl) ?_
        refine Sq.store one23 .plain rfl rfl (Rows.one (OwnRows.rows ho286r)) hB7 (by simp) (fun w292 g293 hB294 => ?_)
        have hs295 := World.grownBy.size g293
        replace G := grown_far G g293 (fun k hk => by injection hk with hk; subst hk; omega)
        replace hR := hR.grown g293 (by intro h; injection h with h; omega)
        replace hB12 := hB12.grown g293 (by intro h; injection h with h; omega)
        replace hoa := hoa.stored g293 hB7 (by decide)
        replace ho286r := ho286r.stored g293 hB7 (by decide) (by decide)
        replace hB7 := hB294
        refine Sq.nil ?_
        refine Eq.goes (fun h => absurd h (by decide)) ?_
        refine Gq.done (by kernel_rfl) ?_
        refine Eq.next ?_
        refine Cq.region ?_
        refine Sq.fieldAddr fld26_2 .plain rfl rfl ?_
        refine Sq.loadB one24 .plain rfl rfl hB7 rfl ?_
        refine Sq.app1 sl24 hoa (by omega) (by first | omega | (simp; omega)) .plain rfl rfl rfl rfl rfl rfl rfl (fun v296 w297 ho299 g298 _ => ?_)
        have hs300 := g298.size
        replace G := grown_new G hoa g298 (by omega)
        replace hR := hR.owned hoa g298 (by decide)
        replace hB12 := hB12.owned hoa g298 (by decide)
        replace hB7 := hB7.owned hoa g298 (by decide)
        replace ho286r := ho286r.owned hoa g298 (by decide) (by decide)
        refine Sq.fieldAddr fld26_2 .plain rfl rfl ?_
        refine Sq.store one24 .plain rfl rfl (Row.one (Own.row ho299)) hB7 (by simp) (fun w301 g302 hB303 => ?_)
        have hs304 := World.grownBy.size g302
        replace G := grown_far G g302 (fun k hk => by injection hk with hk; subst hk; omega)
        replace hR := hR.grown g302 (by intro h; injection h with h; omega)
        replace hB12 := hB12.grown g302 (by intro h; injection h with h; omega)
        replace ho286r := ho286r.stored g302 hB7 (by decide) (by decide)
        replace ho299 := ho299.stored g302 hB7 (by decide)
        replace hB7 := hB303
        refine Sq.nil ?_
        refine Eq.end ?_
        refine Eq.round _ _ ⟨_, _, _, _, rfl, hB7, OwnRows.now ho286r, Own.snocB ho299, by simp; omega, all_app hall (by omega), G, hR, hB12, rfl⟩ (by simp; omega) (.cons rfl (.cons rfl (.cons rfl (.cons rfl (.cons rfl (.cons rfl (.cons rfl (.cons rfl (.cons rfl (.cons rfl (.cons rfl (.cons rfl (.nil)))))))))))))
      refine Sq.pickT .plain rfl rfl rfl ?_
      refine Sq.nil ?_
      refine Eq.next ?_
      refine Cq.els rfl ?_
      refine Cq.exit ?_
      refine Eq.past ?_
      refine Eq.past ?_
      refine Eq.hit ?_
      refine Eq.end ?_
      refine Eq.next ?_
      refine Cq.seq ?_
      refine Cq.region ?_
      refine Sq.loadAgg agg26 .plain rfl rfl hB7 rfl ?_
      refine Sq.storeAgg agg26 .plain rfl rfl (one_cons rfl (one_cons (Rows.one (OwnRows.rows hor)) (one_cons (Row.one (Own.row hoa)) one_nil))) hB12 rfl rfl (fun w305 g306 hB307 => ?_)
      have hs308 := World.grownBy.size g306
      replace G := grown_far G g306 (fun k hk => by injection hk with hk; subst hk; omega)
      replace hR := hR.grown g306 (by intro h; injection h with h; omega)
      replace hor := hor.stored g306 hB12 (by decide) (by decide)
      replace hoa := hoa.stored g306 hB12 (by decide)
      replace hB12 := hB307
      refine Sq.nil ?_
      refine Eq.next ?_
      refine Cq.ret ?_
      refine Eq.retCell rfl rfl agg26 hB12 rfl ?_
      exact ⟨⟨_, by omega, hR, G⟩, ⟨a.al, xss, ys⟩, ⟨_, _, rfl, (OwnRows.rows hor), (Own.row hoa)⟩, ⟨hsm.1, by show xss.length ≤ _; omega, by show ys.length ≤ _; omega, fun row hr => by have := hall row hr; omega⟩⟩
    refine Sq.move .plain rfl rfl ?_
    refine Sq.off rfl rfl rfl rfl rfl rfl ?_
    refine Sq.off rfl rfl rfl rfl rfl rfl ?_
    refine Sq.off rfl rfl rfl rfl rfl rfl ?_
    refine Sq.off rfl rfl rfl rfl rfl rfl ?_
    refine Sq.pickF .plain rfl rfl rfl ?_
    refine Sq.nil ?_
    refine Eq.next ?_
    refine Cq.els rfl ?_
    refine Cq.exit ?_
    refine Eq.past ?_
    refine Eq.past ?_
    refine Eq.hit ?_
    refine Eq.end ?_
    refine Eq.next ?_
    refine Cq.seq ?_
    refine Cq.region ?_
    refine Sq.loadAgg agg26 .plain rfl rfl hB7 rfl ?_
    refine Sq.storeAgg agg26 .plain rfl rfl (one_cons rfl (one_cons (Rows.one (OwnRows.rows hor)) (one_cons (Row.one (Own.row hoa)) one_nil))) hB12 rfl rfl (fun w309 g310 hB311 => ?_)
    have hs312 := World.grownBy.size g310
    replace G := grown_far G g310 (fun k hk => by injection hk with hk; subst hk; omega)
    replace hR := hR.grown g310 (by intro h; injection h with h; omega)
    replace hor := hor.stored g310 hB12 (by decide) (by decide)
    replace hoa := hoa.stored g310 hB12 (by decide)
    replace hB12 := hB311
    refine Sq.nil ?_
    refine Eq.next ?_
    refine Cq.ret ?_
    refine Eq.retCell rfl rfl agg26 hB12 rfl ?_
    exact ⟨⟨_, by omega, hR, G⟩, ⟨a.al, xss, ys⟩, ⟨_, _, rfl, (OwnRows.rows hor), (Own.row hoa)⟩, ⟨hsm.1, by show xss.length ≤ _; omega, by show ys.length ≤ _; omega, fun row hr => by have := hall row hr; omega⟩⟩
  refine Sq.assign .plain rfl rfl ?_
  refine Sq.nil ?_
  refine Eq.next ?_
  refine Cq.els rfl ?_
  refine Cq.skip ?_
  refine Eq.end ?_
  refine Eq.next ?_
  refine Cq.seq ?_
  refine Cq.region ?_
  refine Sq.loadAgg agg26 .plain rfl rfl hB33 rfl ?_
  refine Sq.storeAgg agg26 .plain rfl rfl (one_cons rfl (one_cons (Rows.one (OwnRows.rows hn23)) (one_cons (Row.one (Own.row ha24)) one_nil))) hB12 rfl rfl (fun w313 g314 hB315 => ?_)
  have hs316 := World.grownBy.size g314
  replace hR := hR.grown g314 (by intro h; injection h with h; omega)
  replace G := grown_far G g314 (fun k hk => by injection hk with hk; subst hk; omega)
  replace hn23 := hn23.stored g314 hB12 (by decide) (by decide)
  replace ha24 := ha24.stored g314 hB12 (by decide)
  replace hB12 := hB315
  refine Sq.nil ?_
  refine Eq.next ?_
  refine Cq.ret ?_
  refine Eq.retCell rfl rfl agg26 hB12 rfl ?_
  exact ⟨⟨_, by omega, hR, G⟩, a, ⟨_, _, rfl, (OwnRows.rows hn23), (Own.row ha24)⟩, hsm.mono (by omega)⟩
end Go.Proofs.Ytdejmfkpohgamaa
set_option linter.unusedSimpArgs false
set_option linter.unusedVariables false
namespace Go.Proofs.Ytdejmfkpohgamaa
open Go.RowKit
set_option maxRecDepth 100000 in
theorem l1Text_c (x : Int) (hx : 0 ≤ x ∧ x ≤ 100) (w0 : World) : Ret Try.prog 98 #[Value.int .i64 x] w0 (fun v w => v = .string (chr x) ∧ Ext w0 w) := by
  have E := Ext.refl w0
  refine Ret.of (args := [Value.int .i64 x]) Try.func98 rfl rfl rfl ?_
  rintro _ rfl
  show Cq _ _ _ _ [(0, Value.int .i64 x)] _
  refine Cq.seq ?_
  refine Cq.region ?_
  refine Sq.assign .plain rfl rfl ?_
  refine Sq.nil ?_
  refine Eq.next ?_
  refine Cq.seq ?_
  refine Cq.region ?_
  refine Sq.move .plain rfl rfl ?_
  refine Sq.add .plain rfl rfl rfl (by omega) ?_
  refine Sq.conv8 conv3_5 .plain rfl rfl (by omega) ?_
  refine Sq.lit sl22 rfl rfl .plain rfl rfl (one_cons rfl one_nil) (fun b1 w2 e3 hlo4 ho5 _ => ?_)
  replace ho5 := ho5 w0.heap.size (Nat.le_refl _)
  have hs7 := Below.size e3
  replace E := E.trans e3
  refine Sq.val .plain rfl rfl (Still.text1 und22 und8_22 und9 ho5 (by omega) rfl) ?_
  refine Sq.assign .plain rfl rfl ?_
  refine Sq.nil ?_
  refine Eq.next ?_
  refine Cq.ret ?_
  refine Eq.ret1 rfl rfl ?_
  exact ⟨rfl, E⟩
set_option maxRecDepth 100000 in
theorem fmtAl_c (al : Int) (w0 : World) : Ret Try.prog 128 #[Value.int .i64 al] w0 (fun v w => v = .string (fmtAl al) ∧ Ext w0 w) := by
  have E := Ext.refl w0
  refine Ret.of (args := [Value.int .i64 al]) Try.func128 rfl rfl rfl ?_
  rintro _ rfl
  show Cq _ _ _ _ [(0, Value.int .i64 al)] _
  refine Cq.seq ?_
  refine Cq.region ?_
  refine Sq.assign .plain rfl rfl ?_
  refine Sq.nil ?_
  refine Eq.next ?_
  refine Cq.seq ?_
  refine Cq.seq ?_
  refine Cq.region ?_
  refine Sq.move .plain rfl rfl ?_
  refine Sq.call fn89 .plain rfl rfl (l1Alphabet_c _ _) ?_
  rintro _ _ ⟨rfl, rfl⟩
  refine Sq.part (fun c1 => ?_) (fun c1 => ?_)
  · refine Sq.notT .plain rfl rfl ?_
    refine Sq.nil ?_
    refine Eq.next ?_
    refine Cq.els rfl ?_
    refine Cq.skip ?_
    refine Eq.next ?_
    refine Cq.seq ?_
    refine Cq.seq ?_
    refine Cq.region ?_
    refine Sq.move .plain rfl rfl ?_
    refine Sq.eql .plain rfl rfl rfl ?_
    refine Sq.part (fun c2 => ?_) (fun c2 => ?_)
    · refine Sq.nil ?_
      refine Eq.next ?_
      refine Cq.thn rfl ?_
      refine Cq.seq ?_
      refine Cq.region ?_
      refine Sq.assign .plain rfl rfl ?_
      refine Sq.nil ?_
      refine Eq.next ?_
      refine Cq.ret ?_
      refine Eq.pastRet ?_
      refine Eq.ret1 rfl rfl ?_
      exact ⟨by first | rw [fmtAl_bad (by omega)] | rw [fmtAl_zero (by omega)] | rw [fmtAl_good (by omega) (by omega) (k := k.toNat) (by omega)], E⟩
    refine Sq.nil ?_
    refine Eq.next ?_
    refine Cq.els rfl ?_
    refine Cq.skip ?_
    refine Eq.next ?_
    refine Cq.seq ?_
    refine Cq.region ?_
    refine Sq.assign .plain rfl rfl ?_
    refine Sq.nil ?_
    refine Eq.next ?_
    refine Cq.seq ?_
    refine Cq.region ?_
    refine Sq.move .plain rfl rfl ?_
    refine Sq.call fn53 .plain rfl rfl (l1Letters_c al (by omega) _) ?_
    rintro v3 w4 ⟨hl6, e5⟩
    have hs7 := Below.size E
    have hs8 := Below.size e5
    replace E := E.trans e5
    refine Sq.assign .plain rfl rfl ?_
    refine Sq.nil ?_
    refine Eq.next ?_
    refine Cq.seq ?_
    refine Cq.seq ?_
    refine Cq.region ?_
    refine Sq.assign .plain rfl rfl ?_
    refine Sq.nil ?_
    refine Eq.next ?_
    refine Cq.block ?_
    refine Cq.loop (fun nn w ls => ∃ (k : Int), ls = [(0, Value.int .i64 al), (3, Value.string (fmtTo al k.toNat)), (4, v3), (5, Value.int .i64 k)] ∧ (0 ≤ k ∧ k ≤ (letters al).length) ∧ Ext w0 w ∧ Own w w0.heap.size 3 v3 ((letters al).map (Value.int .i64)) ∧ nn = ((letters al).length - k).toNat) _ _ ⟨0, rfl, by omega, E, hl6, rfl⟩ (.cons rfl (.cons rfl (.cons rfl (.cons rfl (.nil))))) ?_
    rintro nn wl1 ls ⟨k, rfl, hk, E, hl6, rfl⟩
    have hs9 := Below.size E
    have hlet := letters_len6 al
    have hsz := fmtTo_size al k.toNat
    have hlt := letters_at al (k := k.toNat)
    refine Cq.seq ?_
    refine Cq.seq ?_
    refine Cq.region ?_
    refine Sq.move .plain rfl rfl ?_
    refine Sq.move .plain rfl rfl ?_
    refine Sq.lenInts (Own.row hl6) .plain rfl und56 rfl ?_
    refine Sq.lss .plain rfl rfl rfl ?_
    refine Sq.part (fun c10 => ?_) (fun c10 => ?_)
    · refine Sq.nil ?_
      refine Eq.next ?_
      refine Cq.thn rfl ?_
      refine Cq.skip ?_
      refine Eq.next ?_
      refine Cq.seq ?_
      refine Cq.block ?_
      refine Cq.region ?_
      refine Sq.move .plain rfl rfl ?_
      refine Sq.move .plain rfl rfl ?_
      refine Sq.move .plain rfl rfl ?_
      refine Sq.idxInts sl56 one3 (Own.row hl6) .plain rfl rfl rfl .plain rfl rfl (by omega) (by omega) ?_
      refine Sq.call fn98 .plain rfl rfl (l1Text_c ((letters al).getD k.toNat 0) (by (have := hlt (by omega); omega)) _) ?_
      rintro _ w12 ⟨rfl, e13⟩
      have hs14 := Below.size E
      have hs15 := Below.size e13
      replace E := E.trans e13
      replace hl6 := hl6.ext e13
      refine Sq.cat .plain rfl rfl rfl (by rw [chr_size]; omega) ?_
      refine Sq.assign .plain rfl rfl ?_
      refine Sq.nil ?_
      refine Eq.end ?_
      refine Eq.next ?_
      refine Cq.region ?_
      refine Sq.move .plain rfl rfl ?_
      refine Sq.add .plain rfl rfl rfl (by omega) ?_
      refine Sq.assign .plain rfl rfl ?_
      refine Sq.nil ?_
      have e1 := toNat_succ hk.1
      rw [← fmtTo_succ (by omega), ← e1]
      refine Eq.round _ _ ⟨k + 1, rfl, by omega, E, hl6, rfl⟩ (by omega) (.cons rfl (.cons rfl (.cons rfl (.cons rfl (.nil)))))
    refine Sq.nil ?_
    refine Eq.next ?_
    refine Cq.els rfl ?_
    refine Cq.exit ?_
    refine Eq.past ?_
    refine Eq.past ?_
    refine Eq.hit ?_
    refine Eq.next ?_
    refine Cq.seq ?_
    refine Cq.region ?_
    refine Sq.move .plain rfl rfl ?_
    refine Sq.assign .plain rfl rfl ?_
    refine Sq.nil ?_
    refine Eq.next ?_
    refine Cq.ret ?_
    refine Eq.ret1 rfl rfl ?_
    exact ⟨by first | rw [fmtAl_bad (by omega)] | rw [fmtAl_zero (by omega)] | rw [fmtAl_good (by omega) (by omega) (k := k.toNat) (by omega)], E⟩
  refine Sq.notF .plain rfl rfl ?_
  refine Sq.nil ?_
  refine Eq.next ?_
  refine Cq.thn rfl ?_
  refine Cq.seq ?_
  refine Cq.region ?_
  refine Sq.assign .plain rfl rfl ?_
  refine Sq.nil ?_
  refine Eq.next ?_
  refine Cq.ret ?_
  refine Eq.pastRet ?_
  refine Eq.ret1 rfl rfl ?_
  exact ⟨by first | rw [fmtAl_bad (by omega)] | rw [fmtAl_zero (by omega)] | rw [fmtAl_good (by omega) (by omega) (k := k.toNat) (by omega)], E⟩
set_option maxRecDepth 100000 in
theorem parseAl_c (s : ByteArray) (w0 : World) : Ret Try.prog 111 #[Value.string s] w0 (fun v w => (∃ n ok, v = .tuple #[.int .i64 n, .bool ok] ∧ 0 ≤ n ∧ n ≤ 63) ∧ Ext w0 w) := by
  have E := Ext.refl w0
  refine Ret.of (args := [Value.string s]) Try.func111 rfl rfl rfl ?_
  rintro _ rfl
  show Cq _ _ _ _ [(0, Value.string s)] _
  refine Cq.seq ?_
  refine Cq.region ?_
  refine Sq.assign .plain rfl rfl ?_
  refine Sq.assign .plain rfl rfl ?_
  refine Sq.nil ?_
  refine Eq.next ?_
  refine Cq.seq ?_
  refine Cq.seq ?_
  refine Cq.region ?_
  refine Sq.assign .plain rfl rfl ?_
  refine Sq.nil ?_
  refine Eq.next ?_
  refine Cq.block ?_
  refine Cq.loop (fun nn w ls => ∃ (k : Int), ls = [(0, Value.string s), (4, Value.int .i64 k)] ∧ (0 ≤ k ∧ k ≤ 64) ∧ Ext w0 w ∧ nn = (64 - k).toNat) _ _ ⟨0, rfl, by omega, E, rfl⟩ (.cons rfl (.cons rfl (.nil))) ?_
  rintro nn wl1 ls ⟨k, rfl, hk, E, rfl⟩
  have hs1 := Below.size E
  refine Cq.seq ?_
  refine Cq.seq ?_
  refine Cq.region ?_
  refine Sq.move .plain rfl rfl ?_
  refine Sq.leq .plain rfl rfl rfl ?_
  refine Sq.part (fun c2 => ?_) (fun c2 => ?_)
  · refine Sq.nil ?_
    refine Eq.next ?_
    refine Cq.thn rfl ?_
    refine Cq.skip ?_
    refine Eq.next ?_
    refine Cq.seq ?_
    refine Cq.block ?_
    refine Cq.seq ?_
    refine Cq.region ?_
    refine Sq.move .plain rfl rfl ?_
    refine Sq.call fn128 .plain rfl rfl (fmtAl_c k _) ?_
    rintro _ w4 ⟨rfl, e5⟩
    have hs6 := Below.size E
    have hs7 := Below.size e5
    replace E := E.trans e5
    refine Sq.move .plain rfl rfl ?_
    refine Sq.eqlS .plain rfl rfl rfl ?_
    refine Sq.part (fun c8 => ?_) (fun c8 => ?_)
    · refine Sq.nil ?_
      refine Eq.next ?_
      refine Cq.thn rfl ?_
      refine Cq.seq ?_
      refine Cq.region ?_
      refine Sq.move .plain rfl rfl ?_
      refine Sq.assign .plain rfl rfl ?_
      refine Sq.assign .plain rfl rfl ?_
      refine Sq.nil ?_
      refine Eq.next ?_
      refine Cq.ret ?_
      refine Eq.outRet ?_
      refine Eq.pastRet ?_
      refine Eq.pastRet ?_
      refine Eq.outRet ?_
      refine Eq.pastRet ?_
      refine Eq.ret2 rfl rfl rfl ?_
      exact ⟨⟨_, _, rfl, by omega⟩, E⟩
    refine Sq.nil ?_
    refine Eq.next ?_
    refine Cq.els rfl ?_
    refine Cq.skip ?_
    refine Eq.end ?_
    refine Eq.next ?_
    refine Cq.region ?_
    refine Sq.move .plain rfl rfl ?_
    refine Sq.add .plain rfl rfl rfl (by omega) ?_
    refine Sq.assign .plain rfl rfl ?_
    refine Sq.nil ?_
    refine Eq.round _ _ ⟨k + 1, rfl, by omega, E, rfl⟩ (by omega) (.cons rfl (.cons rfl (.nil)))
  refine Sq.nil ?_
  refine Eq.next ?_
  refine Cq.els rfl ?_
  refine Cq.exit ?_
  refine Eq.past ?_
  refine Eq.past ?_
  refine Eq.hit ?_
  refine Eq.next ?_
  refine Cq.seq ?_
  refine Cq.region ?_
  refine Sq.assign .plain rfl rfl ?_
  refine Sq.assign .plain rfl rfl ?_
  refine Sq.nil ?_
  refine Eq.next ?_
  refine Cq.ret ?_
  refine Eq.ret2 rfl rfl rfl ?_
  exact ⟨⟨_, _, rfl, by omega⟩, E⟩
set_option maxRecDepth 100000 in
theorem dec_c (n : Int) (hn : 0 ≤ n ∧ n ≤ 1000000) (w0 : World) : Ret Try.prog 130 #[Value.int .i64 n] w0 (fun v w => (∃ s, v = .string s ∧ (s.size : Int) ≤ n + 1) ∧ Ext w0 w) := by
  have E := Ext.refl w0
  refine Ret.of (args := [Value.int .i64 n]) Try.func130 rfl rfl rfl ?_
  rintro _ rfl
  show Cq _ _ _ _ [(0, Value.int .i64 n)] _
  refine Cq.seq ?_
  refine Cq.region ?_
  refine Sq.assign .plain rfl rfl ?_
  refine Sq.nil ?_
  refine Eq.next ?_
  refine Cq.seq ?_
  refine Cq.seq ?_
  refine Cq.region ?_
  refine Sq.move .plain rfl rfl ?_
  refine Sq.lss .plain rfl rfl rfl ?_
  refine Sq.isF (by omega) ?_
  refine Sq.nil ?_
  refine Eq.next ?_
  refine Cq.els rfl ?_
  refine Cq.skip ?_
  refine Eq.next ?_
  refine Cq.seq ?_
  refine Cq.seq ?_
  refine Cq.region ?_
  refine Sq.move .plain rfl rfl ?_
  refine Sq.lss .plain rfl rfl rfl ?_
  refine Sq.isF (by omega) ?_
  refine Sq.nil ?_
  refine Eq.next ?_
  refine Cq.els rfl ?_
  refine Cq.skip ?_
  refine Eq.next ?_
  refine Cq.seq ?_
  refine Cq.region ?_
  refine Sq.assign .plain rfl rfl ?_
  refine Sq.nil ?_
  refine Eq.next ?_
  refine Cq.seq ?_
  refine Cq.block ?_
  refine Cq.loop (fun nn w ls => ∃ (m : Int), ∃ (t : ByteArray), ls = [(0, Value.int .i64 m), (3, Value.string t)] ∧ (0 ≤ m ∧ m ≤ n ∧ (t.size : Int) + m ≤ n) ∧ Ext w0 w ∧ nn = m.toNat) _ _ ⟨_, _, rfl, ⟨by omega, by omega, by show ((0 : Nat) : Int) + n ≤ n; omega⟩, E, rfl⟩ (.cons rfl (.cons rfl (.nil))) ?_
  rintro nn wl1 ls ⟨m, t, rfl, hm, E, rfl⟩
  have hs1 := Below.size E
  refine Cq.seq ?_
  refine Cq.seq ?_
  refine Cq.region ?_
  refine Sq.move .plain rfl rfl ?_
  refine Sq.gtr .plain rfl rfl rfl ?_
  refine Sq.part (fun c2 => ?_) (fun c2 => ?_)
  · refine Sq.nil ?_
    refine Eq.next ?_
    refine Cq.thn rfl ?_
    refine Cq.skip ?_
    refine Eq.next ?_
    refine Cq.block ?_
    refine Cq.seq ?_
    refine Cq.region ?_
    refine Sq.move .plain rfl rfl ?_
    refine Sq.rem .plain rfl rfl rfl (by omega) ?_
    refine Sq.add .plain rfl rfl rfl (by omega) ?_
    refine Sq.conv8 conv3_5 .plain rfl rfl (by omega) ?_
    refine Sq.lit sl22 rfl rfl .plain rfl rfl (one_cons rfl one_nil) (fun b3 w4 e5 hlo6 ho7 _ => ?_)
    replace ho7 := ho7 wl1.heap.size (Nat.le_refl _)
    have hs9 := Below.size e5
    replace E := E.trans e5
    refine Sq.val .plain rfl rfl (Still.text1 und22 und8_22 und9 ho7 (by omega) rfl) ?_
    refine Sq.move .plain rfl rfl ?_
    refine Sq.cat .plain rfl rfl rfl (by show (1 + t.size : Nat) ≤ _; omega) ?_
    refine Sq.assign .plain rfl rfl ?_
    refine Sq.nil ?_
    refine Eq.next ?_
    refine Cq.region ?_
    refine Sq.move .plain rfl rfl ?_
    refine Sq.quo .plain rfl rfl rfl (by omega) ?_
    refine Sq.assign .plain rfl rfl ?_
    refine Sq.nil ?_
    refine Eq.end ?_
    refine Eq.round _ _ ⟨_, _, rfl, by rw [size_cat]; refine ⟨by omega, by omega, ?_⟩; show ((1 + t.size : Nat) : Int) + _ ≤ _; omega, E, rfl⟩ (by omega) (.cons rfl (.cons rfl (.nil)))
  refine Sq.nil ?_
  refine Eq.next ?_
  refine Cq.els rfl ?_
  refine Cq.exit ?_
  refine Eq.past ?_
  refine Eq.past ?_
  refine Eq.hit ?_
  refine Eq.next ?_
  refine Cq.seq ?_
  refine Cq.region ?_
  refine Sq.move .plain rfl rfl ?_
  refine Sq.add .plain rfl rfl rfl (by omega) ?_
  refine Sq.conv8 conv3_5 .plain rfl rfl (by omega) ?_
  refine Sq.lit sl22 rfl rfl .plain rfl rfl (one_cons rfl one_nil) (fun b10 w11 e12 hlo13 ho14 _ => ?_)
  replace ho14 := ho14 wl1.heap.size (Nat.le_refl _)
  have hs16 := Below.size e12
  replace E := E.trans e12
  refine Sq.val .plain rfl rfl (Still.text1 und22 und8_22 und9 ho14 (by omega) rfl) ?_
  refine Sq.move .plain rfl rfl ?_
  refine Sq.cat .plain rfl rfl rfl (by show (1 + t.size : Nat) ≤ _; omega) ?_
  refine Sq.assign .plain rfl rfl ?_
  refine Sq.nil ?_
  refine Eq.next ?_
  refine Cq.ret ?_
  refine Eq.ret1 rfl rfl ?_
  exact ⟨⟨_, rfl, by rw [size_cat]; show ((1 + t.size : Nat) : Int) ≤ _; omega⟩, E⟩
set_option maxRecDepth 100000 in
theorem cut_c (s : ByteArray) (c : Int) (hs : s.size ≤ 1000000) (w0 : World) : Ret Try.prog 110 #[Value.string s, Value.int .u8 c] w0 (fun v w => (∃ xs : List ByteArray, Own w w0.heap.size 9 v (xs.map Value.string) ∧ (1 ≤ xs.length ∧ xs.length ≤ s.size + 1) ∧ ∀ x ∈ xs, x.size ≤ s.size) ∧ Ext w0 w) := by
  have E := Ext.refl w0
  refine Ret.of (args := [Value.string s, Value.int .u8 c]) Try.func110 rfl rfl rfl ?_
  rintro _ rfl
  show Cq _ _ _ _ [(0, Value.string s), (1, Value.int .u8 c)] _
  refine Cq.seq ?_
  refine Cq.region ?_
  refine Sq.assign .plain rfl rfl ?_
  refine Sq.nil ?_
  refine Eq.next ?_
  refine Cq.seq ?_
  refine Cq.region ?_
  refine Sq.lit sl91 rfl rfl .plain rfl rfl one_nil (fun b1 w2 e3 hlo4 ho5 _ => ?_)
  replace ho5 := ho5 w0.heap.size (Nat.le_refl _)
  have hs7 := Below.size e3
  replace E := E.trans e3
  refine Sq.assign .plain rfl rfl ?_
  refine Sq.nil ?_
  refine Eq.next ?_
  refine Cq.seq ?_
  refine Cq.region ?_
  refine Sq.assign .plain rfl rfl ?_
  refine Sq.nil ?_
  refine Eq.next ?_
  refine Cq.seq ?_
  refine Cq.seq ?_
  refine Cq.region ?_
  refine Sq.assign .plain rfl rfl ?_
  refine Sq.nil ?_
  refine Eq.next ?_
  refine Cq.block ?_
  refine Cq.loop (fun nn w ls => ∃ (i : Int), ∃ (q : Int), ∃ (v : Value), ∃ (xs : List ByteArray), ls = [(0, Value.string s), (1, Value.int .u8 c), (5, v), (6, Value.int .i64 q), (7, Value.int .i64 i)] ∧ (0 ≤ q ∧ q ≤ i ∧ i ≤ s.size + 1) ∧ Own w w0.heap.size 9 v (xs.map Value.string) ∧ ((xs.length : Int) ≤ i ∧ (i = s.size + 1 → 1 ≤ xs.length) ∧ ∀ x ∈ xs, x.size ≤ s.size) ∧ Ext w0 w ∧ nn = ((s.size : Int) + 1 - i).toNat) _ _ ⟨0, 0, _, [], rfl, by omega, Own.mono ho5 (by omega), ⟨by simp, by intro h; omega, by simp⟩, E, rfl⟩ (.cons rfl (.cons rfl (.cons rfl (.cons rfl (.cons rfl (.nil)))))) ?_
  rintro nn wl1 ls ⟨i, q, v, xs, rfl, hi, ho, hl, E, rfl⟩
  have hs8 := Below.size E
  refine Cq.seq ?_
  refine Cq.seq ?_
  refine Cq.region ?_
  refine Sq.move .plain rfl rfl ?_
  refine Sq.move .plain rfl rfl ?_
  refine Sq.lenStr .plain rfl und9 rfl ?_
  refine Sq.leq .plain rfl rfl rfl ?_
  refine Sq.part (fun c9 => ?_) (fun c9 => ?_)
  · refine Sq.nil ?_
    refine Eq.next ?_
    refine Cq.thn rfl ?_
    refine Cq.skip ?_
    refine Eq.next ?_
    refine Cq.seq ?_
    refine Cq.block ?_
    refine Cq.seq ?_
    refine Cq.region ?_
    refine Sq.move .plain rfl rfl ?_
    refine Sq.move .plain rfl rfl ?_
    refine Sq.lenStr .plain rfl und9 rfl ?_
    refine Sq.eql .plain rfl rfl rfl ?_
    refine Sq.part (fun c10 => ?_) (fun c10 => ?_)
    · refine Sq.move .plain rfl rfl ?_
      refine Sq.off rfl rfl rfl rfl rfl rfl ?_
      refine Sq.off rfl rfl rfl rfl rfl rfl ?_
      refine Sq.off rfl rfl rfl rfl rfl rfl ?_
      refine Sq.off rfl rfl rfl rfl rfl rfl ?_
      refine Sq.off rfl rfl rfl rfl rfl rfl ?_
      refine Sq.pickT .plain rfl rfl rfl ?_
      refine Sq.nil ?_
      refine Eq.next ?_
      refine Cq.thn rfl ?_
      refine Cq.seq ?_
      refine Cq.region ?_
      refine Sq.move .plain rfl rfl ?_
      refine Sq.move .plain rfl rfl ?_
      refine Sq.move .plain rfl rfl ?_
      refine Sq.move .plain rfl rfl ?_
      refine Sq.val .plain rfl rfl (Still.cutLH und9 rfl rfl rfl (by omega)) ?_
      refine Sq.app1 sl91 ho (by omega) (by simp; omega) .plain rfl rfl rfl rfl rfl rfl rfl (fun v11 w12 ho14 g13 _ => ?_)
      have hs15 := g13.size
      replace E := E.owned ho g13 (by omega)
      refine Sq.assign .plain rfl rfl ?_
      refine Sq.nil ?_
      refine Eq.next ?_
      refine Cq.region ?_
      refine Sq.move .plain rfl rfl ?_
      refine Sq.add .plain rfl rfl rfl (by omega) ?_
      refine Sq.assign .plain rfl rfl ?_
      refine Sq.nil ?_
      refine Eq.end ?_
      refine Eq.next ?_
      refine Cq.region ?_
      refine Sq.move .plain rfl rfl ?_
      refine Sq.add .plain rfl rfl rfl (by omega) ?_
      refine Sq.assign .plain rfl rfl ?_
      refine Sq.nil ?_
      refine Eq.round _ _ ⟨i + 1, _, _, _, rfl, by omega, Own.snocS ho14, ⟨by simp; omega, by intro h; simp, all_app hl.2.2 (size_cut s)⟩, E, rfl⟩ (by omega) (.cons rfl (.cons rfl (.cons rfl (.cons rfl (.cons rfl (.nil))))))
    refine Sq.move .plain rfl rfl ?_
    refine Sq.move (.met rfl rfl rfl) rfl rfl ?_
    refine Sq.move (.met rfl rfl rfl) rfl rfl ?_
    refine Sq.idxStr (.met rfl rfl rfl) rfl und9 rfl rfl (by omega) (str_at (by omega)) ?_
    refine Sq.move (.met rfl rfl rfl) rfl rfl ?_
    refine Sq.eql (.met rfl rfl rfl) rfl rfl rfl ?_
    refine Sq.part (fun c17 => ?_) (fun c17 => ?_)
    · refine Sq.pickF .plain rfl rfl rfl ?_
      refine Sq.nil ?_
      refine Eq.next ?_
      refine Cq.thn rfl ?_
      refine Cq.seq ?_
      refine Cq.region ?_
      refine Sq.move .plain rfl rfl ?_
      refine Sq.move .plain rfl rfl ?_
      refine Sq.move .plain rfl rfl ?_
      refine Sq.move .plain rfl rfl ?_
      refine Sq.val .plain rfl rfl (Still.cutLH und9 rfl rfl rfl (by omega)) ?_
      refine Sq.app1 sl91 ho (by omega) (by simp; omega) .plain rfl rfl rfl rfl rfl rfl rfl (fun v18 w19 ho21 g20 _ => ?_)
      have hs22 := g20.size
      replace E := E.owned ho g20 (by omega)
      refine Sq.assign .plain rfl rfl ?_
      refine Sq.nil ?_
      refine Eq.next ?_
      refine Cq.region ?_
      refine Sq.move .plain rfl rfl ?_
      refine Sq.add .plain rfl rfl rfl (by omega) ?_
      refine Sq.assign .plain rfl rfl ?_
      refine Sq.nil ?_
      refine Eq.end ?_
      refine Eq.next ?_
      refine Cq.region ?_
      refine Sq.move .plain rfl rfl ?_
      refine Sq.add .plain rfl rfl rfl (by omega) ?_
      refine Sq.assign .plain rfl rfl ?_
      refine Sq.nil ?_
      refine Eq.round _ _ ⟨i + 1, _, _, _, rfl, by omega, Own.snocS ho21, ⟨by simp; omega, by intro h; simp, all_app hl.2.2 (size_cut s)⟩, E, rfl⟩ (by omega) (.cons rfl (.cons rfl (.cons rfl (.cons rfl (.cons rfl (.nil))))))
    refine Sq.pickF .plain rfl rfl rfl ?_
    refine Sq.nil ?_
    refine Eq.next ?_
    refine Cq.els rfl ?_
    refine Cq.skip ?_
    refine Eq.end ?_
    refine Eq.next ?_
    refine Cq.region ?_
    refine Sq.move .plain rfl rfl ?_
    refine Sq.add .plain rfl rfl rfl (by omega) ?_
    refine Sq.assign .plain rfl rfl ?_
    refine Sq.nil ?_
    refine Eq.round _ _ ⟨i + 1, _, _, _, rfl, by omega, ho, ⟨by omega, by intro h; omega, hl.2.2⟩, E, rfl⟩ (by omega) (.cons rfl (.cons rfl (.cons rfl (.cons rfl (.cons rfl (.nil))))))
  refine Sq.nil ?_
  refine Eq.next ?_
  refine Cq.els rfl ?_
  refine Cq.exit ?_
  refine Eq.past ?_
  refine Eq.past ?_
  refine Eq.hit ?_
  refine Eq.next ?_
  refine Cq.seq ?_
  refine Cq.region ?_
  refine Sq.move .plain rfl rfl ?_
  refine Sq.assign .plain rfl rfl ?_
  refine Sq.nil ?_
  refine Eq.next ?_
  refine Cq.ret ?_
  refine Eq.ret1 rfl rfl ?_
  exact ⟨⟨xs, ho, by omega, hl.2.2⟩, E⟩
set_option maxRecDepth 100000 in
theorem num10_c (s : ByteArray) (hs : s.size ≤ 1000000) (w0 : World) : Ret Try.prog 129 #[Value.string s] w0 (fun v w => (∃ n ok, v = .tuple #[.int .i64 n, .bool ok] ∧ -1000000000000000000 ≤ n ∧ n ≤ 1000000000000000000) ∧ w0 = w) := by
  refine Ret.of (args := [Value.string s]) Try.func129 rfl rfl rfl ?_
  rintro _ rfl
  show Cq _ _ _ _ [(0, Value.string s)] _
  refine Cq.seq ?_
  refine Cq.region ?_
  refine Sq.assign .plain rfl rfl ?_
  refine Sq.assign .plain rfl rfl ?_
  refine Sq.nil ?_
  refine Eq.next ?_
  refine Cq.seq ?_
  refine Cq.region ?_
  refine Sq.move .plain rfl rfl ?_
  refine Sq.lenStr .plain rfl und9 rfl ?_
  refine Sq.gtr .plain rfl rfl rfl ?_
  refine Sq.part (fun c1 => ?_) (fun c1 => ?_)
  · refine Sq.move .plain rfl rfl ?_
    refine Sq.move (.met rfl rfl rfl) rfl rfl ?_
    refine Sq.idxStr (.met rfl rfl rfl) rfl und9 rfl rfl (by omega) (str_at (by omega)) ?_
    refine Sq.eql (.met rfl rfl rfl) rfl rfl rfl ?_
    refine Sq.part (fun c3 => ?_) (fun c3 => ?_)
    · refine Sq.pickT .plain rfl rfl rfl ?_
      refine Sq.assign .plain rfl rfl ?_
      refine Sq.nil ?_
      refine Eq.next ?_
      refine Cq.seq ?_
      refine Cq.seq ?_
      refine Cq.region ?_
      refine Sq.move .plain rfl rfl ?_
      refine Sq.nil ?_
      refine Eq.next ?_
      refine Cq.thn rfl ?_
      refine Cq.region ?_
      refine Sq.move .plain rfl rfl ?_
      refine Sq.val .plain rfl rfl (Still.cutL und9 rfl rfl (by omega)) ?_
      refine Sq.assign .plain rfl rfl ?_
      refine Sq.nil ?_
      refine Eq.next ?_
      refine Cq.seq ?_
      refine Cq.seq ?_
      refine Cq.region ?_
      have hcut : (((s.extract (1 : Int).toNat s.size)).size : Int) = s.size - 1 := by rw [ByteArray.size_extract]; omega
      refine Sq.move .plain rfl rfl ?_
      refine Sq.lenStr .plain rfl und9 rfl ?_
      refine Sq.eql .plain rfl rfl rfl ?_
      refine Sq.part (fun c4 => ?_) (fun c4 => ?_)
      · refine Sq.move .plain rfl rfl ?_
        refine Sq.off rfl rfl rfl rfl rfl rfl ?_
        refine Sq.off rfl rfl rfl rfl rfl rfl ?_
        refine Sq.off rfl rfl rfl rfl rfl rfl ?_
        refine Sq.pickT .plain rfl rfl rfl ?_
        refine Sq.move .plain rfl rfl ?_
        refine Sq.off rfl rfl rfl rfl rfl rfl ?_
        refine Sq.off rfl rfl rfl rfl rfl rfl ?_
        refine Sq.off rfl rfl rfl rfl rfl rfl ?_
        refine Sq.off rfl rfl rfl rfl rfl rfl ?_
        refine Sq.offU rfl rfl rfl rfl rfl rfl ?_
        refine Sq.offU rfl rfl rfl rfl rfl rfl ?_
        refine Sq.offU rfl rfl rfl rfl rfl rfl ?_
        refine Sq.offU rfl rfl rfl rfl rfl rfl ?_
        refine Sq.offU rfl rfl rfl rfl rfl rfl ?_
        refine Sq.offU rfl rfl rfl rfl rfl rfl ?_
        refine Sq.off rfl rfl rfl rfl rfl rfl ?_
        refine Sq.pickT .plain rfl rfl rfl ?_
        refine Sq.nil ?_
        refine Eq.next ?_
        refine Cq.thn rfl ?_
        refine Cq.seq ?_
        refine Cq.region ?_
        refine Sq.assign .plain rfl rfl ?_
        refine Sq.assign .plain rfl rfl ?_
        refine Sq.nil ?_
        refine Eq.next ?_
        refine Cq.ret ?_
        refine Eq.pastRet ?_
        refine Eq.ret2 rfl rfl rfl ?_
        exact ⟨⟨_, _, rfl, by omega⟩, rfl⟩
      refine Sq.move .plain rfl rfl ?_
      refine Sq.move (.met rfl rfl rfl) rfl rfl ?_
      refine Sq.lenStr (.met rfl rfl rfl) rfl und9 rfl ?_
      refine Sq.gtr (.met rfl rfl rfl) rfl rfl rfl ?_
      refine Sq.part (fun c5 => ?_) (fun c5 => ?_)
      · refine Sq.pickF .plain rfl rfl rfl ?_
        refine Sq.move .plain rfl rfl ?_
        refine Sq.off rfl rfl rfl rfl rfl rfl ?_
        refine Sq.off rfl rfl rfl rfl rfl rfl ?_
        refine Sq.off rfl rfl rfl rfl rfl rfl ?_
        refine Sq.off rfl rfl rfl rfl rfl rfl ?_
        refine Sq.offU rfl rfl rfl rfl rfl rfl ?_
        refine Sq.offU rfl rfl rfl rfl rfl rfl ?_
        refine Sq.offU rfl rfl rfl rfl rfl rfl ?_
        refine Sq.offU rfl rfl rfl rfl rfl rfl ?_
        refine Sq.offU rfl rfl rfl rfl rfl rfl ?_
        refine Sq.offU rfl rfl rfl rfl rfl rfl ?_
        refine Sq.off rfl rfl rfl rfl rfl rfl ?_
        refine Sq.pickT .plain rfl rfl rfl ?_
        refine Sq.nil ?_
        refine Eq.next ?_
        refine Cq.thn rfl ?_
        refine Cq.seq ?_
        refine Cq.region ?_
        refine Sq.assign .plain rfl rfl ?_
        refine Sq.assign .plain rfl rfl ?_
        refine Sq.nil ?_
        refine Eq.next ?_
        refine Cq.ret ?_
        refine Eq.pastRet ?_
        refine Eq.ret2 rfl rfl rfl ?_
        exact ⟨⟨_, _, rfl, by omega⟩, rfl⟩
      refine Sq.pickF .plain rfl rfl rfl ?_
      refine Sq.move .plain rfl rfl ?_
      refine Sq.move (.met rfl rfl rfl) rfl rfl ?_
      refine Sq.idxStr (.met rfl rfl rfl) rfl und9 rfl rfl (by omega) (str_at (by omega)) ?_
      refine Sq.eql (.met rfl rfl rfl) rfl rfl rfl ?_
      refine Sq.part (fun c7 => ?_) (fun c7 => ?_)
      · refine Sq.move (.met rfl rfl rfl) rfl rfl ?_
        refine Sq.move (.met rfl rfl rfl) rfl rfl ?_
        refine Sq.lenStr (.met rfl rfl rfl) rfl und9 rfl ?_
        refine Sq.gtr (.met rfl rfl rfl) rfl rfl rfl ?_
        refine Sq.part (fun c8 => ?_) (fun c8 => ?_)
        · refine Sq.move (.met rfl rfl rfl) rfl rfl ?_
          refine Sq.off rfl rfl rfl rfl rfl rfl ?_
          refine Sq.pickT (.met rfl rfl rfl) rfl rfl rfl ?_
          refine Sq.pickT (.met rfl rfl rfl) rfl rfl rfl ?_
          refine Sq.pickF .plain rfl rfl rfl ?_
          refine Sq.nil ?_
          refine Eq.next ?_
          refine Cq.thn rfl ?_
          refine Cq.seq ?_
          refine Cq.region ?_
          refine Sq.assign .plain rfl rfl ?_
          refine Sq.assign .plain rfl rfl ?_
          refine Sq.nil ?_
          refine Eq.next ?_
          refine Cq.ret ?_
          refine Eq.pastRet ?_
          refine Eq.ret2 rfl rfl rfl ?_
          exact ⟨⟨_, _, rfl, by omega⟩, rfl⟩
        refine Sq.move (.met rfl rfl rfl) rfl rfl ?_
        refine Sq.move (.met rfl rfl rfl) rfl rfl ?_
        refine Sq.pickF (.met rfl rfl rfl) rfl rfl rfl ?_
        refine Sq.pickT (.met rfl rfl rfl) rfl rfl rfl ?_
        refine Sq.pickF .plain rfl rfl rfl ?_
        refine Sq.nil ?_
        refine Eq.next ?_
        refine Cq.thn rfl ?_
        refine Cq.seq ?_
        refine Cq.region ?_
        refine Sq.assign .plain rfl rfl ?_
        refine Sq.assign .plain rfl rfl ?_
        refine Sq.nil ?_
        refine Eq.next ?_
        refine Cq.ret ?_
        refine Eq.pastRet ?_
        refine Eq.ret2 rfl rfl rfl ?_
        exact ⟨⟨_, _, rfl, by omega⟩, rfl⟩
      refine Sq.move (.met rfl rfl rfl) rfl rfl ?_
      refine Sq.off rfl rfl rfl rfl rfl rfl ?_
      refine Sq.off rfl rfl rfl rfl rfl rfl ?_
      refine Sq.off rfl rfl rfl rfl rfl rfl ?_
      refine Sq.off rfl rfl rfl rfl rfl rfl ?_
      refine Sq.offU rfl rfl rfl rfl rfl rfl ?_
      refine Sq.off rfl rfl rfl rfl rfl rfl ?_
      refine Sq.pickF (.met rfl rfl rfl) rfl rfl rfl ?_
      refine Sq.pickF .plain rfl rfl rfl ?_
      refine Sq.nil ?_
      refine Eq.next ?_
      refine Cq.els rfl ?_
      refine Cq.skip ?_
      refine Eq.next ?_
      refine Cq.seq ?_
      refine Cq.region ?_
      refine Sq.assign .plain rfl rfl ?_
      refine Sq.nil ?_
      refine Eq.next ?_
      refine Cq.seq ?_
      refine Cq.seq ?_
      refine Cq.region ?_
      refine Sq.assign .plain rfl rfl ?_
      refine Sq.nil ?_
      refine Eq.next ?_
      refine Cq.block ?_
      refine Cq.loop (fun nn w ls => ∃ (k : Int), ∃ (n : Int), ls = [(0, Value.string ((s.extract (1 : Int).toNat s.size))), (4, Value.bool true), (5, Value.int .i64 n), (6, Value.int .i64 k)] ∧ w0 = w ∧ (0 ≤ k ∧ k ≤ ((s.extract (1 : Int).toNat s.size)).size) ∧ (((s.extract (1 : Int).toNat s.size)).size ≤ 17) ∧ (0 ≤ n ∧ n < 10 ^ k.toNat) ∧ nn = ((((s.extract (1 : Int).toNat s.size)).size : Int) - k).toNat) _ _ ⟨0, 0, rfl, rfl, by omega, by omega, by decide, rfl⟩ (.cons rfl (.cons rfl (.cons rfl (.cons rfl (.nil))))) ?_
      rintro n1 w ls ⟨k, n, rfl, rfl, hk, hz, hn, rfl⟩
      have hp := pow_small (k := k.toNat) (by omega)
      refine Cq.seq ?_
      refine Cq.seq ?_
      refine Cq.region ?_
      refine Sq.move .plain rfl rfl ?_
      refine Sq.move .plain rfl rfl ?_
      refine Sq.lenStr .plain rfl und9 rfl ?_
      refine Sq.lss .plain rfl rfl rfl ?_
      refine Sq.part (fun c9 => ?_) (fun c9 => ?_)
      · refine Sq.nil ?_
        refine Eq.next ?_
        refine Cq.thn rfl ?_
        refine Cq.skip ?_
        refine Eq.next ?_
        refine Cq.seq ?_
        refine Cq.block ?_
        refine Cq.seq ?_
        refine Cq.seq ?_
        refine Cq.region ?_
        refine Sq.move .plain rfl rfl ?_
        refine Sq.move .plain rfl rfl ?_
        refine Sq.idxStr .plain rfl und9 rfl rfl (by omega) (str_at (by omega)) ?_
        refine Sq.lss .plain rfl rfl rfl ?_
        refine Sq.part (fun c11 => ?_) (fun c11 => ?_)
        · refine Sq.move .plain rfl rfl ?_
          refine Sq.off rfl rfl rfl rfl rfl rfl ?_
          refine Sq.off rfl rfl rfl rfl rfl rfl ?_
          refine Sq.off rfl rfl rfl rfl rfl rfl ?_
          refine Sq.off rfl rfl rfl rfl rfl rfl ?_
          refine Sq.pickT .plain rfl rfl rfl ?_
          refine Sq.nil ?_
          refine Eq.next ?_
          refine Cq.thn rfl ?_
          refine Cq.seq ?_
          refine Cq.region ?_
          refine Sq.assign .plain rfl rfl ?_
          refine Sq.assign .plain rfl rfl ?_
          refine Sq.nil ?_
          refine Eq.next ?_
          refine Cq.ret ?_
          refine Eq.pastRet ?_
          refine Eq.outRet ?_
          refine Eq.pastRet ?_
          refine Eq.pastRet ?_
          refine Eq.outRet ?_
          refine Eq.pastRet ?_
          refine Eq.ret2 rfl rfl rfl ?_
          exact ⟨⟨_, _, rfl, by omega⟩, rfl⟩
        refine Sq.move .plain rfl rfl ?_
        refine Sq.move (.met rfl rfl rfl) rfl rfl ?_
        refine Sq.move (.met rfl rfl rfl) rfl rfl ?_
        refine Sq.idxStr (.met rfl rfl rfl) rfl und9 rfl rfl (by omega) (str_at (by omega)) ?_
        refine Sq.gtr (.met rfl rfl rfl) rfl rfl rfl ?_
        refine Sq.part (fun c13 => ?_) (fun c13 => ?_)
        · refine Sq.pickF .plain rfl rfl rfl ?_
          refine Sq.nil ?_
          refine Eq.next ?_
          refine Cq.thn rfl ?_
          refine Cq.seq ?_
          refine Cq.region ?_
          refine Sq.assign .plain rfl rfl ?_
          refine Sq.assign .plain rfl rfl ?_
          refine Sq.nil ?_
          refine Eq.next ?_
          refine Cq.ret ?_
          refine Eq.pastRet ?_
          refine Eq.outRet ?_
          refine Eq.pastRet ?_
          refine Eq.pastRet ?_
          refine Eq.outRet ?_
          refine Eq.pastRet ?_
          refine Eq.ret2 rfl rfl rfl ?_
          exact ⟨⟨_, _, rfl, by omega⟩, rfl⟩
        refine Sq.pickF .plain rfl rfl rfl ?_
        refine Sq.nil ?_
        refine Eq.next ?_
        refine Cq.els rfl ?_
        refine Cq.skip ?_
        refine Eq.next ?_
        refine Cq.region ?_
        refine Sq.move .plain rfl rfl ?_
        refine Sq.mul .plain rfl rfl rfl (by omega) ?_
        refine Sq.move .plain rfl rfl ?_
        refine Sq.move .plain rfl rfl ?_
        refine Sq.idxStr .plain rfl und9 rfl rfl (by omega) (str_at (by omega)) ?_
        refine Sq.sub8 .plain rfl rfl rfl (by omega) ?_
        refine Sq.conv conv5_3 .plain rfl rfl (by omega) ?_
        refine Sq.add .plain rfl rfl rfl (by omega) ?_
        refine Sq.assign .plain rfl rfl ?_
        refine Sq.nil ?_
        refine Eq.end ?_
        refine Eq.next ?_
        refine Cq.region ?_
        refine Sq.move .plain rfl rfl ?_
        refine Sq.add .plain rfl rfl rfl (by omega) ?_
        refine Sq.assign .plain rfl rfl ?_
        refine Sq.nil ?_
        have e1 := toNat_succ hk.1
        refine Eq.round _ _ ⟨k + 1, _, rfl, rfl, by omega, hz, by rw [e1]; exact pow_step hn (by omega), rfl⟩ (by omega) (.cons rfl (.cons rfl (.cons rfl (.cons rfl (.nil)))))
      refine Sq.nil ?_
      refine Eq.next ?_
      refine Cq.els rfl ?_
      refine Cq.exit ?_
      refine Eq.past ?_
      refine Eq.past ?_
      refine Eq.hit ?_
      refine Eq.next ?_
      refine Cq.seq ?_
      refine Cq.seq ?_
      refine Cq.region ?_
      refine Sq.move .plain rfl rfl ?_
      refine Sq.nil ?_
      refine Eq.next ?_
      refine Cq.thn rfl ?_
      refine Cq.region ?_
      refine Sq.move .plain rfl rfl ?_
      refine Sq.neg .plain rfl rfl (by omega) ?_
      refine Sq.assign .plain rfl rfl ?_
      refine Sq.nil ?_
      refine Eq.next ?_
      refine Cq.seq ?_
      refine Cq.region ?_
      refine Sq.move .plain rfl rfl ?_
      refine Sq.assign .plain rfl rfl ?_
      refine Sq.assign .plain rfl rfl ?_
      refine Sq.nil ?_
      refine Eq.next ?_
      refine Cq.ret ?_
      refine Eq.ret2 rfl rfl rfl ?_
      exact ⟨⟨_, _, rfl, by omega⟩, rfl⟩
    refine Sq.pickT .plain rfl rfl rfl ?_
    refine Sq.assign .plain rfl rfl ?_
    refine Sq.nil ?_
    refine Eq.next ?_
    refine Cq.seq ?_
    refine Cq.seq ?_
    refine Cq.region ?_
    refine Sq.move .plain rfl rfl ?_
    refine Sq.nil ?_
    refine Eq.next ?_
    refine Cq.els rfl ?_
    refine Cq.skip ?_
    refine Eq.next ?_
    refine Cq.seq ?_
    refine Cq.seq ?_
    refine Cq.region ?_
    refine Sq.move .plain rfl rfl ?_
    refine Sq.lenStr .plain rfl und9 rfl ?_
    refine Sq.eql .plain rfl rfl rfl ?_
    refine Sq.part (fun c15 => ?_) (fun c15 => ?_)
    · refine Sq.move .plain rfl rfl ?_
      refine Sq.off rfl rfl rfl rfl rfl rfl ?_
      refine Sq.off rfl rfl rfl rfl rfl rfl ?_
      refine Sq.off rfl rfl rfl rfl rfl rfl ?_
      refine Sq.pickT .plain rfl rfl rfl ?_
      refine Sq.move .plain rfl rfl ?_
      refine Sq.off rfl rfl rfl rfl rfl rfl ?_
      refine Sq.off rfl rfl rfl rfl rfl rfl ?_
      refine Sq.off rfl rfl rfl rfl rfl rfl ?_
      refine Sq.off rfl rfl rfl rfl rfl rfl ?_
      refine Sq.offU rfl rfl rfl rfl rfl rfl ?_
      refine Sq.offU rfl rfl rfl rfl rfl rfl ?_
      refine Sq.offU rfl rfl rfl rfl rfl rfl ?_
      refine Sq.offU rfl rfl rfl rfl rfl rfl ?_
      refine Sq.offU rfl rfl rfl rfl rfl rfl ?_
      refine Sq.offU rfl rfl rfl rfl rfl rfl ?_
      refine Sq.off rfl rfl rfl rfl rfl rfl ?_
      refine Sq.pickT .plain rfl rfl rfl ?_
      refine Sq.nil ?_
      refine Eq.next ?_
      refine Cq.thn rfl ?_
      refine Cq.seq ?_
      refine Cq.region ?_
      refine Sq.assign .plain rfl rfl ?_
      refine Sq.assign .plain rfl rfl ?_
      refine Sq.nil ?_
      refine Eq.next ?_
      refine Cq.ret ?_
      refine Eq.pastRet ?_
      refine Eq.ret2 rfl rfl rfl ?_
      exact ⟨⟨_, _, rfl, by omega⟩, rfl⟩
    refine Sq.move .plain rfl rfl ?_
    refine Sq.move (.met rfl rfl rfl) rfl rfl ?_
    refine Sq.lenStr (.met rfl rfl rfl) rfl und9 rfl ?_
    refine Sq.gtr (.met rfl rfl rfl) rfl rfl rfl ?_
    refine Sq.part (fun c16 => ?_) (fun c16 => ?_)
    · refine Sq.pickF .plain rfl rfl rfl ?_
      refine Sq.move .plain rfl rfl ?_
      refine Sq.off rfl rfl rfl rfl rfl rfl ?_
      refine Sq.off rfl rfl rfl rfl rfl rfl ?_
      refine Sq.off rfl rfl rfl rfl rfl rfl ?_
      refine Sq.off rfl rfl rfl rfl rfl rfl ?_
      refine Sq.offU rfl rfl rfl rfl rfl rfl ?_
      refine Sq.offU rfl rfl rfl rfl rfl rfl ?_
      refine Sq.offU rfl rfl rfl rfl rfl rfl ?_
      refine Sq.offU rfl rfl rfl rfl rfl rfl ?_
      refine Sq.offU rfl rfl rfl rfl rfl rfl ?_
      refine Sq.offU rfl rfl rfl rfl rfl rfl ?_
      refine Sq.off rfl rfl rfl rfl rfl rfl ?_
      refine Sq.pickT .plain rfl rfl rfl ?_
      refine Sq.nil ?_
      refine Eq.next ?_
      refine Cq.thn rfl ?_
      refine Cq.seq ?_
      refine Cq.region ?_
      refine Sq.assign .plain rfl rfl ?_
      refine Sq.assign .plain rfl rfl ?_
      refine Sq.nil ?_
      refine Eq.next ?_
      refine Cq.ret ?_
      refine Eq.pastRet ?_
      refine Eq.ret2 rfl rfl rfl ?_
      exact ⟨⟨_, _, rfl, by omega⟩, rfl⟩
    refine Sq.pickF .plain rfl rfl rfl ?_
    refine Sq.move .plain rfl rfl ?_
    refine Sq.move (.met rfl rfl rfl) rfl rfl ?_
    refine Sq.idxStr (.met rfl rfl rfl) rfl und9 rfl rfl (by omega) (str_at (by omega)) ?_
    refine Sq.eql (.met rfl rfl rfl) rfl rfl rfl ?_
    refine Sq.part (fun c18 => ?_) (fun c18 => ?_)
    · refine Sq.move (.met rfl rfl rfl) rfl rfl ?_
      refine Sq.move (.met rfl rfl rfl) rfl rfl ?_
      refine Sq.lenStr (.met rfl rfl rfl) rfl und9 rfl ?_
      refine Sq.gtr (.met rfl rfl rfl) rfl rfl rfl ?_
      refine Sq.part (fun c19 => ?_) (fun c19 => ?_)
      · refine Sq.move (.met rfl rfl rfl) rfl rfl ?_
        refine Sq.off rfl rfl rfl rfl rfl rfl ?_
        refine Sq.pickT (.met rfl rfl rfl) rfl rfl rfl ?_
        refine Sq.pickT (.met rfl rfl rfl) rfl rfl rfl ?_
        refine Sq.pickF .plain rfl rfl rfl ?_
        refine Sq.nil ?_
        refine Eq.next ?_
        refine Cq.thn rfl ?_
        refine Cq.seq ?_
        refine Cq.region ?_
        refine Sq.assign .plain rfl rfl ?_
        refine Sq.assign .plain rfl rfl ?_
        refine Sq.nil ?_
        refine Eq.next ?_
        refine Cq.ret ?_
        refine Eq.pastRet ?_
        refine Eq.ret2 rfl rfl rfl ?_
        exact ⟨⟨_, _, rfl, by omega⟩, rfl⟩
      refine Sq.move (.met rfl rfl rfl) rfl rfl ?_
      refine Sq.move (.met rfl rfl rfl) rfl rfl ?_
      refine Sq.pickF (.met rfl rfl rfl) rfl rfl rfl ?_
      refine Sq.pickT (.met rfl rfl rfl) rfl rfl rfl ?_
      refine Sq.pickF .plain rfl rfl rfl ?_
      refine Sq.nil ?_
      refine Eq.next ?_
      refine Cq.els rfl ?_
      refine Cq.skip ?_
      refine Eq.next ?_
      refine Cq.seq ?_
      refine Cq.region ?_
      refine Sq.assign .plain rfl rfl ?_
      refine Sq.nil ?_
      refine Eq.next ?_
      refine Cq.seq ?_
      refine Cq.seq ?_
      refine Cq.region ?_
      refine Sq.assign .plain rfl rfl ?_
      refine Sq.nil ?_
      refine Eq.next ?_
      refine Cq.block ?_
      refine Cq.loop (fun nn w ls => ∃ (k : Int), ∃ (n : Int), ls = [(0, Value.string s), (4, Value.bool false), (5, Value.int .i64 n), (6, Value.int .i64 k)] ∧ w0 = w ∧ (0 ≤ k ∧ k ≤ (s).size) ∧ ((s).size ≤ 17) ∧ (0 ≤ n ∧ n < 10 ^ k.toNat) ∧ nn = (((s).size : Int) - k).toNat) _ _ ⟨0, 0, rfl, rfl, by omega, by omega, by decide, rfl⟩ (.cons rfl (.cons rfl (.cons rfl (.cons rfl (.nil))))) ?_
      rintro n1 w ls ⟨k, n, rfl, rfl, hk, hz, hn, rfl⟩
      have hp := pow_small (k := k.toNat) (by omega)
      refine Cq.seq ?_
      refine Cq.seq ?_
      refine Cq.region ?_
      refine Sq.move .plain rfl rfl ?_
      refine Sq.move .plain rfl rfl ?_
      refine Sq.lenStr .plain rfl und9 rfl ?_
      refine Sq.lss .plain rfl rfl rfl ?_
      refine Sq.part (fun c20 => ?_) (fun c20 => ?_)
      · refine Sq.nil ?_
        refine Eq.next ?_
        refine Cq.thn rfl ?_
        refine Cq.skip ?_
        refine Eq.next ?_
        refine Cq.seq ?_
        refine Cq.block ?_
        refine Cq.seq ?_
        refine Cq.seq ?_
        refine Cq.region ?_
        refine Sq.move .plain rfl rfl ?_
        refine Sq.move .plain rfl rfl ?_
        refine Sq.idxStr .plain rfl und9 rfl rfl (by omega) (str_at (by omega)) ?_
        refine Sq.lss .plain rfl rfl rfl ?_
        refine Sq.part (fun c22 => ?_) (fun c22 => ?_)
        · refine Sq.move .plain rfl rfl ?_
          refine Sq.off rfl rfl rfl rfl rfl rfl ?_
          refine Sq.off rfl rfl rfl rfl rfl rfl ?_
          refine Sq.off rfl rfl rfl rfl rfl rfl ?_
          refine Sq.off rfl rfl rfl rfl rfl rfl ?_
          refine Sq.pickT .plain rfl rfl rfl ?_
          refine Sq.nil ?_
          refine Eq.next ?_
          refine Cq.thn rfl ?_
          refine Cq.seq ?_
          refine Cq.region ?_
          refine Sq.assign .plain rfl rfl ?_
          refine Sq.assign .plain rfl rfl ?_
          refine Sq.nil ?_
          refine Eq.next ?_
          refine Cq.ret ?_
          refine Eq.pastRet ?_
          refine Eq.outRet ?_
          refine Eq.pastRet ?_
          refine Eq.pastRet ?_
          refine Eq.outRet ?_
          refine Eq.pastRet ?_
          refine Eq.ret2 rfl rfl rfl ?_
          exact ⟨⟨_, _, rfl, by omega⟩, rfl⟩
        refine Sq.move .plain rfl rfl ?_
        refine Sq.move (.met rfl rfl rfl) rfl rfl ?_
        refine Sq.move (.met rfl rfl rfl) rfl rfl ?_
        refine Sq.idxStr (.met rfl rfl rfl) rfl und9 rfl rfl (by omega) (str_at (by omega)) ?_
        refine Sq.gtr (.met rfl rfl rfl) rfl rfl rfl ?_
        refine Sq.part (fun c24 => ?_) (fun c24 => ?_)
        · refine Sq.pickF .plain rfl rfl rfl ?_
          refine Sq.nil ?_
          refine Eq.next ?_
          refine Cq.thn rfl ?_
          refine Cq.seq ?_
          refine Cq.region ?_
          refine Sq.assign .plain rfl rfl ?_
          refine Sq.assign .plain rfl rfl ?_
          refine Sq.nil ?_
          refine Eq.next ?_
          refine Cq.ret ?_
          refine Eq.pastRet ?_
          refine Eq.outRet ?_
          refine Eq.pastRet ?_
          refine Eq.pastRet ?_
          refine Eq.outRet ?_
          refine Eq.pastRet ?_
          refine Eq.ret2 rfl rfl rfl ?_
          exact ⟨⟨_, _, rfl, by omega⟩, rfl⟩
        refine Sq.pickF .plain rfl rfl rfl ?_
        refine Sq.nil ?_
        refine Eq.next ?_
        refine Cq.els rfl ?_
        refine Cq.skip ?_
        refine Eq.next ?_
        refine Cq.region ?_
        refine Sq.move .plain rfl rfl ?_
        refine Sq.mul .plain rfl rfl rfl (by omega) ?_
        refine Sq.move .plain rfl rfl ?_
        refine Sq.move .plain rfl rfl ?_
        refine Sq.idxStr .plain rfl und9 rfl rfl (by omega) (str_at (by omega)) ?_
        refine Sq.sub8 .plain rfl rfl rfl (by omega) ?_
        refine Sq.conv conv5_3 .plain rfl rfl (by omega) ?_
        refine Sq.add .plain rfl rfl rfl (by omega) ?_
        refine Sq.assign .plain rfl rfl ?_
        refine Sq.nil ?_
        refine Eq.end ?_
        refine Eq.next ?_
        refine Cq.region ?_
        refine Sq.move .plain rfl rfl ?_
        refine Sq.add .plain rfl rfl rfl (by omega) ?_
        refine Sq.assign .plain rfl rfl ?_
        refine Sq.nil ?_
        have e1 := toNat_succ hk.1
        refine Eq.round _ _ ⟨k + 1, _, rfl, rfl, by omega, hz, by rw [e1]; exact pow_step hn (by omega), rfl⟩ (by omega) (.cons rfl (.cons rfl (.cons rfl (.cons rfl (.nil)))))
      refine Sq.nil ?_
      refine Eq.next ?_
      refine Cq.els rfl ?_
      refine Cq.exit ?_
      refine Eq.past ?_
      refine Eq.past ?_
      refine Eq.hit ?_
      refine Eq.next ?_
      refine Cq.seq ?_
      refine Cq.seq ?_
      refine Cq.region ?_
      refine Sq.move .plain rfl rfl ?_
      refine Sq.nil ?_
      refine Eq.next ?_
      refine Cq.els rfl ?_
      refine Cq.skip ?_
      refine Eq.next ?_
      refine Cq.seq ?_
      refine Cq.region ?_
      refine Sq.move .plain rfl rfl ?_
      refine Sq.assign .plain rfl rfl ?_
      refine Sq.assign .plain rfl rfl ?_
      refine Sq.nil ?_
      refine Eq.next ?_
      refine Cq.ret ?_
      refine Eq.ret2 rfl rfl rfl ?_
      exact ⟨⟨_, _, rfl, by omega⟩, rfl⟩
    refine Sq.move (.met rfl rfl rfl) rfl rfl ?_
    refine Sq.off rfl rfl rfl rfl rfl rfl ?_
    refine Sq.off rfl rfl rfl rfl rfl rfl ?_
    refine Sq.off rfl rfl rfl rfl rfl rfl ?_
    refine Sq.off rfl rfl rfl rfl rfl rfl ?_
    refine Sq.offU rfl rfl rfl rfl rfl rfl ?_
    refine Sq.off rfl rfl rfl rfl rfl rfl ?_
    refine Sq.pickF (.met rfl rfl rfl) rfl rfl rfl ?_
    refine Sq.pickF .plain rfl rfl rfl ?_
    refine Sq.nil ?_
    refine Eq.next ?_
    refine Cq.els rfl ?_
    refine Cq.skip ?_
    refine Eq.next ?_
    refine Cq.seq ?_
    refine Cq.region ?_
    refine Sq.assign .plain rfl rfl ?_
    refine Sq.nil ?_
    refine Eq.next ?_
    refine Cq.seq ?_
    refine Cq.seq ?_
    refine Cq.region ?_
    refine Sq.assign .plain rfl rfl ?_
    refine Sq.nil ?_
    refine Eq.next ?_
    refine Cq.block ?_
    refine Cq.loop (fun nn w ls => ∃ (k : Int), ∃ (n : Int), ls = [(0, Value.string s), (4, Value.bool false), (5, Value.int .i64 n), (6, Value.int .i64 k)] ∧ w0 = w ∧ (0 ≤ k ∧ k ≤ (s).size) ∧ ((s).size ≤ 17) ∧ (0 ≤ n ∧ n < 10 ^ k.toNat) ∧ nn = (((s).size : Int) - k).toNat) _ _ ⟨0, 0, rfl, rfl, by omega, by omega, by decide, rfl⟩ (.cons rfl (.cons rfl (.cons rfl (.cons rfl (.nil))))) ?_
    rintro n1 w ls ⟨k, n, rfl, rfl, hk, hz, hn, rfl⟩
    have hp := pow_small (k := k.toNat) (by omega)
    refine Cq.seq ?_
    refine Cq.seq ?_
    refine Cq.region ?_
    refine Sq.move .plain rfl rfl ?_
    refine Sq.move .plain rfl rfl ?_
    refine Sq.lenStr .plain rfl und9 rfl ?_
    refine Sq.lss .plain rfl rfl rfl ?_
    refine Sq.part (fun c26 => ?_) (fun c26 => ?_)
    · refine Sq.nil ?_
      refine Eq.next ?_
      refine Cq.thn rfl ?_
      refine Cq.skip ?_
      refine Eq.next ?_
      refine Cq.seq ?_
      refine Cq.block ?_
      refine Cq.seq ?_
      refine Cq.seq ?_
      refine Cq.region ?_
      refine Sq.move .plain rfl rfl ?_
      refine Sq.move .plain rfl rfl ?_
      refine Sq.idxStr .plain rfl und9 rfl rfl (by omega) (str_at (by omega)) ?_
      refine Sq.lss .plain rfl rfl rfl ?_
      refine Sq.part (fun c28 => ?_) (fun c28 => ?_)
      · refine Sq.move .plain rfl rfl ?_
        refine Sq.off rfl rfl rfl rfl rfl rfl ?_
        refine Sq.off rfl rfl rfl rfl rfl rfl ?_
        refine Sq.off rfl rfl rfl rfl rfl rfl ?_
        refine Sq.off rfl rfl rfl rfl rfl rfl ?_
        refine Sq.pickT .plain rfl rfl rfl ?_
        refine Sq.nil ?_
        refine Eq.next ?_
        refine Cq.thn rfl ?_
        refine Cq.seq ?_
        refine Cq.region ?_
        refine Sq.assign .plain rfl rfl ?_
        refine Sq.assign .plain rfl rfl ?_
        refine Sq.nil ?_
        refine Eq.next ?_
        refine Cq.ret ?_
        refine Eq.pastRet ?_
        refine Eq.outRet ?_
        refine Eq.pastRet ?_
        refine Eq.pastRet ?_
        refine Eq.outRet ?_
        refine Eq.pastRet ?_
        refine Eq.ret2 rfl rfl rfl ?_
        exact ⟨⟨_, _, rfl, by omega⟩, rfl⟩
      refine Sq.move .plain rfl rfl ?_
      refine Sq.move (.met rfl rfl rfl) rfl rfl ?_
      refine Sq.move (.met rfl rfl rfl) rfl rfl ?_
      refine Sq.idxStr (.met rfl rfl rfl) rfl und9 rfl rfl (by omega) (str_at (by omega)) ?_
      refine Sq.gtr (.met rfl rfl rfl) rfl rfl rfl ?_
      refine Sq.part (fun c30 => ?_) (fun c30 => ?_)
      · refine Sq.pickF .plain rfl rfl rfl ?_
        refine Sq.nil ?_
        refine Eq.next ?_
        refine Cq.thn rfl ?_
        refine Cq.seq ?_
        refine Cq.region ?_
        refine Sq.assign .plain rfl rfl ?_
        refine Sq.assign .plain rfl rfl ?_
        refine Sq.nil ?_
        refine Eq.next ?_
        refine Cq.ret ?_
        refine Eq.pastRet ?_
        refine Eq.outRet ?_
        refine Eq.pastRet ?_
        refine Eq.pastRet ?_
        refine Eq.outRet ?_
        refine Eq.pastRet ?_
        refine Eq.ret2 rfl rfl rfl ?_
        exact ⟨⟨_, _, rfl, by omega⟩, rfl⟩
      refine Sq.pickF .plain rfl rfl rfl ?_
      refine Sq.nil ?_
      refine Eq.next ?_
      refine Cq.els rfl ?_
      refine Cq.skip ?_
      refine Eq.next ?_
      refine Cq.region ?_
      refine Sq.move .plain rfl rfl ?_
      refine Sq.mul .plain rfl rfl rfl (by omega) ?_
      refine Sq.move .plain rfl rfl ?_
      refine Sq.move .plain rfl rfl ?_
      refine Sq.idxStr .plain rfl und9 rfl rfl (by omega) (str_at (by omega)) ?_
      refine Sq.sub8 .plain rfl rfl rfl (by omega) ?_
      refine Sq.conv conv5_3 .plain rfl rfl (by omega) ?_
      refine Sq.add .plain rfl rfl rfl (by omega) ?_
      refine Sq.assign .plain rfl rfl ?_
      refine Sq.nil ?_
      refine Eq.end ?_
      refine Eq.next ?_
      refine Cq.region ?_
      refine Sq.move .plain rfl rfl ?_
      refine Sq.add .plain rfl rfl rfl (by omega) ?_
      refine Sq.assign .plain rfl rfl ?_
      refine Sq.nil ?_
      have e1 := toNat_succ hk.1
      refine Eq.round _ _ ⟨k + 1, _, rfl, rfl, by omega, hz, by rw [e1]; exact pow_step hn (by omega), rfl⟩ (by omega) (.cons rfl (.cons rfl (.cons rfl (.cons rfl (.nil)))))
    refine Sq.nil ?_
    refine Eq.next ?_
    refine Cq.els rfl ?_
    refine Cq.exit ?_
    refine Eq.past ?_
    refine Eq.past ?_
    refine Eq.hit ?_
    refine Eq.next ?_
    refine Cq.seq ?_
    refine Cq.seq ?_
    refine Cq.region ?_
    refine Sq.move .plain rfl rfl ?_
    refine Sq.nil ?_
    refine Eq.next ?_
    refine Cq.els rfl ?_
    refine Cq.skip ?_
    refine Eq.next ?_
    refine Cq.seq ?_
    refine Cq.region ?_
    refine Sq.move .plain rfl rfl ?_
    refine Sq.assign .plain rfl rfl ?_
    refine Sq.assign .plain rfl rfl ?_
    refine Sq.nil ?_
    refine Eq.next ?_
    refine Cq.ret ?_
    refine Eq.ret2 rfl rfl rfl ?_
    exact ⟨⟨_, _, rfl, by omega⟩, rfl⟩
  refine Sq.move .plain rfl rfl ?_
  refine Sq.off rfl rfl rfl rfl rfl rfl ?_
  refine Sq.off rfl rfl rfl rfl rfl rfl ?_
  refine Sq.off rfl rfl rfl rfl rfl rfl ?_
  refine Sq.pickF .plain rfl rfl rfl ?_
  refine Sq.assign .plain rfl rfl ?_
  refine Sq.nil ?_
  refine Eq.next ?_
  refine Cq.seq ?_
  refine Cq.seq ?_
  refine Cq.region ?_
  refine Sq.move .plain rfl rfl ?_
  refine Sq.nil ?_
  refine Eq.next ?_
  refine Cq.els rfl ?_
  refine Cq.skip ?_
  refine Eq.next ?_
  refine Cq.seq ?_
  refine Cq.seq ?_
  refine Cq.region ?_
  refine Sq.move .plain rfl rfl ?_
  refine Sq.lenStr .plain rfl und9 rfl ?_
  refine Sq.eql .plain rfl rfl rfl ?_
  refine Sq.part (fun c32 => ?_) (fun c32 => ?_)
  · refine Sq.move .plain rfl rfl ?_
    refine Sq.off rfl rfl rfl rfl rfl rfl ?_
    refine Sq.off rfl rfl rfl rfl rfl rfl ?_
    refine Sq.off rfl rfl rfl rfl rfl rfl ?_
    refine Sq.pickT .plain rfl rfl rfl ?_
    refine Sq.move .plain rfl rfl ?_
    refine Sq.off rfl rfl rfl rfl rfl rfl ?_
    refine Sq.off rfl rfl rfl rfl rfl rfl ?_
    refine Sq.off rfl rfl rfl rfl rfl rfl ?_
    refine Sq.off rfl rfl rfl rfl rfl rfl ?_
    refine Sq.offU rfl rfl rfl rfl rfl rfl ?_
    refine Sq.offU rfl rfl rfl rfl rfl rfl ?_
    refine Sq.offU rfl rfl rfl rfl rfl rfl ?_
    refine Sq.offU rfl rfl rfl rfl rfl rfl ?_
    refine Sq.offU rfl rfl rfl rfl rfl rfl ?_
    refine Sq.offU rfl rfl rfl rfl rfl rfl ?_
    refine Sq.off rfl rfl rfl rfl rfl rfl ?_
    refine Sq.pickT .plain rfl rfl rfl ?_
    refine Sq.nil ?_
    refine Eq.next ?_
    refine Cq.thn rfl ?_
    refine Cq.seq ?_
    refine Cq.region ?_
    refine Sq.assign .plain rfl rfl ?_
    refine Sq.assign .plain rfl rfl ?_
    refine Sq.nil ?_
    refine Eq.next ?_
    refine Cq.ret ?_
    refine Eq.pastRet ?_
    refine Eq.ret2 rfl rfl rfl ?_
    exact ⟨⟨_, _, rfl, by omega⟩, rfl⟩
  refine Sq.move .plain rfl rfl ?_
  refine Sq.move (.met rfl rfl rfl) rfl rfl ?_
  refine Sq.lenStr (.met rfl rfl rfl) rfl und9 rfl ?_
  refine Sq.gtr (.met rfl rfl rfl) rfl rfl rfl ?_
  refine Sq.part (fun c33 => ?_) (fun c33 => ?_)
  · refine Sq.pickF .plain rfl rfl rfl ?_
    refine Sq.move .plain rfl rfl ?_
    refine Sq.off rfl rfl rfl rfl rfl rfl ?_
    refine Sq.off rfl rfl rfl rfl rfl rfl ?_
    refine Sq.off rfl rfl rfl rfl rfl rfl ?_
    refine Sq.off rfl rfl rfl rfl rfl rfl ?_
    refine Sq.offU rfl rfl rfl rfl rfl rfl ?_
    refine Sq.offU rfl rfl rfl rfl rfl rfl ?_
    refine Sq.offU rfl rfl rfl rfl rfl rfl ?_
    refine Sq.offU rfl rfl rfl rfl rfl rfl ?_
    refine Sq.offU rfl rfl rfl rfl rfl rfl ?_
    refine Sq.offU rfl rfl rfl rfl rfl rfl ?_
    refine Sq.off rfl rfl rfl rfl rfl rfl ?_
    refine Sq.pickT .plain rfl rfl rfl ?_
    refine Sq.nil ?_
    refine Eq.next ?_
    refine Cq.thn rfl ?_
    refine Cq.seq ?_
    refine Cq.region ?_
    refine Sq.assign .plain rfl rfl ?_
    refine Sq.assign .plain rfl rfl ?_
    refine Sq.nil ?_
    refine Eq.next ?_
    refine Cq.ret ?_
    refine Eq.pastRet ?_
    refine Eq.ret2 rfl rfl rfl ?_
    exact ⟨⟨_, _, rfl, by omega⟩, rfl⟩
  refine Sq.pickF .plain rfl rfl rfl ?_
  refine Sq.move .plain rfl rfl ?_
  refine Sq.move (.met rfl rfl rfl) rfl rfl ?_
  refine Sq.idxStr (.met rfl rfl rfl) rfl und9 rfl rfl (by omega) (str_at (by omega)) ?_
  refine Sq.eql (.met rfl rfl rfl) rfl rfl rfl ?_
  refine Sq.part (fun c35 => ?_) (fun c35 => ?_)
  · refine Sq.move (.met rfl rfl rfl) rfl rfl ?_
    refine Sq.move (.met rfl rfl rfl) rfl rfl ?_
    refine Sq.lenStr (.met rfl rfl rfl) rfl und9 rfl ?_
    refine Sq.gtr (.met rfl rfl rfl) rfl rfl rfl ?_
    refine Sq.part (fun c36 => ?_) (fun c36 => ?_)
    · refine Sq.move (.met rfl rfl rfl) rfl rfl ?_
      refine Sq.off rfl rfl rfl rfl rfl rfl ?_
      refine Sq.pickT (.met rfl rfl rfl) rfl rfl rfl ?_
      refine Sq.pickT (.met rfl rfl rfl) rfl rfl rfl ?_
      refine Sq.pickF .plain rfl rfl rfl ?_
      refine Sq.nil ?_
      refine Eq.next ?_
      refine Cq.thn rfl ?_
      refine Cq.seq ?_
      refine Cq.region ?_
      refine Sq.assign .plain rfl rfl ?_
      refine Sq.assign .plain rfl rfl ?_
      refine Sq.nil ?_
      refine Eq.next ?_
      refine Cq.ret ?_
      refine Eq.pastRet ?_
      refine Eq.ret2 rfl rfl rfl ?_
      exact ⟨⟨_, _, rfl, by omega⟩, rfl⟩
    refine Sq.move (.met rfl rfl rfl) rfl rfl ?_
    refine Sq.move (.met rfl rfl rfl) rfl rfl ?_
    refine Sq.pickF (.met rfl rfl rfl) rfl rfl rfl ?_
    refine Sq.pickT (.met rfl rfl rfl) rfl rfl rfl ?_
    refine Sq.pickF .plain rfl rfl rfl ?_
    refine Sq.nil ?_
    refine Eq.next ?_
    refine Cq.els rfl ?_
    refine Cq.skip ?_
    refine Eq.next ?_
    refine Cq.seq ?_
    refine Cq.region ?_
    refine Sq.assign .plain rfl rfl ?_
    refine Sq.nil ?_
    refine Eq.next ?_
    refine Cq.seq ?_
    refine Cq.seq ?_
    refine Cq.region ?_
    refine Sq.assign .plain rfl rfl ?_
    refine Sq.nil ?_
    refine Eq.next ?_
    refine Cq.block ?_
    refine Cq.loop (fun nn w ls => ∃ (k : Int), ∃ (n : Int), ls = [(0, Value.string s), (4, Value.bool false), (5, Value.int .i64 n), (6, Value.int .i64 k)] ∧ w0 = w ∧ (0 ≤ k ∧ k ≤ (s).size) ∧ ((s).size ≤ 17) ∧ (0 ≤ n ∧ n < 10 ^ k.toNat) ∧ nn = (((s).size : Int) - k).toNat) _ _ ⟨0, 0, rfl, rfl, by omega, by omega, by decide, rfl⟩ (.cons rfl (.cons rfl (.cons rfl (.cons rfl (.nil))))) ?_
    rintro n1 w ls ⟨k, n, rfl, rfl, hk, hz, hn, rfl⟩
    have hp := pow_small (k := k.toNat) (by omega)
    refine Cq.seq ?_
    refine Cq.seq ?_
    refine Cq.region ?_
    refine Sq.move .plain rfl rfl ?_
    refine Sq.move .plain rfl rfl ?_
    refine Sq.lenStr .plain rfl und9 rfl ?_
    refine Sq.lss .plain rfl rfl rfl ?_
    refine Sq.part (fun c37 => ?_) (fun c37 => ?_)
    · refine Sq.nil ?_
      refine Eq.next ?_
      refine Cq.thn rfl ?_
      refine Cq.skip ?_
      refine Eq.next ?_
      refine Cq.seq ?_
      refine Cq.block ?_
      refine Cq.seq ?_
      refine Cq.seq ?_
      refine Cq.region ?_
      refine Sq.move .plain rfl rfl ?_
      refine Sq.move .plain rfl rfl ?_
      refine Sq.idxStr .plain rfl und9 rfl rfl (by omega) (str_at (by omega)) ?_
      refine Sq.lss .plain rfl rfl rfl ?_
      refine Sq.part (fun c39 => ?_) (fun c39 => ?_)
      · refine Sq.move .plain rfl rfl ?_
        refine Sq.off rfl rfl rfl rfl rfl rfl ?_
        refine Sq.off rfl rfl rfl rfl rfl rfl ?_
        refine Sq.off rfl rfl rfl rfl rfl rfl ?_
        refine Sq.off rfl rfl rfl rfl rfl rfl ?_
        refine Sq.pickT .plain rfl rfl rfl ?_
        refine Sq.nil ?_
        refine Eq.next ?_
        refine Cq.thn rfl ?_
        refine Cq.seq ?_
        refine Cq.region ?_
        refine Sq.assign .plain rfl rfl ?_
        refine Sq.assign .plain rfl rfl ?_
        refine Sq.nil ?_
        refine Eq.next ?_
        refine Cq.ret ?_
        refine Eq.pastRet ?_
        refine Eq.outRet ?_
        refine Eq.pastRet ?_
        refine Eq.pastRet ?_
        refine Eq.outRet ?_
        refine Eq.pastRet ?_
        refine Eq.ret2 rfl rfl rfl ?_
        exact ⟨⟨_, _, rfl, by omega⟩, rfl⟩
      refine Sq.move .plain rfl rfl ?_
      refine Sq.move (.met rfl rfl rfl) rfl rfl ?_
      refine Sq.move (.met rfl rfl rfl) rfl rfl ?_
      refine Sq.idxStr (.met rfl rfl rfl) rfl und9 rfl rfl (by omega) (str_at (by omega)) ?_
      refine Sq.gtr (.met rfl rfl rfl) rfl rfl rfl ?_
      refine Sq.part (fun c41 => ?_) (fun c41 => ?_)
      · refine Sq.pickF .plain rfl rfl rfl ?_
        refine Sq.nil ?_
        refine Eq.next ?_
        refine Cq.thn rfl ?_
        refine Cq.seq ?_
        refine Cq.region ?_
        refine Sq.assign .plain rfl rfl ?_
        refine Sq.assign .plain rfl rfl ?_
        refine Sq.nil ?_
        refine Eq.next ?_
        refine Cq.ret ?_
        refine Eq.pastRet ?_
        refine Eq.outRet ?_
        refine Eq.pastRet ?_
        refine Eq.pastRet ?_
        refine Eq.outRet ?_
        refine Eq.pastRet ?_
        refine Eq.ret2 rfl rfl rfl ?_
        exact ⟨⟨_, _, rfl, by omega⟩, rfl⟩
      refine Sq.pickF .plain rfl rfl rfl ?_
      refine Sq.nil ?_
      refine Eq.next ?_
      refine Cq.els rfl ?_
      refine Cq.skip ?_
      refine Eq.next ?_
      refine Cq.region ?_
      refine Sq.move .plain rfl rfl ?_
      refine Sq.mul .plain rfl rfl rfl (by omega) ?_
      refine Sq.move .plain rfl rfl ?_
      refine Sq.move .plain rfl rfl ?_
      refine Sq.idxStr .plain rfl und9 rfl rfl (by omega) (str_at (by omega)) ?_
      refine Sq.sub8 .plain rfl rfl rfl (by omega) ?_
      refine Sq.conv conv5_3 .plain rfl rfl (by omega) ?_
      refine Sq.add .plain rfl rfl rfl (by omega) ?_
      refine Sq.assign .plain rfl rfl ?_
      refine Sq.nil ?_
      refine Eq.end ?_
      refine Eq.next ?_
      refine Cq.region ?_
      refine Sq.move .plain rfl rfl ?_
      refine Sq.add .plain rfl rfl rfl (by omega) ?_
      refine Sq.assign .plain rfl rfl ?_
      refine Sq.nil ?_
      have e1 := toNat_succ hk.1
      refine Eq.round _ _ ⟨k + 1, _, rfl, rfl, by omega, hz, by rw [e1]; exact pow_step hn (by omega), rfl⟩ (by omega) (.cons rfl (.cons rfl (.cons rfl (.cons rfl (.nil)))))
    refine Sq.nil ?_
    refine Eq.next ?_
    refine Cq.els rfl ?_
    refine Cq.exit ?_
    refine Eq.past ?_
    refine Eq.past ?_
    refine Eq.hit ?_
    refine Eq.next ?_
    refine Cq.seq ?_
    refine Cq.seq ?_
    refine Cq.region ?_
    refine Sq.move .plain rfl rfl ?_
    refine Sq.nil ?_
    refine Eq.next ?_
    refine Cq.els rfl ?_
    refine Cq.skip ?_
    refine Eq.next ?_
    refine Cq.seq ?_
    refine Cq.region ?_
    refine Sq.move .plain rfl rfl ?_
    refine Sq.assign .plain rfl rfl ?_
    refine Sq.assign .plain rfl rfl ?_
    refine Sq.nil ?_
    refine Eq.next ?_
    refine Cq.ret ?_
    refine Eq.ret2 rfl rfl rfl ?_
    exact ⟨⟨_, _, rfl, by omega⟩, rfl⟩
  refine Sq.move (.met rfl rfl rfl) rfl rfl ?_
  refine Sq.off rfl rfl rfl rfl rfl rfl ?_
  refine Sq.off rfl rfl rfl rfl rfl rfl ?_
  refine Sq.off rfl rfl rfl rfl rfl rfl ?_
  refine Sq.off rfl rfl rfl rfl rfl rfl ?_
  refine Sq.offU rfl rfl rfl rfl rfl rfl ?_
  refine Sq.off rfl rfl rfl rfl rfl rfl ?_
  refine Sq.pickF (.met rfl rfl rfl) rfl rfl rfl ?_
  refine Sq.pickF .plain rfl rfl rfl ?_
  refine Sq.nil ?_
  refine Eq.next ?_
  refine Cq.els rfl ?_
  refine Cq.skip ?_
  refine Eq.next ?_
  refine Cq.seq ?_
  refine Cq.region ?_
  refine Sq.assign .plain rfl rfl ?_
  refine Sq.nil ?_
  refine Eq.next ?_
  refine Cq.seq ?_
  refine Cq.seq ?_
  refine Cq.region ?_
  refine Sq.assign .plain rfl rfl ?_
  refine Sq.nil ?_
  refine Eq.next ?_
  refine Cq.block ?_
  refine Cq.loop (fun nn w ls => ∃ (k : Int), ∃ (n : Int), ls = [(0, Value.string s), (4, Value.bool false), (5, Value.int .i64 n), (6, Value.int .i64 k)] ∧ w0 = w ∧ (0 ≤ k ∧ k ≤ (s).size) ∧ ((s).size ≤ 17) ∧ (0 ≤ n ∧ n < 10 ^ k.toNat) ∧ nn = (((s).size : Int) - k).toNat) _ _ ⟨0, 0, rfl, rfl, by omega, by omega, by decide, rfl⟩ (.cons rfl (.cons rfl (.cons rfl (.cons rfl (.nil))))) ?_
  rintro n1 w ls ⟨k, n, rfl, rfl, hk, hz, hn, rfl⟩
  have hp := pow_small (k := k.toNat) (by omega)
  refine Cq.seq ?_
  refine Cq.seq ?_
  refine Cq.region ?_
  refine Sq.move .plain rfl rfl ?_
  refine Sq.move .plain rfl rfl ?_
  refine Sq.lenStr .plain rfl und9 rfl ?_
  refine Sq.lss .plain rfl rfl rfl ?_
  refine Sq.part (fun c43 => ?_) (fun c43 => ?_)
  · refine Sq.nil ?_
    refine Eq.next ?_
    refine Cq.thn rfl ?_
    refine Cq.skip ?_
    refine Eq.next ?_
    refine Cq.seq ?_
    refine Cq.block ?_
    refine Cq.seq ?_
    refine Cq.seq ?_
    refine Cq.region ?_
    refine Sq.move .plain rfl rfl ?_
    refine Sq.move .plain rfl rfl ?_
    refine Sq.idxStr .plain rfl und9 rfl rfl (by omega) (str_at (by omega)) ?_
    refine Sq.lss .plain rfl rfl rfl ?_
    refine Sq.part (fun c45 => ?_) (fun c45 => ?_)
    · refine Sq.move .plain rfl rfl ?_
      refine Sq.off rfl rfl rfl rfl rfl rfl ?_
      refine Sq.off rfl rfl rfl rfl rfl rfl ?_
      refine Sq.off rfl rfl rfl rfl rfl rfl ?_
      refine Sq.off rfl rfl rfl rfl rfl rfl ?_
      refine Sq.pickT .plain rfl rfl rfl ?_
      refine Sq.nil ?_
      refine Eq.next ?_
      refine Cq.thn rfl ?_
      refine Cq.seq ?_
      refine Cq.region ?_
      refine Sq.assign .plain rfl rfl ?_
      refine Sq.assign .plain rfl rfl ?_
      refine Sq.nil ?_
      refine Eq.next ?_
      refine Cq.ret ?_
      refine Eq.pastRet ?_
      refine Eq.outRet ?_
      refine Eq.pastRet ?_
      refine Eq.pastRet ?_
      refine Eq.outRet ?_
      refine Eq.pastRet ?_
      refine Eq.ret2 rfl rfl rfl ?_
      exact ⟨⟨_, _, rfl, by omega⟩, rfl⟩
    refine Sq.move .plain rfl rfl ?_
    refine Sq.move (.met rfl rfl rfl) rfl rfl ?_
    refine Sq.move (.met rfl rfl rfl) rfl rfl ?_
    refine Sq.idxStr (.met rfl rfl rfl) rfl und9 rfl rfl (by omega) (str_at (by omega)) ?_
    refine Sq.gtr (.met rfl rfl rfl) rfl rfl rfl ?_
    refine Sq.part (fun c47 => ?_) (fun c47 => ?_)
    · refine Sq.pickF .plain rfl rfl rfl ?_
      refine Sq.nil ?_
      refine Eq.next ?_
      refine Cq.thn rfl ?_
      refine Cq.seq ?_
      refine Cq.region ?_
      refine Sq.assign .plain rfl rfl ?_
      refine Sq.assign .plain rfl rfl ?_
      refine Sq.nil ?_
      refine Eq.next ?_
      refine Cq.ret ?_
      refine Eq.pastRet ?_
      refine Eq.outRet ?_
      refine Eq.pastRet ?_
      refine Eq.pastRet ?_
      refine Eq.outRet ?_
      refine Eq.pastRet ?_
      refine Eq.ret2 rfl rfl rfl ?_
      exact ⟨⟨_, _, rfl, by omega⟩, rfl⟩
    refine Sq.pickF .plain rfl rfl rfl ?_
    refine Sq.nil ?_
    refine Eq.next ?_
    refine Cq.els rfl ?_
    refine Cq.skip ?_
    refine Eq.next ?_
    refine Cq.region ?_
    refine Sq.move .plain rfl rfl ?_
    refine Sq.mul .plain rfl rfl rfl (by omega) ?_
    refine Sq.move .plain rfl rfl ?_
    refine Sq.move .plain rfl rfl ?_
    refine Sq.idxStr .plain rfl und9 rfl rfl (by omega) (str_at (by omega)) ?_
    refine Sq.sub8 .plain rfl rfl rfl (by omega) ?_
    refine Sq.conv conv5_3 .plain rfl rfl (by omega) ?_
    refine Sq.add .plain rfl rfl rfl (by omega) ?_
    refine Sq.assign .plain rfl rfl ?_
    refine Sq.nil ?_
    refine Eq.end ?_
    refine Eq.next ?_
    refine Cq.region ?_
    refine Sq.move .plain rfl rfl ?_
    refine Sq.add .plain rfl rfl rfl (by omega) ?_
    refine Sq.assign .plain rfl rfl ?_
    refine Sq.nil ?_
    have e1 := toNat_succ hk.1
    refine Eq.round _ _ ⟨k + 1, _, rfl, rfl, by omega, hz, by rw [e1]; exact pow_step hn (by omega), rfl⟩ (by omega) (.cons rfl (.cons rfl (.cons rfl (.cons rfl (.nil)))))
  refine Sq.nil ?_
  refine Eq.next ?_
  refine Cq.els rfl ?_
  refine Cq.exit ?_
  refine Eq.past ?_
  refine Eq.past ?_
  refine Eq.hit ?_
  refine Eq.next ?_
  refine Cq.seq ?_
  refine Cq.seq ?_
  refine Cq.region ?_
  refine Sq.move .plain rfl rfl ?_
  refine Sq.nil ?_
  refine Eq.next ?_
  refine Cq.els rfl ?_
  refine Cq.skip ?_
  refine Eq.next ?_
  refine Cq.seq ?_
  refine Cq.region ?_
  refine Sq.move .plain rfl rfl ?_
  refine Sq.assign .plain rfl rfl ?_
  refine Sq.assign .plain rfl rfl ?_
  refine Sq.nil ?_
  refine Eq.next ?_
  refine Cq.ret ?_
  refine Eq.ret2 rfl rfl rfl ?_
  exact ⟨⟨_, _, rfl, by omega⟩, rfl⟩
set_option maxRecDepth 100000 in
theorem l3Parse_c (s : ByteArray) (hs : s.size ≤ 100000) (w0 : World) : Ret Try.prog 112 #[Value.string s] w0 (fun v w => (∃ (r : Value) (ok : Bool) (xs : List Int), v = .tuple #[r, .bool ok] ∧ Own w w0.heap.size 3 r (xs.map (Value.int .i64)) ∧ xs.length ≤ s.size + 1) ∧ Ext w0 w) := by
  have E := Ext.refl w0
  refine Ret.of (args := [Value.string s]) Try.func112 rfl rfl rfl ?_
  rintro _ rfl
  show Cq _ _ _ _ [(0, Value.string s)] _
  refine Cq.seq ?_
  refine Cq.region ?_
  refine Sq.assign .plain rfl rfl ?_
  refine Sq.assign .plain rfl rfl ?_
  refine Sq.nil ?_
  refine Eq.next ?_
  refine Cq.seq ?_
  refine Cq.region ?_
  refine Sq.lit sl56 rfl rfl .plain rfl rfl one_nil (fun b1 w2 e3 hlo4 ho5 _ => ?_)
  replace ho5 := ho5 w0.heap.size (Nat.le_refl _)
  have hs7 := Below.size e3
  replace E := E.trans e3
  refine Sq.assign .plain rfl rfl ?_
  refine Sq.nil ?_
  refine Eq.next ?_
  refine Cq.seq ?_
  refine Cq.seq ?_
  refine Cq.region ?_
  refine Sq.move .plain rfl rfl ?_
  refine Sq.eqlS .plain rfl rfl rfl ?_
  refine Sq.part (fun c8 => ?_) (fun c8 => ?_)
  · refine Sq.nil ?_
    refine Eq.next ?_
    refine Cq.thn rfl ?_
    refine Cq.seq ?_
    refine Cq.region ?_
    refine Sq.move .plain rfl rfl ?_
    refine Sq.assign .plain rfl rfl ?_
    refine Sq.assign .plain rfl rfl ?_
    refine Sq.nil ?_
    refine Eq.next ?_
    refine Cq.ret ?_
    refine Eq.pastRet ?_
    refine Eq.ret2 rfl rfl rfl ?_
    exact ⟨⟨_, _, [], rfl, Own.mono ho5 (by omega), by simp⟩, E⟩
  refine Sq.nil ?_
  refine Eq.next ?_
  refine Cq.els rfl ?_
  refine Cq.skip ?_
  refine Eq.next ?_
  refine Cq.seq ?_
  refine Cq.region ?_
  refine Sq.move .plain rfl rfl ?_
  refine Sq.call fn110 .plain rfl rfl (cut_c s 44 (by omega) _) ?_
  rintro v9 w10 ⟨⟨xs12, ho13, hxl14, hxs15⟩, e11⟩
  have hs16 := Below.size E
  have hs17 := Below.size e11
  replace E := E.trans e11
  replace ho5 := ho5.ext e11
  refine Sq.assign .plain rfl rfl ?_
  refine Sq.nil ?_
  refine Eq.next ?_
  refine Cq.seq ?_
  refine Cq.seq ?_
  refine Cq.region ?_
  refine Sq.assign .plain rfl rfl ?_
  refine Sq.nil ?_
  refine Eq.next ?_
  refine Cq.block ?_
  refine Cq.loop (fun nn w ls => ∃ (k : Int), ∃ (v : Value), ∃ (ys : List Int), ls = [(0, Value.string s), (4, v), (5, v9), (6, Value.int .i64 k)] ∧ (0 ≤ k ∧ k ≤ xs12.length) ∧ Own w w0.heap.size 3 v (ys.map (Value.int .i64)) ∧ ((ys.length : Int) = k) ∧ Ext w0 w ∧ Own w w2.heap.size 9 v9 (xs12.map Value.string) ∧ nn = ((xs12.length : Int) - k).toNat) _ _ ⟨0, _, [], rfl, by omega, Own.mono ho5 (by omega), rfl, E, ho13, rfl⟩ (.cons rfl (.cons rfl (.cons rfl (.cons rfl (.nil))))) ?_
  rintro nn wl1 ls ⟨k, v, ys, rfl, hk, ho, hl, E, ho13, rfl⟩
  have hs18 := Below.size E
  refine Cq.seq ?_
  refine Cq.seq ?_
  refine Cq.region ?_
  refine Sq.move .plain rfl rfl ?_
  refine Sq.move .plain rfl rfl ?_
  refine Sq.lenStrs (Own.row ho13) .plain rfl und91 rfl ?_
  refine Sq.lss .plain rfl rfl rfl ?_
  refine Sq.part (fun c19 => ?_) (fun c19 => ?_)
  · refine Sq.nil ?_
    refine Eq.next ?_
    refine Cq.thn rfl ?_
    refine Cq.skip ?_
    refine Eq.next ?_
    refine Cq.seq ?_
    refine Cq.block ?_
    refine Cq.seq ?_
    refine Cq.region ?_
    refine Sq.move .plain rfl rfl ?_
    refine Sq.move .plain rfl rfl ?_
    refine Sq.idxStrs sl91 one9 (Own.row ho13) .plain rfl rfl rfl .plain rfl rfl (by omega) (by omega) ?_
    refine Sq.call fn129 .plain rfl rfl (num10_c (xs12.getD k.toNat ByteArray.empty) (by exact Nat.le_trans (hxs15 _ (getD_mem (by omega))) (by omega)) _) ?_
    rintro _ _ ⟨⟨n20, ok21, rfl, hn22⟩, rfl⟩
    refine Sq.move .plain rfl rfl ?_
    refine Sq.extract .plain rfl rfl rfl ?_
    refine Sq.extract .plain rfl rfl rfl ?_
    refine Sq.assign .plain rfl rfl ?_
    refine Sq.assign .plain rfl rfl ?_
    refine Sq.nil ?_
    refine Eq.next ?_
    refine Cq.seq ?_
    refine Cq.seq ?_
    refine Cq.region ?_
    refine Sq.move .plain rfl rfl ?_
    refine Sq.partB (fun c23 => ?_) (fun c23 => ?_)
    · refine Sq.notT .plain rfl rfl ?_
      refine Sq.nil ?_
      refine Eq.next ?_
      refine Cq.els rfl ?_
      refine Cq.skip ?_
      refine Eq.next ?_
      refine Cq.region ?_
      refine Sq.move .plain rfl rfl ?_
      refine Sq.move .plain rfl rfl ?_
      refine Sq.app1 sl56 ho (by omega) (by simp; omega) .plain rfl rfl rfl rfl rfl rfl rfl (fun v24 w25 ho27 g26 _ => ?_)
      have hs28 := g26.size
      replace E := E.owned ho g26 (by omega)
      replace ho13 := ho13.owned ho g26 (by decide)
      refine Sq.assign .plain rfl rfl ?_
      refine Sq.nil ?_
      refine Eq.end ?_
      refine Eq.next ?_
      refine Cq.region ?_
      refine Sq.move .plain rfl rfl ?_
      refine Sq.add .plain rfl rfl rfl (by omega) ?_
      refine Sq.assign .plain rfl rfl ?_
      refine Sq.nil ?_
      refine Eq.round _ _ ⟨k + 1, _, _, rfl, by omega, Own.snocI ho27, by simp; omega, E, ho13, rfl⟩ (by omega) (.cons rfl (.cons rfl (.cons rfl (.cons rfl (.nil)))))
    refine Sq.notF .plain rfl rfl ?_
    refine Sq.nil ?_
    refine Eq.next ?_
    refine Cq.thn rfl ?_
    refine Cq.seq ?_
    refine Cq.region ?_
    refine Sq.assign .plain rfl rfl ?_
    refine Sq.assign .plain rfl rfl ?_
    refine Sq.nil ?_
    refine Eq.next ?_
    refine Cq.ret ?_
    refine Eq.pastRet ?_
    refine Eq.outRet ?_
    refine Eq.pastRet ?_
    refine Eq.pastRet ?_
    refine Eq.outRet ?_
    refine Eq.pastRet ?_
    refine Eq.ret2 rfl rfl rfl ?_
    exact ⟨⟨_, _, [], rfl, Own.nil _ _ _, by simp⟩, E⟩
  refine Sq.nil ?_
  refine Eq.next ?_
  refine Cq.els rfl ?_
  refine Cq.exit ?_
  refine Eq.past ?_
  refine Eq.past ?_
  refine Eq.hit ?_
  refine Eq.next ?_
  refine Cq.seq ?_
  refine Cq.region ?_
  refine Sq.move .plain rfl rfl ?_
  refine Sq.assign .plain rfl rfl ?_
  refine Sq.assign .plain rfl rfl ?_
  refine Sq.nil ?_
  refine Eq.next ?_
  refine Cq.ret ?_
  refine Eq.ret2 rfl rfl rfl ?_
  exact ⟨⟨_, _, ys, rfl, ho, by omega⟩, E⟩
set_option maxRecDepth 100000 in
theorem fmtA_c (w0 : World) (a : A) (nx ac : Value) (hnx : Rows w0 56 3 nx a.next) (hac : Bools w0 4 ac a.acc) : Ret Try.prog 113 #[Value.agg #[Value.int .i64 a.al, nx, ac]] w0 (fun v w => (∃ s, v = .string s ∧ s.size ≤ 2000) ∧ Ext w0 w) := by
  have E := Ext.refl w0
  refine Ret.of (args := [Value.agg #[Value.int .i64 a.al, nx, ac]]) Try.func113 rfl rfl rfl ?_
  rintro _ rfl
  show Cq _ _ _ _ [(0, Value.agg #[Value.int .i64 a.al, nx, ac])] _
  refine Cq.seq ?_
  refine Cq.region ?_
  refine Sq.box .plain rfl rfl (fun b1 w2 e3 hB4 hlo5 => ?_)
  have hd6 := Nat.le_trans (Below.size E) hlo5
  have hs7 := Below.size e3
  replace E := E.trans e3
  refine Sq.assign .plain rfl rfl ?_
  refine Sq.nil ?_
  refine Eq.next ?_
  refine Cq.seq ?_
  refine Cq.seq ?_
  refine Cq.region ?_
  refine Sq.loadAgg agg26 .plain rfl rfl hB4 rfl ?_
  have hd11 := hB4.lt
  refine Sq.call fn52 .plain rfl rfl (sValid_c _ a _ _ (hnx.ext E) (hac.ext E)) ?_
  rintro _ w9 ⟨rfl, e10⟩
  have hs12 := Below.size E
  have hs13 := Below.size e10
  replace E := E.trans e10
  replace hB4 := hB4.ext e10
  refine Sq.partB (fun hv => ?_) (fun hv => ?_)
  · refine Sq.notT .plain rfl rfl ?_
    refine Sq.nil ?_
    refine Eq.next ?_
    refine Cq.els rfl ?_
    refine Cq.skip ?_
    refine Eq.next ?_
    refine Cq.seq ?_
    refine Cq.region ?_
    refine Sq.fieldAddr fld26_0 .plain rfl rfl ?_
    refine Sq.loadB one3 .plain rfl rfl hB4 rfl ?_
    have hd17 := hB4.lt
    refine Sq.call fn128 .plain rfl rfl (fmtAl_c a.al _) ?_
    rintro _ w15 ⟨rfl, e16⟩
    have hs18 := Below.size E
    have hs19 := Below.size e16
    replace E := E.trans e16
    replace hB4 := hB4.ext e16
    refine Sq.assign .plain rfl rfl ?_
    refine Sq.nil ?_
    refine Eq.next ?_
    refine Cq.seq ?_
    refine Cq.seq ?_
    refine Cq.region ?_
    refine Sq.assign .plain rfl rfl ?_
    refine Sq.nil ?_
    refine Eq.next ?_
    refine Cq.block ?_
    have hfs := fmtAl_size a.al
    have hvs := validA_spec.1 hv
    have hv1 := hvs.2.1
    have hv2 := hvs.2.2.1
    refine Cq.loop (fun nn w ls => ∃ (i : Int), ∃ (t : ByteArray), ls = [(1, Value.pointer (some ⟨b1, 0, none⟩)), (3, Value.string t), (4, Value.int .i64 i)] ∧ (0 ≤ i ∧ i ≤ a.next.length) ∧ ((t.size : Int) ≤ 6 + 100 * i) ∧ Ext w0 w ∧ Blk w b1 26 [Value.int .i64 a.al, nx, ac] ∧ nn = ((a.next.length : Int) - i).toNat) _ _ ⟨0, _, rfl, by omega, by omega, E, hB4, rfl⟩ (.cons rfl (.cons rfl (.cons rfl (.nil)))) ?_
    rintro nn wl1 ls ⟨i, t, rfl, hi, ht, E, hB4, rfl⟩
    have hs20 := Below.size E
    have hr6 := valid_row6 hv (k := i.toNat)
    refine Cq.seq ?_
    refine Cq.seq ?_
    refine Cq.region ?_
    refine Sq.move .plain rfl rfl ?_
    refine Sq.fieldAddr fld26_1 .plain rfl rfl ?_
    refine Sq.loadB one23 .plain rfl rfl hB4 rfl ?_
    refine Sq.lenRows (hnx.ext E) .plain rfl und23 rfl ?_
    refine Sq.lss .plain rfl rfl rfl ?_
    refine Sq.part (fun c21 => ?_) (fun c21 => ?_)
    · refine Sq.nil ?_
      refine Eq.next ?_
      refine Cq.thn rfl ?_
      refine Cq.skip ?_
      refine Eq.next ?_
      refine Cq.seq ?_
      refine Cq.block ?_
      refine Cq.seq ?_
      refine Cq.region ?_
      refine Sq.assign .plain rfl rfl ?_
      refine Sq.nil ?_
      refine Eq.next ?_
      refine Cq.seq ?_
      refine Cq.seq ?_
      refine Cq.region ?_
      refine Sq.fieldAddr fld26_2 .plain rfl rfl ?_
      refine Sq.loadB one24 .plain rfl rfl hB4 rfl ?_
      refine Sq.move .plain rfl rfl ?_
      refine Sq.idxBools sl24 one4 (hac.ext E) .plain rfl rfl rfl .plain rfl rfl (by omega) (by omega) ?_
      refine Sq.partB (fun c22 => ?_) (fun c22 => ?_)
      · refine Sq.nil ?_
        refine Eq.next ?_
        refine Cq.thn rfl ?_
        refine Cq.region ?_
        refine Sq.assign .plain rfl rfl ?_
        refine Sq.nil ?_
        refine Eq.next ?_
        refine Cq.seq ?_
        refine Cq.region ?_
        refine Sq.move .plain rfl rfl ?_
        refine Sq.move .plain rfl rfl ?_
        refine Sq.cat .plain rfl rfl rfl (by show t.size + 2 ≤ _; omega) ?_
        refine Sq.assign .plain rfl rfl ?_
        refine Sq.nil ?_
        refine Eq.next ?_
        refine Cq.seq ?_
        refine Cq.region ?_
        refine Sq.assign .plain rfl rfl ?_
        refine Sq.nil ?_
        refine Eq.next ?_
        refine Cq.block ?_
        refine Cq.loop (fun nn w ls => ∃ (k : Int), ∃ (u : ByteArray), ls = [(1, Value.pointer (some ⟨b1, 0, none⟩)), (3, Value.string u), (4, Value.int .i64 i), (6, Value.int .i64 k)] ∧ (0 ≤ k ∧ k ≤ (a.next.getD i.toNat []).length) ∧ ((u.size : Int) ≤ 8 + 100 * i + 15 * k) ∧ Ext w0 w ∧ Blk w b1 26 [Value.int .i64 a.al, nx, ac] ∧ nn = (((a.next.getD i.toNat []).length : Int) - k).toNat) _ _ ⟨0, _, rfl, by omega, by rw [size_cat]; show ((t.size + 2 : Nat) : Int) ≤ _; omega, E, hB4, rfl⟩ (.cons rfl (.cons rfl (.cons rfl (.cons rfl (.nil))))) ?_
        rintro nn wl2 ls ⟨k, u, rfl, hk, hu, E, hB4, rfl⟩
        have hs23 := Below.size E
        have hen := valid_at hv (k := i.toNat) (j := k.toNat)
        refine Cq.seq ?_
        refine Cq.seq ?_
        refine Cq.region ?_
        refine Sq.move .plain rfl rfl ?_
        refine Sq.fieldAddr fld26_1 .plain rfl rfl ?_
        refine Sq.loadB one23 .plain rfl rfl hB4 rfl ?_
        refine Sq.move .plain rfl rfl ?_
        refine Sq.idxRows sl23 one56 (hnx.ext E) .plain rfl rfl rfl .plain rfl rfl (by omega) (by omega) (fun r24 hr25 => ?_)
        refine Sq.lenInts hr25 .plain rfl und56 rfl ?_
        refine Sq.lss .plain rfl rfl rfl ?_
        refine Sq.part (fun c26 => ?_) (fun c26 => ?_)
        · refine Sq.nil ?_
          refine Eq.next ?_
          refine Cq.thn rfl ?_
          refine Cq.skip ?_
          refine Eq.next ?_
          refine Cq.seq ?_
          refine Cq.block ?_
          refine Cq.seq ?_
          refine Cq.seq ?_
          refine Cq.region ?_
          refine Sq.move .plain rfl rfl ?_
          refine Sq.gtr .plain rfl rfl rfl ?_
          refine Sq.part (fun c27 => ?_) (fun c27 => ?_)
          · refine Sq.nil ?_
            refine Eq.next ?_
            refine Cq.thn rfl ?_
            refine Cq.region ?_
            refine Sq.move .plain rfl rfl ?_
            refine Sq.cat .plain rfl rfl rfl (by show u.size + 1 ≤ _; omega) ?_
            refine Sq.assign .plain rfl rfl ?_
            refine Sq.nil ?_
            refine Eq.next ?_
            refine Cq.region ?_
            refine Sq.move .plain rfl rfl ?_
            refine Sq.fieldAddr fld26_1 .plain rfl rfl ?_
            refine Sq.loadB one23 .plain rfl rfl hB4 rfl ?_
            refine Sq.move .plain rfl rfl ?_
            refine Sq.idxRows sl23 one56 (hnx.ext E) .plain rfl rfl rfl .plain rfl rfl (by omega) (by omega) (fun r28 hr29 => ?_)
            refine Sq.move .plain rfl rfl ?_
            refine Sq.idxInts sl56 one3 hr29 .plain rfl rfl rfl .plain rfl rfl (by omega) (by omega) ?_
            have hd35 := hB4.lt
            refine Sq.call fn130 .plain rfl rfl (dec_c ((a.next.getD i.toNat []).getD k.toNat 0) (by have := hen (by omega) (by omega); omega) _) ?_
            rintro _ w31 ⟨⟨s33, rfl, hs34⟩, e32⟩
            have hs36 := Below.size E
            have hs37 := Below.size e32
            replace E := E.trans e32
            replace hB4 := hB4.ext e32
            refine Sq.cat .plain rfl rfl rfl (by (try simp only [size_cat]); first | omega | (show (u.size + 1) + _ ≤ _; omega)) ?_
            refine Sq.assign .plain rfl rfl ?_
            refine Sq.nil ?_
            refine Eq.end ?_
            refine Eq.next ?_
            refine Cq.region ?_
            refine Sq.move .plain rfl rfl ?_
            refine Sq.add .plain rfl rfl rfl (by omega) ?_
            refine Sq.assign .plain rfl rfl ?_
            refine Sq.nil ?_
            refine Eq.round _ _ ⟨k + 1, _, rfl, by omega, by simp only [size_cat]; first | omega | (show ((u.size + 1 + _ : Nat) : Int) ≤ _; omega), E, hB4, rfl⟩ (by omega) (.cons rfl (.cons rfl (.cons rfl (.cons rfl (.nil)))))
          refine Sq.nil ?_
          refine Eq.next ?_
          refine Cq.els rfl ?_
          refine Cq.skip ?_
          refine Eq.next ?_
          refine Cq.region ?_
          refine Sq.move .plain rfl rfl ?_
          refine Sq.fieldAddr fld26_1 .plain rfl rfl ?_
          refine Sq.loadB one23 .plain rfl rfl hB4 rfl ?_
          refine Sq.move .plain rfl rfl ?_
          refine Sq.idxRows sl23 one56 (hnx.ext E) .plain rfl rfl rfl .plain rfl rfl (by omega) (by omega) (fun r38 hr39 => ?_)
          refine Sq.move .plain rfl rfl ?_
          refine Sq.idxInts sl56 one3 hr39 .plain rfl rfl rfl .plain rfl rfl (by omega) (by omega) ?_
          have hd45 := hB4.lt
          refine Sq.call fn130 .plain rfl rfl (dec_c ((a.next.getD i.toNat []).getD k.toNat 0) (by have := hen (by omega) (by omega); omega) _) ?_
          rintro _ w41 ⟨⟨s43, rfl, hs44⟩, e42⟩
          have hs46 := Below.size E
          have hs47 := Below.size e42
          replace E := E.trans e42
          replace hB4 := hB4.ext e42
          refine Sq.cat .plain rfl rfl rfl (by (try simp only [size_cat]); first | omega | (show (u.size + 1) + _ ≤ _; omega)) ?_
          refine Sq.assign .plain rfl rfl ?_
          refine Sq.nil ?_
          refine Eq.end ?_
          refine Eq.next ?_
          refine Cq.region ?_
          refine Sq.move .plain rfl rfl ?_
          refine Sq.add .plain rfl rfl rfl (by omega) ?_
          refine Sq.assign .plain rfl rfl ?_
          refine Sq.nil ?_
          refine Eq.round _ _ ⟨k + 1, _, rfl, by omega, by simp only [size_cat]; first | omega | (show ((u.size + 1 + _ : Nat) : Int) ≤ _; omega), E, hB4, rfl⟩ (by omega) (.cons rfl (.cons rfl (.cons rfl (.cons rfl (.nil)))))
        refine Sq.nil ?_
        refine Eq.next ?_
        refine Cq.els rfl ?_
        refine Cq.exit ?_
        refine Eq.past ?_
        refine Eq.past ?_
        refine Eq.hit ?_
        refine Eq.end ?_
        refine Eq.next ?_
        refine Cq.region ?_
        refine Sq.move .plain rfl rfl ?_
        refine Sq.add .plain rfl rfl rfl (by omega) ?_
        refine Sq.assign .plain rfl rfl ?_
        refine Sq.nil ?_
        refine Eq.round _ _ ⟨i + 1, _, rfl, by omega, by omega, E, hB4, rfl⟩ (by omega) (.cons rfl (.cons rfl (.cons rfl (.nil))))
      refine Sq.nil ?_
      refine Eq.next ?_
      refine Cq.els rfl ?_
      refine Cq.skip ?_
      refine Eq.next ?_
      refine Cq.seq ?_
      refine Cq.region ?_
      refine Sq.move .plain rfl rfl ?_
      refine Sq.move .plain rfl rfl ?_
      refine Sq.cat .plain rfl rfl rfl (by show t.size + 2 ≤ _; omega) ?_
      refine Sq.assign .plain rfl rfl ?_
      refine Sq.nil ?_
      refine Eq.next ?_
      refine Cq.seq ?_
      refine Cq.region ?_
      refine Sq.assign .plain rfl rfl ?_
      refine Sq.nil ?_
      refine Eq.next ?_
      refine Cq.block ?_
      refine Cq.loop (fun nn w ls => ∃ (k : Int), ∃ (u : ByteArray), ls = [(1, Value.pointer (some ⟨b1, 0, none⟩)), (3, Value.string u), (4, Value.int .i64 i), (6, Value.int .i64 k)] ∧ (0 ≤ k ∧ k ≤ (a.next.getD i.toNat []).length) ∧ ((u.size : Int) ≤ 8 + 100 * i + 15 * k) ∧ Ext w0 w ∧ Blk w b1 26 [Value.int .i64 a.al, nx, ac] ∧ nn = (((a.next.getD i.toNat []).length : Int) - k).toNat) _ _ ⟨0, _, rfl, by omega, by rw [size_cat]; show ((t.size + 2 : Nat) : Int) ≤ _; omega, E, hB4, rfl⟩ (.cons rfl (.cons rfl (.cons rfl (.cons rfl (.nil))))) ?_
      rintro nn wl2 ls ⟨k, u, rfl, hk, hu, E, hB4, rfl⟩
      have hs48 := Below.size E
      have hen := valid_at hv (k := i.toNat) (j := k.toNat)
      refine Cq.seq ?_
      refine Cq.seq ?_
      refine Cq.region ?_
      refine Sq.move .plain rfl rfl ?_
      refine Sq.fieldAddr fld26_1 .plain rfl rfl ?_
      refine Sq.loadB one23 .plain rfl rfl hB4 rfl ?_
      refine Sq.move .plain rfl rfl ?_
      refine Sq.idxRows sl23 one56 (hnx.ext E) .plain rfl rfl rfl .plain rfl rfl (by omega) (by omega) (fun r49 hr50 => ?_)
      refine Sq.lenInts hr50 .plain rfl und56 rfl ?_
      refine Sq.lss .plain rfl rfl rfl ?_
      refine Sq.part (fun c51 => ?_) (fun c51 => ?_)
      · refine Sq.nil ?_
        refine Eq.next ?_
        refine Cq.thn rfl ?_
        refine Cq.skip ?_
        refine Eq.next ?_
        refine Cq.seq ?_
        refine Cq.block ?_
        refine Cq.seq ?_
        refine Cq.seq ?_
        refine Cq.region ?_
        refine Sq.move .plain rfl rfl ?_
        refine Sq.gtr .plain rfl rfl rfl ?_
        refine Sq.part (fun c52 => ?_) (fun c52 => ?_)
        · refine Sq.nil ?_
          refine Eq.next ?_
          refine Cq.thn rfl ?_
          refine Cq.region ?_
          refine Sq.move .plain rfl rfl ?_
          refine Sq.cat .plain rfl rfl rfl (by show u.size + 1 ≤ _; omega) ?_
          refine Sq.assign .plain rfl rfl ?_
          refine Sq.nil ?_
          refine Eq.next ?_
          refine Cq.region ?_
          refine Sq.move .plain rfl rfl ?_
          refine Sq.fieldAddr fld26_1 .plain rfl rfl ?_
          refine Sq.loadB one23 .plain rfl rfl hB4 rfl ?_
          refine Sq.move .plain rfl rfl ?_
          refine Sq.idxRows sl23 one56 (hnx.ext E) .plain rfl rfl rfl .plain rfl rfl (by omega) (by omega) (fun r53 hr54 => ?_)
          refine Sq.move .plain rfl rfl ?_
          refine Sq.idxInts sl56 one3 hr54 .plain rfl rfl rfl .plain rfl rfl (by omega) (by omega) ?_
          have hd60 := hB4.lt
          refine Sq.call fn130 .plain rfl rfl (dec_c ((a.next.getD i.toNat []).getD k.toNat 0) (by have := hen (by omega) (by omega); omega) _) ?_
          rintro _ w56 ⟨⟨s58, rfl, hs59⟩, e57⟩
          have hs61 := Below.size E
          have hs62 := Below.size e57
          replace E := E.trans e57
          replace hB4 := hB4.ext e57
          refine Sq.cat .plain rfl rfl rfl (by (try simp only [size_cat]); first | omega | (show (u.size + 1) + _ ≤ _; omega)) ?_
          refine Sq.assign .plain rfl rfl ?_
          refine Sq.nil ?_
          refine Eq.end ?_
          refine Eq.next ?_
          refine Cq.region ?_
          refine Sq.move .plain rfl rfl ?_
          refine Sq.add .plain rfl rfl rfl (by omega) ?_
          refine Sq.assign .plain rfl rfl ?_
          refine Sq.nil ?_
          refine Eq.round _ _ ⟨k + 1, _, rfl, by omega, by simp only [size_cat]; first | omega | (show ((u.size + 1 + _ : Nat) : Int) ≤ _; omega), E, hB4, rfl⟩ (by omega) (.cons rfl (.cons rfl (.cons rfl (.cons rfl (.nil)))))
        refine Sq.nil ?_
        refine Eq.next ?_
        refine Cq.els rfl ?_
        refine Cq.skip ?_
        refine Eq.next ?_
        refine Cq.region ?_
        refine Sq.move .plain rfl rfl ?_
        refine Sq.fieldAddr fld26_1 .plain rfl rfl ?_
        refine Sq.loadB one23 .plain rfl rfl hB4 rfl ?_
        refine Sq.move .plain rfl rfl ?_
        refine Sq.idxRows sl23 one56 (hnx.ext E) .plain rfl rfl rfl .plain rfl rfl (by omega) (by omega) (fun r63 hr64 => ?_)
        refine Sq.move .plain rfl rfl ?_
        refine Sq.idxInts sl56 one3 hr64 .plain rfl rfl rfl .plain rfl rfl (by omega) (by omega) ?_
        have hd70 := hB4.lt
        refine Sq.call fn130 .plain rfl rfl (dec_c ((a.next.getD i.toNat []).getD k.toNat 0) (by have := hen (by omega) (by omega); omega) _) ?_
        rintro _ w66 ⟨⟨s68, rfl, hs69⟩, e67⟩
        have hs71 := Below.size E
        have hs72 := Below.size e67
        replace E := E.trans e67
        replace hB4 := hB4.ext e67
        refine Sq.cat .plain rfl rfl rfl (by (try simp only [size_cat]); first | omega | (show (u.size + 1) + _ ≤ _; omega)) ?_
        refine Sq.assign .plain rfl rfl ?_
        refine Sq.nil ?_
        refine Eq.end ?_
        refine Eq.next ?_
        refine Cq.region ?_
        refine Sq.move .plain rfl rfl ?_
        refine Sq.add .plain rfl rfl rfl (by omega) ?_
        refine Sq.assign .plain rfl rfl ?_
        refine Sq.nil ?_
        refine Eq.round _ _ ⟨k + 1, _, rfl, by omega, by simp only [size_cat]; first | omega | (show ((u.size + 1 + _ : Nat) : Int) ≤ _; omega), E, hB4, rfl⟩ (by omega) (.cons rfl (.cons rfl (.cons rfl (.cons rfl (.nil)))))
      refine Sq.nil ?_
      refine Eq.next ?_
      refine Cq.els rfl ?_
      refine Cq.exit ?_
      refine Eq.past ?_
      refine Eq.past ?_
      refine Eq.hit ?_
      refine Eq.end ?_
      refine Eq.next ?_
      refine Cq.region ?_
      refine Sq.move .plain rfl rfl ?_
      refine Sq.add .plain rfl rfl rfl (by omega) ?_
      refine Sq.assign .plain rfl rfl ?_
      refine Sq.nil ?_
      refine Eq.round _ _ ⟨i + 1, _, rfl, by omega, by omega, E, hB4, rfl⟩ (by omega) (.cons rfl (.cons rfl (.cons rfl (.nil))))
    refine Sq.nil ?_
    refine Eq.next ?_
    refine Cq.els rfl ?_
    refine Cq.exit ?_
    refine Eq.past ?_
    refine Eq.past ?_
    refine Eq.hit ?_
    refine Eq.next ?_
    refine Cq.seq ?_
    refine Cq.region ?_
    refine Sq.move .plain rfl rfl ?_
    refine Sq.assign .plain rfl rfl ?_
    refine Sq.nil ?_
    refine Eq.next ?_
    refine Cq.ret ?_
    refine Eq.ret1 rfl rfl ?_
    exact ⟨⟨_, rfl, by first | (show 0 ≤ 2000; omega) | omega⟩, E⟩
  refine Sq.notF .plain rfl rfl ?_
  refine Sq.nil ?_
  refine Eq.next ?_
  refine Cq.thn rfl ?_
  refine Cq.seq ?_
  refine Cq.region ?_
  refine Sq.assign .plain rfl rfl ?_
  refine Sq.nil ?_
  refine Eq.next ?_
  refine Cq.ret ?_
  refine Eq.pastRet ?_
  refine Eq.ret1 rfl rfl ?_
  exact ⟨⟨_, rfl, by first | (show 0 ≤ 2000; omega) | omega⟩, E⟩
end Go.Proofs.Ytdejmfkpohgamaa
set_option linter.unusedSimpArgs false
set_option linter.unusedVariables false
namespace Go.Proofs.Ytdejmfkpohgamaa
open Go.RowKit
set_option maxRecDepth 100000 in
theorem parseA_c (s : ByteArray) (hs : s.size ≤ 100) (w0 : World) : Ret Try.prog 84 #[Value.string s] w0 (fun v w => (∃ (u : Value) (ok : Bool) (a : A), v = .tuple #[u, .bool ok] ∧ OwnA w w0.heap.size u a ∧ Small 200 a ∧ 0 ≤ a.al ∧ a.al ≤ 63) ∧ Ext w0 w) := by
  have E := Ext.refl w0
  refine Ret.of (args := [Value.string s]) Try.func84 rfl rfl rfl ?_
  rintro _ rfl
  show Cq _ _ _ _ [(0, Value.string s)] _
  refine Cq.seq ?_
  refine Cq.region ?_
  refine Sq.alloc zero26 .plain rfl (fun b1 w2 e3 hB4 hlo5 => ?_)
  have hd6 := Nat.le_trans (Below.size E) hlo5
  have hs7 := Below.size e3
  replace E := E.trans e3
  refine Sq.assign .plain rfl rfl ?_
  refine Sq.nil ?_
  refine Eq.next ?_
  refine Cq.seq ?_
  refine Cq.region ?_
  refine Sq.move .plain rfl rfl ?_
  have hd15 := hB4.lt
  refine Sq.call fn110 .plain rfl rfl (cut_c s 32 (by omega) _) ?_
  rintro v8 w9 ⟨⟨xs11, ho12, hxl13, hxs14⟩, e10⟩
  have hs16 := Below.size E
  have hs17 := Below.size e10
  replace E := E.trans e10
  replace hB4 := hB4.ext e10
  refine Sq.assign .plain rfl rfl ?_
  refine Sq.nil ?_
  refine Eq.next ?_
  refine Cq.seq ?_
  refine Cq.region ?_
  refine Sq.move .plain rfl rfl ?_
  refine Sq.idxStrs sl91 one9 (Own.row ho12) .plain rfl rfl rfl .plain rfl rfl (by omega) (by omega) ?_
  have hd24 := hB4.lt
  refine Sq.call fn111 .plain rfl rfl (parseAl_c ((xs11.getD (0 : Int).toNat ByteArray.empty)) _) ?_
  rintro _ w19 ⟨⟨n21, ok22, rfl, hn23⟩, e20⟩
  have hs25 := Below.size E
  have hs26 := Below.size e20
  replace E := E.trans e20
  replace hB4 := hB4.ext e20
  replace ho12 := ho12.ext e20
  refine Sq.move .plain rfl rfl ?_
  refine Sq.extract .plain rfl rfl rfl ?_
  refine Sq.extract .plain rfl rfl rfl ?_
  refine Sq.assign .plain rfl rfl ?_
  refine Sq.assign .plain rfl rfl ?_
  refine Sq.nil ?_
  refine Eq.next ?_
  refine Cq.seq ?_
  refine Cq.seq ?_
  refine Cq.region ?_
  refine Sq.move .plain rfl rfl ?_
  refine Sq.partB (fun c27 => ?_) (fun c27 => ?_)
  · refine Sq.notT .plain rfl rfl ?_
    refine Sq.nil ?_
    refine Eq.next ?_
    refine Cq.els rfl ?_
    refine Cq.skip ?_
    refine Eq.next ?_
    refine Cq.seq ?_
    refine Cq.region ?_
    refine Sq.move .plain rfl rfl ?_
    refine Sq.build st26 rfl rfl .plain rfl rfl (one_cons rfl one_nil) rfl ?_
    refine Sq.alloc zero26 .plain rfl (fun b28 w29 e30 hB31 hlo32 => ?_)
    have hd33 := Nat.le_trans (Below.size E) hlo32
    have hd34 := Nat.lt_of_lt_of_le hB4.lt hlo32
    have hs35 := Below.size e30
    replace E := E.trans e30
    replace hB4 := hB4.ext e30
    replace ho12 := ho12.ext e30
    refine Sq.storeAgg agg26 .plain rfl rfl (one_cons rfl (one_cons rfl (one_cons rfl one_nil))) hB31 rfl rfl (fun w36 g37 hB38 => ?_)
    have hs39 := World.grownBy.size g37
    replace E := E.grown g37 (fun k hk => by injection hk with hk; subst hk; omega)
    replace hB4 := hB4.grown g37 (by intro h; injection h with h; omega)
    replace ho12 := ho12.stored g37 hB31 (by decide)
    replace hB31 := hB38
    refine Sq.nil ?_
    refine Eq.next ?_
    refine Cq.seq ?_
    refine Cq.seq ?_
    refine Cq.region ?_
    refine Sq.assign .plain rfl rfl ?_
    refine Sq.nil ?_
    refine Eq.next ?_
    refine Cq.block ?_
    refine Cq.loop (fun nn w ls => ∃ (i : Int), ∃ (nxv : Value), ∃ (acv : Value), ∃ (xss : List (List Int)), ∃ (ys : List Bool), ls = [(0, Value.string s), (2, Value.pointer (some ⟨b1, 0, none⟩)), (4, v8), (7, Value.pointer (some ⟨b28, 0, none⟩)), (8, Value.int .i64 i)] ∧ (1 ≤ i ∧ i ≤ xs11.length) ∧ Blk w b28 26 [Value.int .i64 n21, nxv, acv] ∧ OwnRows w w0.heap.size w.heap.size 56 3 nxv xss ∧ Own w w0.heap.size 4 acv (ys.map Value.bool) ∧ ((xss.length : Int) = i - 1 ∧ (ys.length : Int) = i - 1 ∧ ∀ row ∈ xss, row.length ≤ 150) ∧ Ext w0 w ∧ Blk w b1 26 [Value.int .i64 0, Value.slice none 0 0, Value.slice none 0 0] ∧ Own w w2.heap.size 9 v8 (xs11.map Value.string) ∧ nn = ((xs11.length : Int) - i).toNat) _ _ ⟨1, _, _, [], [], rfl, by omega, hB31, OwnRows.nil _ _ _ _ _, Own.nil _ _ _, by simp, E, hB4, ho12, rfl⟩ (.cons rfl (.cons rfl (.cons rfl (.cons rfl (.cons rfl (.nil)))))) ?_
    rintro nn wl1 ls ⟨i, nxv, acv, xss, ys, rfl, hi, hB7, hor, hoa, hxl, E, hB4, ho12, rfl⟩
    have hs40 := Below.size E
    refine Cq.seq ?_
    refine Cq.seq ?_
    refine Cq.region ?_
    refine Sq.move .plain rfl rfl ?_
    refine Sq.move .plain rfl rfl ?_
    refine Sq.lenStrs (Own.row ho12) .plain rfl und91 rfl ?_
    refine Sq.lss .plain rfl rfl rfl ?_
    refine Sq.part (fun c41 => ?_) (fun c41 => ?_)
    · refine Sq.nil ?_
      refine Eq.next ?_
      refine Cq.thn rfl ?_
      refine Cq.skip ?_
      refine Eq.next ?_
      refine Cq.seq ?_
      refine Cq.block ?_
      refine Cq.seq ?_
      refine Cq.seq ?_
      refine Cq.region ?_
      refine Sq.move .plain rfl rfl ?_
      refine Sq.move .plain rfl rfl ?_
      refine Sq.idxStrs sl91 one9 (Own.row ho12) .plain rfl rfl rfl .plain rfl rfl (by omega) (by omega) ?_
      refine Sq.eqlS .plain rfl rfl rfl ?_
      refine Sq.part (fun hne => ?_) (fun hne => ?_)
      · refine Sq.nil ?_
        refine Eq.next ?_
        refine Cq.thn rfl ?_
        refine Cq.seq ?_
        refine Cq.region ?_
        refine Sq.build st26 rfl rfl .plain rfl rfl one_nil rfl ?_
        refine Sq.storeAgg agg26 .plain rfl rfl (one_cons rfl (one_cons rfl (one_cons rfl one_nil))) hB4 rfl rfl (fun w42 g43 hB44 => ?_)
        have hs45 := World.grownBy.size g43
        replace E := E.grown g43 (fun k hk => by injection hk with hk; subst hk; omega)
        replace hB4 := hB44
        refine Sq.assign .plain rfl rfl ?_
        refine Sq.nil ?_
        refine Eq.next ?_
        refine Cq.ret ?_
        refine Eq.pastRet ?_
        refine Eq.outRet ?_
        refine Eq.pastRet ?_
        refine Eq.pastRet ?_
        refine Eq.outRet ?_
        refine Eq.pastRet ?_
        refine Eq.retCell2 rfl rfl agg26 hB4 rfl rfl ?_
        exact ⟨⟨_, _, zeroA, rfl, ⟨_, _, rfl, OwnRows.nil _ _ _ _ _, Own.nil _ _ _⟩, by refine ⟨?_, ?_, ?_, ?_⟩ <;> simp [zeroA], by simp [zeroA]⟩, E⟩
      refine Sq.nil ?_
      refine Eq.next ?_
      refine Cq.els rfl ?_
      refine Cq.skip ?_
      refine Eq.next ?_
      refine Cq.seq ?_
      refine Cq.region ?_
      have hne1 := str_ne hne
      have hps := hxs14 _ (getD_mem (d := ByteArray.empty) (k := i.toNat) (by omega))
      have hcl : ((xs11.getD i.toNat ByteArray.empty).extract (1 : Int).toNat (xs11.getD i.toNat ByteArray.empty).size).size ≤ 100 := Nat.le_trans (size_cut _) (by omega)
      refine Sq.move .plain rfl rfl ?_
      refine Sq.move .plain rfl rfl ?_
      refine Sq.idxStrs sl91 one9 (Own.row ho12) .plain rfl rfl rfl .plain rfl rfl (by omega) (by omega) ?_
      refine Sq.val .plain rfl rfl (Still.cutL und9 rfl rfl (by omega)) ?_
      have hd54 := hB4.lt
      have hd55 := hB7.lt
      refine Sq.call fn112 .plain rfl rfl (l3Parse_c (((xs11.getD i.toNat ByteArray.empty).extract (1 : Int).toNat (xs11.getD i.toNat ByteArray.empty).size)) (by omega) _) ?_
      rintro _ w47 ⟨⟨r49, ok50, xs51, rfl, ho52, hl53⟩, e48⟩
      have hs56 := Below.size E
      have hs57 := Below.size e48
      replace E := E.trans e48
      replace hB4 := hB4.ext e48
      replace ho12 := ho12.ext e48
      replace hB7 := hB7.ext e48
      replace hor := hor.ext e48
      replace hoa := hoa.ext e48
      refine Sq.move .plain rfl rfl ?_
      refine Sq.extract .plain rfl rfl rfl ?_
      refine Sq.extract .plain rfl rfl rfl ?_
      refine Sq.assign .plain rfl rfl ?_
      refine Sq.assign .plain rfl rfl ?_
      refine Sq.nil ?_
      refine Eq.next ?_
      refine Cq.seq ?_
      refine Cq.seq ?_
      refine Cq.region ?_
      refine Sq.move .plain rfl rfl ?_
      refine Sq.partB (fun c58 => ?_) (fun c58 => ?_)
      · refine Sq.notT .plain rfl rfl ?_
        refine Sq.nil ?_
        refine Eq.next ?_
        refine Cq.els rfl ?_
        refine Cq.skip ?_
        refine Eq.next ?_
        refine Cq.seq ?_
        refine Cq.region ?_
        refine Sq.fieldAddr fld26_1 .plain rfl rfl ?_
        refine Sq.loadB one23 .plain rfl rfl hB7 rfl ?_
        refine Sq.move .plain rfl rfl ?_
        obtain ⟨rs63, q64, q65, q66⟩ := OwnRows.open hor (by decide)
        have q66x := Ext.refl w47
        refine Sq.app1 sl23 q64 (by omega) (by rw [q65]; first | omega | (simp; omega)) .plain rfl rfl rfl rfl rfl rfl (Row.one (Own.row ho52)) (fun v59 w60 ho62 g61 _ => ?_)
        have hs67 := g61.size
        have ho62r := q66 _ xs51 _ _ _ (Ext.refl _) (Own.mono ho52 (by omega)) (by omega) ho62 g61
        replace E := E.owned q64 g61 (by omega)
        replace hB4 := hB4.owned q64 g61 (by decide)
        replace ho12 := ho12.owned q64 g61 (by decide)
        replace hB7 := hB7.owned q64 g61 (by decide)
        replace hoa := hoa.owned q64 g61 (by decide)
        refine Sq.fieldAddr fld26_1 .plain rfl rfl ?_
        refine Sq.store one23 .plain rfl rfl (Rows.one (OwnRows.rows ho62r)) hB7 (by simp) (fun w68 g69 hB70 => ?_)
        have hs71 := World.grownBy.size g69
        replace E := E.grown g69 (fun k hk => by injection hk with hk; subst hk; omega)
        replace hB4 := hB4.grown g69 (by intro h; injection h with h; omega)
        replace ho12 := ho12.stored g69 hB7 (by decide)
        replace hoa := hoa.stored g69 hB7 (by decide)
        replace ho62r := ho62r.stored g69 hB7 (by decide) (by decide)
        replace hB7 := hB70
        refine Sq.nil ?_
        refine Eq.next ?_
        obtain ⟨pS, hpS⟩ := Strs.at (Own.row ho12) (i := i) (by omega) (by omega)
        refine Cq.drawS 10 (fun w' => Blk w' b28 26 [Value.int .i64 n21, v59, acv] ∧ At w' 9 v8 i pS (.string (xs11.getD i.toNat ByteArray.empty))) mixed (⟨hB7, hpS⟩) (fun w72 e73 hS => ?_)
        clear hS
        have hs74 := Below.size e73
        replace E := E.trans e73
        replace hB4 := hB4.ext e73
        replace ho12 := ho12.ext e73
        replace hB7 := hB7.ext e73
        replace hoa := hoa.ext e73
        replace ho62r := ho62r.ext e73
        replace hpS := hpS.ext e73
        refine Gq.st 0 rfl (by kernel_rfl) rfl .plain rfl (fun _ _ _ h => h) ⟨hB7, hpS⟩ (fun w' x => Still.fieldAddr fld26_2 rfl) ?_
        refine Gq.st 1 rfl (by kernel_rfl) rfl .plain rfl (fun _ _ _ h => h) ⟨hB7, hpS⟩ (fun w' x => Still.loadB one24 rfl x.1 rfl) ?_
        refine Gq.st 2 rfl (by kernel_rfl) rfl .plain rfl (fun _ _ _ h => h) ⟨hB7, hpS⟩ (fun w' x => Still.move rfl) ?_
        refine Gq.st 3 rfl (by kernel_rfl) rfl .plain rfl (fun _ _ _ h => h) ⟨hB7, hpS⟩ (fun w' x => Still.move rfl) ?_
        refine Gq.st 4 rfl (by kernel_rfl) rfl .plain rfl (fun _ _ _ h => h) ⟨hB7, hpS⟩ (fun w' x => Still.at' sl91 hpS rfl rfl) ?_
        refine Gq.st 5 rfl (by kernel_rfl) rfl .plain rfl (fun _ _ _ h => h) ⟨hB7, hpS⟩ (fun w' x => Still.loadA one9 rfl (x.2).1) ?_
        refine Gq.st 6 rfl (by kernel_rfl) rfl .plain rfl (fun _ _ _ h => h) ⟨hB7, hpS⟩ (fun w' x => Still.idxStr und9 rfl rfl (by omega) (str_at (by omega))) ?_
        refine Gq.st 7 rfl (by kernel_rfl) rfl .plain rfl (fun _ _ _ h => h) ⟨hB7, hpS⟩ (fun w' x => Still.eql rfl rfl) ?_
        refine Gq.one 8 rfl (by kernel_rfl) ?_
        refine Sq.lit sl24 rfl rfl .plain rfl rfl (one_cons rfl one_nil) (fun b75 w76 e77 hlo78 ho79 _ => ?_)
        replace ho79 := ho79 w72.heap.size (Nat.le_refl _)
        have hs81 := Below.size e77
        replace E := E.trans e77
        replace hB4 := hB4.ext e77
        replace ho12 := ho12.ext e77
        replace hB7 := hB7.ext e77
        replace hoa := hoa.ext e77
        replace ho62r := ho62r.ext e77
        replace hpS := hpS.ext e77
        refine Sq.nil ?_
        refine Eq.goes (fun _ => ⟨hB7, hpS⟩) ?_
        refine Gq.one 9 rfl (by kernel_rfl) ?_
        refine Sq.app sl24 hoa (by omega) (Own.row ho79) (one_cons rfl one_nil) (by first | omega | (simp; omega)) .plain rfl rfl rfl rfl (fun v82 w83 ho85 g84 => ?_)
        have hs86 := g84.size
        replace E := E.owned hoa g84 (by omega)
        replace hB4 := hB4.owned hoa g84 (by decide)
        replace ho12 := ho12.owned hoa g84 (by decide)
        replace hB7 := hB7.owned hoa g84 (by decide)
        replace ho62r := ho62r.owned hoa g84 (by decide) (by decide)
        replace hpS := hpS.owned hoa g84 (by decide)
        refine Sq.nil ?_
        refine Eq.goes (fun _ => ⟨hB7, hpS⟩) ?_
        refine Gq.one 10 rfl (by kernel_rfl) ?_
        refine Sq.fieldAddr fld26_2 .plain rfl rfl ?_
        refine Sq.nil ?_
        refine Eq.goes (fun h => absurd h (by decide)) ?_
        refine Gq.one 11 rfl (by kernel_rfl) ?_
        refine Sq.store one24 .plain rfl rfl (Row.one (Own.row ho85)) hB7 (by simp) (fun w87 g88 hB89 => ?_)
        have hs90 := World.grownBy.size g88
        replace E := E.grown g88 (fun k hk => by injection hk with hk; subst hk; omega)
        replace hB4 := hB4.grown g88 (by intro h; injection h with h; omega)
        replace ho12 := ho12.stored g88 hB7 (by decide)
        replace ho62r := ho62r.stored g88 hB7 (by decide) (by decide)
        replace ho85 := ho85.stored g88 hB7 (by decide)
        replace hB7 := hB89
        refine Sq.nil ?_
        refine Eq.goes (fun h => absurd h (by decide)) ?_
        refine Gq.done (by kernel_rfl) ?_
        refine Eq.end ?_
        refine Eq.next ?_
        refine Cq.region ?_
        refine Sq.move .plain rfl rfl ?_
        refine Sq.add .plain rfl rfl rfl (by omega) ?_
        refine Sq.assign .plain rfl rfl ?_
        refine Sq.nil ?_
        refine Eq.round _ _ ⟨i + 1, _, _, _, _, rfl, by omega, hB7, OwnRows.now ho62r, Own.snocB ho85, ⟨by simp; omega, by simp; omega, all_app hxl.2.2 (by omega)⟩, E, hB4, ho12, rfl⟩ (by omega) (.cons rfl (.cons rfl (.cons rfl (.cons rfl (.cons rfl (.nil))))))
      refine Sq.notF .plain rfl rfl ?_
      refine Sq.nil ?_
      refine Eq.next ?_
      refine Cq.thn rfl ?_
      refine Cq.seq ?_
      refine Cq.region ?_
      refine Sq.build st26 rfl rfl .plain rfl rfl one_nil rfl ?_
      refine Sq.storeAgg agg26 .plain rfl rfl (one_cons rfl (one_cons rfl (one_cons rfl one_nil))) hB4 rfl rfl (fun w91 g92 hB93 => ?_)
      have hs94 := World.grownBy.size g92
      replace E := E.grown g92 (fun k hk => by injection hk with hk; subst hk; omega)
      replace hB4 := hB93
      refine Sq.assign .plain rfl rfl ?_
      refine Sq.nil ?_
      refine Eq.next ?_
      refine Cq.ret ?_
      refine Eq.pastRet ?_
      refine Eq.outRet ?_
      refine Eq.pastRet ?_
      refine Eq.pastRet ?_
      refine Eq.outRet ?_
      refine Eq.pastRet ?_
      refine Eq.retCell2 rfl rfl agg26 hB4 rfl rfl ?_
      exact ⟨⟨_, _, zeroA, rfl, ⟨_, _, rfl, OwnRows.nil _ _ _ _ _, Own.nil _ _ _⟩, by refine ⟨?_, ?_, ?_, ?_⟩ <;> simp [zeroA], by simp [zeroA]⟩, E⟩
    refine Sq.nil ?_
    refine Eq.next ?_
    refine Cq.els rfl ?_
    refine Cq.exit ?_
    refine Eq.past ?_
    refine Eq.past ?_
    refine Eq.hit ?_
    refine Eq.next ?_
    refine Cq.seq ?_
    refine Cq.seq ?_
    refine Cq.region ?_
    refine Sq.loadAgg agg26 .plain rfl rfl hB7 rfl ?_
    have hd100 := hB4.lt
    have hd101 := hB7.lt
    refine Sq.call fn113 .plain rfl rfl (fmtA_c _ (⟨n21, xss, ys⟩ : A) _ _ (OwnRows.rows hor) (Own.row hoa)) ?_
    rintro _ w96 ⟨⟨s98, rfl, hs99⟩, e97⟩
    have hs102 := Below.size E
    have hs103 := Below.size e97
    replace E := E.trans e97
    replace hB4 := hB4.ext e97
    replace hB7 := hB7.ext e97
    replace hor := hor.ext e97
    replace hoa := hoa.ext e97
    refine Sq.move .plain rfl rfl ?_
    refine Sq.neqS .plain rfl rfl rfl ?_
    refine Sq.part (fun c104 => ?_) (fun c104 => ?_)
    · refine Sq.nil ?_
      refine Eq.next ?_
      refine Cq.thn rfl ?_
      refine Cq.seq ?_
      refine Cq.region ?_
      refine Sq.build st26 rfl rfl .plain rfl rfl one_nil rfl ?_
      refine Sq.storeAgg agg26 .plain rfl rfl (one_cons rfl (one_cons rfl (one_cons rfl one_nil))) hB4 rfl rfl (fun w105 g106 hB107 => ?_)
      have hs108 := World.grownBy.size g106
      replace E := E.grown g106 (fun k hk => by injection hk with hk; subst hk; omega)
      replace hB4 := hB107
      refine Sq.assign .plain rfl rfl ?_
      refine Sq.nil ?_
      refine Eq.next ?_
      refine Cq.ret ?_
      refine Eq.pastRet ?_
      refine Eq.retCell2 rfl rfl agg26 hB4 rfl rfl ?_
      exact ⟨⟨_, _, zeroA, rfl, ⟨_, _, rfl, OwnRows.nil _ _ _ _ _, Own.nil _ _ _⟩, by refine ⟨?_, ?_, ?_, ?_⟩ <;> simp [zeroA], by simp [zeroA]⟩, E⟩
    refine Sq.nil ?_
    refine Eq.next ?_
    refine Cq.els rfl ?_
    refine Cq.skip ?_
    refine Eq.next ?_
    refine Cq.seq ?_
    refine Cq.region ?_
    refine Sq.loadAgg agg26 .plain rfl rfl hB7 rfl ?_
    refine Sq.storeAgg agg26 .plain rfl rfl (one_cons rfl (one_cons (Rows.one (OwnRows.rows hor)) (one_cons (Row.one (Own.row hoa)) one_nil))) hB4 rfl rfl (fun w109 g110 hB111 => ?_)
    have hs112 := World.grownBy.size g110
    replace E := E.grown g110 (fun k hk => by injection hk with hk; subst hk; omega)
    replace hor := hor.stored g110 hB4 (by decide) (by decide)
    replace hoa := hoa.stored g110 hB4 (by decide)
    replace hB4 := hB111
    refine Sq.assign .plain rfl rfl ?_
    refine Sq.nil ?_
    refine Eq.next ?_
    refine Cq.ret ?_
    refine Eq.retCell2 rfl rfl agg26 hB4 rfl rfl ?_
    exact ⟨⟨_, _, ⟨n21, xss, ys⟩, rfl, ⟨_, _, rfl, OwnRows.now hor, hoa⟩, by refine ⟨?_, ?_, ?_, ?_⟩ <;> first | (show -1000 ≤ n21 ∧ n21 ≤ 1000; omega) | (show xss.length ≤ 200; omega) | (show ys.length ≤ 200; omega) | (intro row hr; have := hxl.2.2 row hr; omega), by show 0 ≤ n21 ∧ n21 ≤ 63; omega⟩, E⟩
  refine Sq.notF .plain rfl rfl ?_
  refine Sq.nil ?_
  refine Eq.next ?_
  refine Cq.thn rfl ?_
  refine Cq.seq ?_
  refine Cq.region ?_
  refine Sq.build st26 rfl rfl .plain rfl rfl one_nil rfl ?_
  refine Sq.storeAgg agg26 .plain rfl rfl (one_cons rfl (one_cons rfl (one_cons rfl one_nil))) hB4 rfl rfl (fun w113 g114 hB115 => ?_)
  have hs116 := World.grownBy.size g114
  replace E := E.grown g114 (fun k hk => by injection hk with hk; subst hk; omega)
  replace hB4 := hB115
  refine Sq.assign .plain rfl rfl ?_
  refine Sq.nil ?_
  refine Eq.next ?_
  refine Cq.ret ?_
  refine Eq.pastRet ?_
  refine Eq.retCell2 rfl rfl agg26 hB4 rfl rfl ?_
  exact ⟨⟨_, _, zeroA, rfl, ⟨_, _, rfl, OwnRows.nil _ _ _ _ _, Own.nil _ _ _⟩, by refine ⟨?_, ?_, ?_, ?_⟩ <;> simp [zeroA], by simp [zeroA]⟩, E⟩
set_option maxRecDepth 100000 in
theorem l3Texts_c (w0 : World) : Ret Try.prog 86 #[] w0 (fun v w => (∃ xs : List ByteArray, Own w w0.heap.size 9 v (xs.map Value.string) ∧ xs.length = 12 ∧ ∀ x ∈ xs, x.size ≤ 60) ∧ Ext w0 w) := by
  have E := Ext.refl w0
  refine Ret.of (args := []) Try.func86 rfl rfl rfl ?_
  rintro _ rfl
  show Cq _ _ _ _ [] _
  refine Cq.seq ?_
  refine Cq.region ?_
  refine Sq.assign .plain rfl rfl ?_
  refine Sq.nil ?_
  refine Eq.next ?_
  refine Cq.seq ?_
  refine Cq.region ?_
  refine Sq.lit sl91 rfl rfl .plain rfl rfl (one_cons rfl (one_cons rfl (one_cons rfl (one_cons rfl (one_cons rfl (one_cons rfl (one_cons rfl (one_cons rfl (one_cons rfl (one_cons rfl (one_cons rfl (one_cons rfl one_nil)))))))))))) (fun b1 w2 e3 hlo4 ho5 _ => ?_)
  replace ho5 := ho5 w0.heap.size (Nat.le_refl _)
  have hs7 := Below.size e3
  replace E := E.trans e3
  refine Sq.assign .plain rfl rfl ?_
  refine Sq.nil ?_
  refine Eq.next ?_
  refine Cq.ret ?_
  refine Eq.ret1 rfl rfl ?_
  exact ⟨⟨([(⟨#[97, 98, 32, 43, 49, 44, 48, 32, 45, 49, 44, 49]⟩ : ByteArray), (⟨#[97, 98, 32, 43, 48, 44, 49, 32, 43, 50, 44, 49, 32, 45, 50, 44, 50]⟩ : ByteArray), (⟨#[97, 99, 32, 43, 49, 44, 50, 32, 43, 49, 44, 50, 32, 45, 50, 44, 50]⟩ : ByteArray), (⟨#[98, 32, 43, 49, 32, 45, 49]⟩ : ByteArray), (⟨#[97, 98, 99, 32, 43, 49, 44, 48, 44, 50, 32, 43, 50, 44, 48, 44, 49, 32, 45, 50, 44, 50, 44, 50]⟩ : ByteArray), (⟨#[45, 32, 43]⟩ : ByteArray), (⟨#[45, 32, 45]⟩ : ByteArray), (⟨#[97, 32, 43, 49, 32, 45, 48]⟩ : ByteArray), (⟨#[97, 98, 32, 43, 48, 44, 49, 32, 45, 48, 44, 49]⟩ : ByteArray), (⟨#[98, 99, 32, 43, 49, 44, 50, 32, 43, 50, 44, 48, 32, 45, 50, 44, 50]⟩ : ByteArray), (⟨#[97, 98, 32, 43, 49, 44, 50, 32, 45, 49, 44, 51, 32, 43, 52, 44, 50, 32, 45, 49, 44, 51, 32, 43, 52, 44, 50]⟩ : ByteArray), (⟨#[97, 98, 99, 32, 43, 48, 44, 49, 44, 48, 32, 43, 48, 44, 49, 44, 50, 32, 45, 50, 44, 50, 44, 50]⟩ : ByteArray)] : List ByteArray), Own.mono ho5 (by omega), rfl, all_size (by decide)⟩, E⟩
set_option maxRecDepth 100000 in
theorem open_c (w0 : World) (e : TypeId) (a0 : Option Addr) (c0 : Nat) (cs : List UInt8) (hc : Bytes w0 e (.slice a0 cs.length c0) cs) (hcap : cs.length ≤ c0) : Ret Try.prog 41 #[Value.slice a0 cs.length c0] w0 (fun v w => (∃ rb bv bs, v = .pointer (some ⟨rb, 0, none⟩) ∧ w0.heap.size ≤ rb ∧ Blk w rb 88 [bv, .int .i64 0] ∧ Src w e bv bs rb ∧ bs.length ≤ 2000) ∧ Ext w0 w) := by
  have E := Ext.refl w0
  refine Ret.of (args := [Value.slice a0 cs.length c0]) Try.func41 rfl rfl rfl ?_
  rintro _ rfl
  show Cq _ _ _ _ [(0, Value.slice a0 cs.length c0)] _
  refine Cq.seq ?_
  refine Cq.region ?_
  refine Sq.assign .plain rfl rfl ?_
  refine Sq.nil ?_
  refine Eq.next ?_
  refine Cq.seq ?_
  refine Cq.seq ?_
  refine Cq.region ?_
  refine Sq.move .plain rfl rfl ?_
  refine Sq.lenBytes (hc.ext E) .plain rfl und22 rfl ?_
  refine Sq.gtr .plain rfl rfl rfl ?_
  refine Sq.part (fun c1 => ?_) (fun c1 => ?_)
  · refine Sq.nil ?_
    refine Eq.next ?_
    refine Cq.thn rfl ?_
    refine Cq.region ?_
    refine Sq.move .plain rfl rfl ?_
    refine Sq.cutBytes sl22 hc hcap (by omega) .plain rfl rfl rfl (fun bv0 hbv0 => ?_)
    refine Sq.assign .plain rfl rfl ?_
    refine Sq.nil ?_
    refine Eq.next ?_
    refine Cq.seq ?_
    refine Cq.region ?_
    refine Sq.move .plain rfl rfl ?_
    refine Sq.build st88 rfl rfl .plain rfl rfl (one_cons (Row.one (hbv0.ext E)) one_nil) rfl ?_
    refine Sq.box .plain rfl rfl (fun b2 w3 e4 hB5 hlo6 => ?_)
    have hd7 := Nat.le_trans (Below.size E) hlo6
    have hs8 := Below.size e4
    replace E := E.trans e4
    refine Sq.assign .plain rfl rfl ?_
    refine Sq.nil ?_
    refine Eq.next ?_
    refine Cq.ret ?_
    refine Eq.ret1 rfl rfl ?_
    exact ⟨⟨_, _, (cs.take (2000 : Int).toNat), rfl, by omega, hB5, Src.of hbv0 E (by omega), by rw [List.length_take]; omega⟩, E⟩
  refine Sq.nil ?_
  refine Eq.next ?_
  refine Cq.els rfl ?_
  refine Cq.skip ?_
  refine Eq.next ?_
  refine Cq.seq ?_
  refine Cq.region ?_
  refine Sq.move .plain rfl rfl ?_
  refine Sq.build st88 rfl rfl .plain rfl rfl (one_cons (Row.one (hc.ext E)) one_nil) rfl ?_
  refine Sq.box .plain rfl rfl (fun b9 w10 e11 hB12 hlo13 => ?_)
  have hd14 := Nat.le_trans (Below.size E) hlo13
  have hs15 := Below.size e11
  replace E := E.trans e11
  refine Sq.assign .plain rfl rfl ?_
  refine Sq.nil ?_
  refine Eq.next ?_
  refine Cq.ret ?_
  refine Eq.ret1 rfl rfl ?_
  exact ⟨⟨_, _, cs, rfl, by omega, hB12, Src.of hc E (by omega), by omega⟩, E⟩
set_option maxRecDepth 100000 in
theorem l3Draw_c (w0 : World) (rb : Nat) (bv : Value) (p : Int) (bs : List UInt8) (e0 : TypeId) (hR : Blk w0 rb 88 [bv, .int .i64 p]) (hb : Src w0 e0 bv bs rb) (hbl : bs.length ≤ 2000) (hp : 0 ≤ p ∧ p ≤ 500000000) : Ret Try.prog 42 #[Value.pointer (some ⟨rb, 0, none⟩)] w0 (fun v w => (∃ p', (p ≤ p' ∧ p' ≤ p + 300) ∧ Blk w rb 88 [bv, .int .i64 p'] ∧ w0.grownBy w (some rb)) ∧ ∃ a, RowsA w v a ∧ Small 200 a ∧ 0 ≤ a.al ∧ a.al ≤ 63) := by
  have G := World.grownBy.refl w0 (some rb)
  have hlt := hR.lt
  refine Ret.of (args := [Value.pointer (some ⟨rb, 0, none⟩)]) Try.func42 rfl rfl rfl ?_
  rintro _ rfl
  show Cq _ _ _ _ [(0, Value.pointer (some ⟨rb, 0, none⟩))] _
  refine Cq.seq ?_
  refine Cq.region ?_
  refine Sq.alloc zero26 .plain rfl (fun b1 w2 e3 hB4 hlo5 => ?_)
  have hd6 := Nat.lt_of_lt_of_le hR.lt hlo5
  have hd7 := Nat.le_trans (World.grownBy.size G) hlo5
  have hs8 := Below.size e3
  replace hR := hR.ext e3
  replace G := grown_trans G (Ext.to_grown e3 _)
  refine Sq.nil ?_
  refine Eq.next ?_
  refine Cq.seq ?_
  refine Cq.seq ?_
  refine Cq.region ?_
  refine Sq.move .plain rfl rfl ?_
  refine Sq.call fn43 .plain rfl rfl (pick_c _ _ _ _ _ _ hR (hb.go G) hbl (by omega) 3 (by omega)) ?_
  rintro _ w10 ⟨⟨p11, hp14, hB13, g12⟩, ⟨k15, rfl, hk16⟩⟩
  have hs17 := World.grownBy.size g12
  have hs18 := World.grownBy.size G
  have hs19 := World.grownBy.size g12
  replace G := grown_trans G g12
  replace hB4 := hB4.grown g12 (by intro h; injection h with h; omega)
  replace hR := hB13
  refine Sq.eql .plain rfl rfl rfl ?_
  refine Sq.part (fun c20 => ?_) (fun c20 => ?_)
  · refine Sq.nil ?_
    refine Eq.next ?_
    refine Cq.thn rfl ?_
    refine Cq.seq ?_
    refine Cq.region ?_
    refine Sq.move .plain rfl rfl ?_
    have hd28 := hR.lt
    have hd29 := hB4.lt
    refine Sq.call fn86 .plain rfl rfl (l3Texts_c _) ?_
    rintro v21 w22 ⟨⟨xs24, ho25, hl26, hxs27⟩, e23⟩
    have hs30 := World.grownBy.size G
    have hs31 := Below.size e23
    replace hR := hR.ext e23
    replace G := grown_trans G (Ext.to_grown e23 _)
    replace hB4 := hB4.ext e23
    refine Sq.call fn85 .plain rfl rfl (of_c _ _ _ _ _ _ hR (hb.go G) hbl (by omega) _ xs24 (Own.row ho25) (by first | omega | simp)) ?_
    rintro _ w33 ⟨⟨p34, hp37, hB36, g35⟩, ⟨s38, rfl, hm39⟩⟩
    have hs40 := World.grownBy.size g35
    have hs41 := World.grownBy.size G
    have hs42 := World.grownBy.size g35
    replace G := grown_trans G g35
    replace hB4 := hB4.grown g35 (by intro h; injection h with h; omega)
    replace hR := hB36
    have hd55 := hR.lt
    have hd56 := hB4.lt
    refine Sq.call fn84 .plain rfl rfl (parseA_c s38 (by have := hxs27 _ hm39; omega) _) ?_
    rintro _ w44 ⟨⟨u46, ok47, a48, rfl, ⟨nx49, ac50, rfl, hn51, ha52⟩, hsm53, hal54⟩, e45⟩
    have hs57 := World.grownBy.size G
    have hs58 := Below.size e45
    replace hR := hR.ext e45
    replace G := grown_trans G (Ext.to_grown e45 _)
    replace hB4 := hB4.ext e45
    refine Sq.move .plain rfl rfl ?_
    refine Sq.extract .plain rfl rfl rfl ?_
    refine Sq.extract .plain rfl rfl rfl ?_
    refine Sq.alloc zero26 .plain rfl (fun b59 w60 e61 hB62 hlo63 => ?_)
    have hd64 := Nat.lt_of_lt_of_le hR.lt hlo63
    have hd65 := Nat.le_trans (World.grownBy.size G) hlo63
    have hd66 := Nat.lt_of_lt_of_le hB4.lt hlo63
    have hs67 := Below.size e61
    replace hR := hR.ext e61
    replace G := grown_trans G (Ext.to_grown e61 _)
    replace hB4 := hB4.ext e61
    replace hn51 := hn51.ext e61
    replace ha52 := ha52.ext e61
    refine Sq.storeAgg agg26 .plain rfl rfl (one_cons rfl (one_cons (Rows.one (OwnRows.rows hn51)) (one_cons (Row.one (Own.row ha52)) one_nil))) hB62 rfl rfl (fun w68 g69 hB70 => ?_)
    have hs71 := World.grownBy.size g69
    replace hR := hR.grown g69 (by intro h; injection h with h; omega)
    replace G := grown_far G g69 (fun k hk => by injection hk with hk; subst hk; omega)
    replace hB4 := hB4.grown g69 (by intro h; injection h with h; omega)
    replace hn51 := hn51.stored g69 hB62 (by decide) (by decide)
    replace ha52 := ha52.stored g69 hB62 (by decide)
    replace hB62 := hB70
    refine Sq.assign .plain rfl rfl ?_
    refine Sq.nil ?_
    refine Eq.next ?_
    refine Cq.seq ?_
    refine Cq.region ?_
    refine Sq.move .plain rfl rfl ?_
    refine Sq.partB (fun c72 => ?_) (fun c72 => ?_)
    · refine Sq.nil ?_
      refine Eq.next ?_
      refine Cq.thn rfl ?_
      refine Cq.seq ?_
      refine Cq.region ?_
      refine Sq.loadAgg agg26 .plain rfl rfl hB62 rfl ?_
      refine Sq.storeAgg agg26 .plain rfl rfl (one_cons rfl (one_cons (Rows.one (OwnRows.rows hn51)) (one_cons (Row.one (Own.row ha52)) one_nil))) hB4 rfl rfl (fun w73 g74 hB75 => ?_)
      have hs76 := World.grownBy.size g74
      replace hR := hR.grown g74 (by intro h; injection h with h; omega)
      replace G := grown_far G g74 (fun k hk => by injection hk with hk; subst hk; omega)
      replace hn51 := hn51.stored g74 hB4 (by decide) (by decide)
      replace ha52 := ha52.stored g74 hB4 (by decide)
      replace hB4 := hB75
      refine Sq.nil ?_
      refine Eq.next ?_
      refine Cq.ret ?_
      refine Eq.pastRet ?_
      refine Eq.retCell rfl rfl agg26 hB4 rfl ?_
      exact ⟨⟨_, by omega, hR, G⟩, _, ⟨_, _, rfl, (OwnRows.rows hn51), (Own.row ha52)⟩, by first | exact (Small.of hsm53).mono (by omega) | exact Small.mono hsm53 (by omega) | exact (Small.of hsm53).mono (by omega) | exact Small.mono hsm53 (by omega), by omega⟩
    refine Sq.nil ?_
    refine Eq.next ?_
    refine Cq.els rfl ?_
    refine Cq.skip ?_
    refine Eq.next ?_
    refine Cq.seq ?_
    refine Cq.region ?_
    refine Sq.move .plain rfl rfl ?_
    refine Sq.move .plain rfl rfl ?_
    refine Sq.lit sl56 rfl rfl .plain rfl rfl (one_cons rfl (one_cons rfl (one_cons rfl (one_cons rfl (one_cons rfl (one_cons rfl (one_cons rfl one_nil))))))) (fun b77 w78 e79 hlo80 ho81 _ => ?_)
    replace ho81 := ho81 w68.heap.size (Nat.le_refl _)
    have hs83 := Below.size e79
    replace hR := hR.ext e79
    replace G := grown_trans G (Ext.to_grown e79 _)
    replace hB4 := hB4.ext e79
    refine Sq.call fn47 .plain rfl rfl (num_c _ _ _ _ _ _ hR (hb.go G) hbl (by omega) _ [3, 6, 7, 5, 1, 0, 2] (Own.row ho81) (by simp)) ?_
    rintro _ w85 ⟨⟨p86, hp89, hB88, g87⟩, ⟨k90, rfl, hm91⟩⟩
    have hs92 := World.grownBy.size g87
    have hs93 := World.grownBy.size G
    have hs94 := World.grownBy.size g87
    replace G := grown_trans G g87
    replace hB4 := hB4.grown g87 (by intro h; injection h with h; omega)
    replace hR := hB88
    simp only [List.mem_cons, List.not_mem_nil, or_false] at hm91
    refine Sq.call fn87 .plain rfl rfl (l3Over_c _ _ _ _ _ _ hR (hb.go G) hbl (by omega) k90 (by omega)) ?_
    rintro _ w96 ⟨⟨p97, hp100, hB99, g98⟩, ⟨a101, ⟨nx102, ac103, rfl, hn104, ha105⟩, hv106, hal107⟩⟩
    have hs108 := World.grownBy.size g98
    have hs109 := World.grownBy.size G
    have hs110 := World.grownBy.size g98
    replace G := grown_trans G g98
    replace hB4 := hB4.grown g98 (by intro h; injection h with h; omega)
    replace hR := hB99
    refine Sq.storeAgg agg26 .plain rfl rfl (one_cons rfl (one_cons (Rows.one (OwnRows.rows hn104)) (one_cons (Row.one (Own.row ha105)) one_nil))) hB4 rfl rfl (fun w111 g112 hB113 => ?_)
    have hs114 := World.grownBy.size g112
    replace hR := hR.grown g112 (by intro h; injection h with h; omega)
    replace G := grown_far G g112 (fun k hk => by injection hk with hk; subst hk; omega)
    replace hn104 := hn104.stored g112 hB4 (by decide) (by decide)
    replace ha105 := ha105.stored g112 hB4 (by decide)
    replace hB4 := hB113
    refine Sq.nil ?_
    refine Eq.next ?_
    refine Cq.ret ?_
    refine Eq.retCell rfl rfl agg26 hB4 rfl ?_
    exact ⟨⟨_, by omega, hR, G⟩, _, ⟨_, _, rfl, (OwnRows.rows hn104), (Own.row ha105)⟩, by first | exact (Small.of hv106).mono (by omega) | exact Small.mono hv106 (by omega) | exact (Small.of hsm53).mono (by omega) | exact Small.mono hsm53 (by omega) | exact (Small.of hsm53).mono (by omega) | exact Small.mono hsm53 (by omega), by omega⟩
  refine Sq.nil ?_
  refine Eq.next ?_
  refine Cq.els rfl ?_
  refine Cq.skip ?_
  refine Eq.next ?_
  refine Cq.seq ?_
  refine Cq.region ?_
  refine Sq.move .plain rfl rfl ?_
  refine Sq.move .plain rfl rfl ?_
  refine Sq.lit sl56 rfl rfl .plain rfl rfl (one_cons rfl (one_cons rfl (one_cons rfl (one_cons rfl (one_cons rfl (one_cons rfl (one_cons rfl one_nil))))))) (fun b115 w116 e117 hlo118 ho119 _ => ?_)
  replace ho119 := ho119 w10.heap.size (Nat.le_refl _)
  have hs121 := Below.size e117
  replace hR := hR.ext e117
  replace G := grown_trans G (Ext.to_grown e117 _)
  replace hB4 := hB4.ext e117
  refine Sq.call fn47 .plain rfl rfl (num_c _ _ _ _ _ _ hR (hb.go G) hbl (by omega) _ [3, 6, 7, 5, 1, 0, 2] (Own.row ho119) (by simp)) ?_
  rintro _ w123 ⟨⟨p124, hp127, hB126, g125⟩, ⟨k128, rfl, hm129⟩⟩
  have hs130 := World.grownBy.size g125
  have hs131 := World.grownBy.size G
  have hs132 := World.grownBy.size g125
  replace G := grown_trans G g125
  replace hB4 := hB4.grown g125 (by intro h; injection h with h; omega)
  replace hR := hB126
  simp only [List.mem_cons, List.not_mem_nil, or_false] at hm129
  refine Sq.call fn87 .plain rfl rfl (l3Over_c _ _ _ _ _ _ hR (hb.go G) hbl (by omega) k128 (by omega)) ?_
  rintro _ w134 ⟨⟨p135, hp138, hB137, g136⟩, ⟨a139, ⟨nx140, ac141, rfl, hn142, ha143⟩, hv144, hal145⟩⟩
  have hs146 := World.grownBy.size g136
  have hs147 := World.grownBy.size G
  have hs148 := World.grownBy.size g136
  replace G := grown_trans G g136
  replace hB4 := hB4.grown g136 (by intro h; injection h with h; omega)
  replace hR := hB137
  refine Sq.storeAgg agg26 .plain rfl rfl (one_cons rfl (one_cons (Rows.one (OwnRows.rows hn142)) (one_cons (Row.one (Own.row ha143)) one_nil))) hB4 rfl rfl (fun w149 g150 hB151 => ?_)
  have hs152 := World.grownBy.size g150
  replace hR := hR.grown g150 (by intro h; injection h with h; omega)
  replace G := grown_far G g150 (fun k hk => by injection hk with hk; subst hk; omega)
  replace hn142 := hn142.stored g150 hB4 (by decide) (by decide)
  replace ha143 := ha143.stored g150 hB4 (by decide)
  replace hB4 := hB151
  refine Sq.nil ?_
  refine Eq.next ?_
  refine Cq.ret ?_
  refine Eq.retCell rfl rfl agg26 hB4 rfl ?_
  exact ⟨⟨_, by omega, hR, G⟩, _, ⟨_, _, rfl, (OwnRows.rows hn142), (Own.row ha143)⟩, by first | exact (Small.of hv144).mono (by omega) | exact Small.mono hv144 (by omega) | exact (Small.of hv106).mono (by omega) | exact Small.mono hv106 (by omega) | exact (Small.of hsm53).mono (by omega) | exact Small.mono hsm53 (by omega) | exact (Small.of hsm53).mono (by omega) | exact Small.mono hsm53 (by omega), by omega⟩
end Go.Proofs.Ytdejmfkpohgamaa
set_option linter.unusedSimpArgs false
set_option linter.unusedVariables false
namespace Go.Proofs.Ytdejmfkpohgamaa
open Go.RowKit
set_option maxRecDepth 100000 in
theorem l4Change_c (w0 : World) (rb : Nat) (bv : Value) (p : Int) (bs : List UInt8) (e0 : TypeId) (hR : Blk w0 rb 88 [bv, .int .i64 p]) (hb : Src w0 e0 bv bs rb) (hbl : bs.length ≤ 2000) (hp : 0 ≤ p ∧ p ≤ 700000000) (a : A) (nx ac : Value) (hnx : Rows w0 56 3 nx a.next) (hac : Bools w0 4 ac a.acc) (N : Nat) (hN : N ≤ 1000) (hsm : Small N a) : Ret Try.prog 44 #[Value.pointer (some ⟨rb, 0, none⟩), Value.agg #[Value.int .i64 a.al, nx, ac]] w0 (fun v w => (∃ p', (p ≤ p' ∧ p' ≤ p + 10) ∧ Blk w rb 88 [bv, .int .i64 p'] ∧ w0.grownBy w (some rb)) ∧ ∃ a', RowsA w v a' ∧ Small (N + 20) a') := by
  have G := World.grownBy.refl w0 (some rb)
  have hlt := hR.lt
  have hsm1 := hsm.2.1
  have hsm2 := hsm.2.2.1
  refine Ret.of (args := [Value.pointer (some ⟨rb, 0, none⟩), Value.agg #[Value.int .i64 a.al, nx, ac]]) Try.func44 rfl rfl rfl ?_
  rintro _ rfl
  show Cq _ _ _ _ [(0, Value.pointer (some ⟨rb, 0, none⟩)), (1, Value.agg #[Value.int .i64 a.al, nx, ac])] _
  refine Cq.seq ?_
  refine Cq.region ?_
  refine Sq.box .plain rfl rfl (fun b1 w2 e3 hB4 hlo5 => ?_)
  have hd6 := Nat.lt_of_lt_of_le hR.lt hlo5
  have hd7 := Nat.le_trans (World.grownBy.size G) hlo5
  have hs8 := Below.size e3
  replace hR := hR.ext e3
  replace G := grown_trans G (Ext.to_grown e3 _)
  replace hnx := hnx.ext e3
  replace hac := hac.ext e3
  refine Sq.alloc zero26 .plain rfl (fun b9 w10 e11 hB12 hlo13 => ?_)
  have hd14 := Nat.lt_of_lt_of_le hR.lt hlo13
  have hd15 := Nat.le_trans (World.grownBy.size G) hlo13
  have hd16 := Nat.lt_of_lt_of_le hB4.lt hlo13
  have hs17 := Below.size e11
  replace hR := hR.ext e11
  replace G := grown_trans G (Ext.to_grown e11 _)
  replace hnx := hnx.ext e11
  replace hac := hac.ext e11
  replace hB4 := hB4.ext e11
  refine Sq.nil ?_
  refine Eq.next ?_
  refine Cq.seq ?_
  refine Cq.region ?_
  refine Sq.loadAgg agg26 .plain rfl rfl hB4 rfl ?_
  have hd25 := hR.lt
  have hd26 := hB4.lt
  have hd27 := hB12.lt
  refine Sq.call fn88 .plain rfl rfl (l3Copy_c _ a _ _ hnx hac (hsm.fit (by omega))) ?_
  rintro _ w19 ⟨⟨nx21, ac22, rfl, hn23, ha24⟩, e20⟩
  have hs28 := World.grownBy.size G
  have hs29 := Below.size e20
  replace hR := hR.ext e20
  replace G := grown_trans G (Ext.to_grown e20 _)
  replace hB4 := hB4.ext e20
  replace hB12 := hB12.ext e20
  refine Sq.alloc zero26 .plain rfl (fun b30 w31 e32 hB33 hlo34 => ?_)
  have hd35 := Nat.lt_of_lt_of_le hR.lt hlo34
  have hd36 := Nat.le_trans (World.grownBy.size G) hlo34
  have hd37 := Nat.lt_of_lt_of_le hB4.lt hlo34
  have hd38 := Nat.lt_of_lt_of_le hB12.lt hlo34
  have hs39 := Below.size e32
  replace hR := hR.ext e32
  replace G := grown_trans G (Ext.to_grown e32 _)
  replace hB12 := hB12.ext e32
  replace hn23 := hn23.ext e32
  replace ha24 := ha24.ext e32
  refine Sq.storeAgg agg26 .plain rfl rfl (one_cons rfl (one_cons (Rows.one (OwnRows.rows hn23)) (one_cons (Row.one (Own.row ha24)) one_nil))) hB33 rfl rfl (fun w40 g41 hB42 => ?_)
  have hs43 := World.grownBy.size g41
  replace hR := hR.grown g41 (by intro h; injection h with h; omega)
  replace G := grown_far G g41 (fun k hk => by injection hk with hk; subst hk; omega)
  replace hB12 := hB12.grown g41 (by intro h; injection h with h; omega)
  replace hn23 := hn23.stored g41 hB33 (by decide) (by decide)
  replace ha24 := ha24.stored g41 hB33 (by decide)
  replace hB33 := hB42
  refine Sq.nil ?_
  refine Eq.next ?_
  refine Cq.seq ?_
  refine Cq.region ?_
  refine Sq.fieldAddr fld26_1 .plain rfl rfl ?_
  refine Sq.loadB one23 .plain rfl rfl hB33 rfl ?_
  refine Sq.lenRows (OwnRows.rows hn23) .plain rfl und23 rfl ?_
  refine Sq.assign .plain rfl rfl ?_
  refine Sq.nil ?_
  refine Eq.next ?_
  refine Cq.seq ?_
  refine Cq.seq ?_
  refine Cq.region ?_
  refine Sq.move .plain rfl rfl ?_
  refine Sq.eql .plain rfl rfl rfl ?_
  refine Sq.part (fun c44 => ?_) (fun c44 => ?_)
  · refine Sq.nil ?_
    refine Eq.next ?_
    refine Cq.thn rfl ?_
    refine Cq.seq ?_
    refine Cq.region ?_
    refine Sq.loadAgg agg26 .plain rfl rfl hB33 rfl ?_
    refine Sq.storeAgg agg26 .plain rfl rfl (one_cons rfl (one_cons (Rows.one (OwnRows.rows hn23)) (one_cons (Row.one (Own.row ha24)) one_nil))) hB12 rfl rfl (fun w45 g46 hB47 => ?_)
    have hs48 := World.grownBy.size g46
    replace hR := hR.grown g46 (by intro h; injection h with h; omega)
    replace G := grown_far G g46 (fun k hk => by injection hk with hk; subst hk; omega)
    replace hn23 := hn23.stored g46 hB12 (by decide) (by decide)
    replace ha24 := ha24.stored g46 hB12 (by decide)
    replace hB12 := hB47
    refine Sq.nil ?_
    refine Eq.next ?_
    refine Cq.ret ?_
    refine Eq.pastRet ?_
    refine Eq.retCell rfl rfl agg26 hB12 rfl ?_
    exact ⟨⟨_, by omega, hR, G⟩, a, ⟨_, _, rfl, (OwnRows.rows hn23), (Own.row ha24)⟩, hsm.mono (by omega)⟩
  refine Sq.nil ?_
  refine Eq.next ?_
  refine Cq.els rfl ?_
  refine Cq.skip ?_
  refine Eq.next ?_
  refine Cq.seq ?_
  refine Cq.region ?_
  refine Sq.move .plain rfl rfl ?_
  refine Sq.move .plain rfl rfl ?_
  refine Sq.call fn43 .plain rfl rfl (pick_c _ _ _ _ _ _ hR (hb.go G) hbl (by omega) (List.length a.next : Int) (by omega)) ?_
  rintro _ w50 ⟨⟨p51, hp54, hB53, g52⟩, ⟨k55, rfl, hk56⟩⟩
  have hs57 := World.grownBy.size g52
  have hs58 := World.grownBy.size G
  have hs59 := World.grownBy.size g52
  replace G := grown_trans G g52
  replace hB12 := hB12.grown g52 (by intro h; injection h with h; omega)
  replace hn23 := hn23.stored g52 hR (by decide) (by decide)
  replace ha24 := ha24.stored g52 hR (by decide)
  replace hB33 := hB33.grown g52 (by intro h; injection h with h; omega)
  replace hR := hB53
  refine Sq.assign .plain rfl rfl ?_
  refine Sq.nil ?_
  refine Eq.next ?_
  refine Cq.seq ?_
  refine Cq.seq ?_
  refine Cq.region ?_
  refine Sq.move .plain rfl rfl ?_
  refine Sq.call fn43 .plain rfl rfl (pick_c _ _ _ _ _ _ hR (hb.go G) hbl (by omega) 4 (by omega)) ?_
  rintro _ w61 ⟨⟨p62, hp65, hB64, g63⟩, ⟨k66, rfl, hk67⟩⟩
  have hs68 := World.grownBy.size g63
  have hs69 := World.grownBy.size G
  have hs70 := World.grownBy.size g63
  replace G := grown_trans G g63
  replace hB12 := hB12.grown g63 (by intro h; injection h with h; omega)
  replace hn23 := hn23.stored g63 hR (by decide) (by decide)
  replace ha24 := ha24.stored g63 hR (by decide)
  replace hB33 := hB33.grown g63 (by intro h; injection h with h; omega)
  replace hR := hB64
  refine Sq.nil ?_
  refine Eq.next ?_
  refine Cq.block ?_
  refine Cq.seq ?_
  refine Cq.region ?_
  refine Sq.eql .plain rfl rfl rfl ?_
  refine Sq.part (fun c71 => ?_) (fun c71 => ?_)
  · refine Sq.assign .plain rfl rfl ?_
    refine Sq.nil ?_
    refine Eq.next ?_
    refine Cq.thn rfl ?_
    refine Cq.seq ?_
    refine Cq.region ?_
    have hrowk := hsm.rowAt (k := k55.toNat)
    refine Sq.fieldAddr fld26_2 .plain rfl rfl ?_
    refine Sq.loadB one24 .plain rfl rfl hB33 rfl ?_
    refine Sq.lenBools (Own.row ha24) .plain rfl und24 rfl ?_
    refine Sq.move .plain rfl rfl ?_
    refine Sq.gtr .plain rfl rfl rfl ?_
    refine Sq.part (fun c72 => ?_) (fun c72 => ?_)
    · refine Sq.nil ?_
      refine Eq.next ?_
      refine Cq.thn rfl ?_
      refine Cq.draw 9 none mixed (fun w73 e74 => ?_)
      have hs75 := Below.size e74
      replace hR := hR.ext e74
      replace G := grown_trans G (Ext.to_grown e74 _)
      replace hB12 := hB12.ext e74
      replace hn23 := hn23.ext e74
      replace ha24 := ha24.ext e74
      replace hB33 := hB33.ext e74
      have ha24_w73 := ha24
      have hB33_w73 := hB33
      refine Gq.st 0 rfl (by kernel_rfl) rfl .plain rfl (fun _ _ _ h => h) (World.grownBy.refl w73 _) (fun w' x => Still.fieldAddr fld26_2 rfl) ?_
      refine Gq.st 1 rfl (by kernel_rfl) rfl .plain rfl (fun _ _ _ h => h) (World.grownBy.refl w73 _) (fun w' x => Still.loadB one24 rfl (hB33_w73.ext (Ext.of_grown x)) rfl) ?_
      refine Gq.st 2 rfl (by kernel_rfl) rfl .plain rfl (fun _ _ _ h => h) (World.grownBy.refl w73 _) (fun w' x => Still.move rfl) ?_
      refine Gq.st 3 rfl (by kernel_rfl) rfl .plain rfl (fun _ _ _ h => h) (World.grownBy.refl w73 _) (fun w' x => Still.fieldAddr fld26_2 rfl) ?_
      refine Gq.st 4 rfl (by kernel_rfl) rfl .plain rfl (fun _ _ _ h => h) (World.grownBy.refl w73 _) (fun w' x => Still.loadB one24 rfl (hB33_w73.ext (Ext.of_grown x)) rfl) ?_
      refine Gq.st 5 rfl (by kernel_rfl) rfl .plain rfl (fun _ _ _ h => h) (World.grownBy.refl w73 _) (fun w' x => Still.move rfl) ?_
      obtain ⟨p76, hp77_w73⟩ := Bools.at (Own.row ha24_w73) (i := k55) (by omega) (by omega)
      have hp77o := AtO.of ha24_w73 hp77_w73
      refine Gq.st 6 rfl (by kernel_rfl) rfl .plain rfl (fun _ _ _ h => h) (World.grownBy.refl w73 _) (fun w' x => Still.at' sl24 hp77_w73 rfl rfl) ?_
      refine Gq.st 7 rfl (by kernel_rfl) rfl .plain rfl (fun _ _ _ h => h) (World.grownBy.refl w73 _) (fun w' x => Still.loadA one4 rfl (hp77_w73.ext (Ext.of_grown x)).1) ?_
      refine Gq.st 8 rfl (by kernel_rfl) rfl .plain rfl (fun _ _ _ h => h) (World.grownBy.refl w73 _) (fun w' x => Still.not rfl) ?_
      refine Gq.one 9 rfl (by kernel_rfl) ?_
      obtain ⟨p78, hp79o⟩ := Own.at ha24 (i := k55) (by omega) (by first | (simp only [List.length_map]; omega) | (simp; omega))
      refine Sq.atO sl24 hp79o .plain rfl rfl rfl ?_
      refine Sq.nil ?_
      refine Eq.goes (fun h => absurd h (by decide)) ?_
      refine Gq.one 10 rfl (by kernel_rfl) ?_
      refine Sq.storeO one4 ha24 hp79o .plain rfl rfl rfl (fun w80 g81 ho82 => ?_)
      have hs83 := World.grownBy.size g81
      replace hR := hR.owned ha24 g81 (by decide)
      replace G := grown_new G ha24 g81 (by omega)
      replace hB12 := hB12.owned ha24 g81 (by decide)
      replace hn23 := hn23.owned ha24 g81 (by decide) (by decide)
      replace hB33 := hB33.owned ha24 g81 (by decide)
      replace ha24 := ho82
      refine Sq.nil ?_
      refine Eq.goes (fun h => absurd h (by decide)) ?_
      refine Gq.done (by kernel_rfl) ?_
      refine Eq.end ?_
      refine Eq.next ?_
      refine Cq.seq ?_
      refine Cq.region ?_
      refine Sq.loadAgg agg26 .plain rfl rfl hB33 rfl ?_
      refine Sq.storeAgg agg26 .plain rfl rfl (one_cons rfl (one_cons (Rows.one (OwnRows.rows hn23)) (one_cons (Row.one (Own.row ha24)) one_nil))) hB12 rfl rfl (fun w84 g85 hB86 => ?_)
      have hs87 := World.grownBy.size g85
      replace hR := hR.grown g85 (by intro h; injection h with h; omega)
      replace G := grown_far G g85 (fun k hk => by injection hk with hk; subst hk; omega)
      replace hn23 := hn23.stored g85 hB12 (by decide) (by decide)
      replace ha24 := ha24.stored g85 hB12 (by decide)
      replace hB12 := hB86
      refine Sq.nil ?_
      refine Eq.next ?_
      refine Cq.ret ?_
      refine Eq.retCell rfl rfl agg26 hB12 rfl ?_
      exact ⟨⟨_, by omega, hR, G⟩, ⟨a.al, a.next, a.acc.set k55.toNat (!(a.acc.getD k55.toNat false))⟩, ⟨_, _, rfl, (OwnRows.rows hn23), (Own.row (Own.setB ha24))⟩, hsm.accs (by omega) (List.length_set ..)⟩
    refine Sq.nil ?_
    refine Eq.next ?_
    refine Cq.els rfl ?_
    refine Cq.skip ?_
    refine Eq.end ?_
    refine Eq.next ?_
    refine Cq.seq ?_
    refine Cq.region ?_
    refine Sq.loadAgg agg26 .plain rfl rfl hB33 rfl ?_
    refine Sq.storeAgg agg26 .plain rfl rfl (one_cons rfl (one_cons (Rows.one (OwnRows.rows hn23)) (one_cons (Row.one (Own.row ha24)) one_nil))) hB12 rfl rfl (fun w88 g89 hB90 => ?_)
    have hs91 := World.grownBy.size g89
    replace hR := hR.grown g89 (by intro h; injection h with h; omega)
    replace G := grown_far G g89 (fun k hk => by injection hk with hk; subst hk; omega)
    replace hn23 := hn23.stored g89 hB12 (by decide) (by decide)
    replace ha24 := ha24.stored g89 hB12 (by decide)
    replace hB12 := hB90
    refine Sq.nil ?_
    refine Eq.next ?_
    refine Cq.ret ?_
    refine Eq.retCell rfl rfl agg26 hB12 rfl ?_
    exact ⟨⟨_, by omega, hR, G⟩, a, ⟨_, _, rfl, (OwnRows.rows hn23), (Own.row ha24)⟩, hsm.mono (by omega)⟩
  refine Sq.assign .plain rfl rfl ?_
  refine Sq.nil ?_
  refine Eq.next ?_
  refine Cq.els rfl ?_
  refine Cq.seq ?_
  refine Cq.region ?_
  have hrowk := hsm.rowAt (k := k55.toNat)
  refine Sq.eql .plain rfl rfl rfl ?_
  refine Sq.part (fun c92 => ?_) (fun c92 => ?_)
  · refine Sq.assign .plain rfl rfl ?_
    refine Sq.nil ?_
    refine Eq.next ?_
    refine Cq.thn rfl ?_
    refine Cq.seq ?_
    refine Cq.region ?_
    refine Sq.fieldAddr fld26_1 .plain rfl rfl ?_
    refine Sq.loadB one23 .plain rfl rfl hB33 rfl ?_
    refine Sq.move .plain rfl rfl ?_
    refine Sq.idxRows sl23 one56 (OwnRows.rows hn23) .plain rfl rfl rfl .plain rfl rfl (by omega) (by omega) (fun r93 hr94 => ?_)
    refine Sq.lenInts hr94 .plain rfl und56 rfl ?_
    refine Sq.gtr .plain rfl rfl rfl ?_
    refine Sq.part (fun c95 => ?_) (fun c95 => ?_)
    · refine Sq.nil ?_
      refine Eq.next ?_
      refine Cq.thn rfl ?_
      obtain ⟨pA, rA, hpA, _⟩ := Rows.at (OwnRows.rows hn23) (i := k55) (by omega) (by omega)
      have hrA := (OwnRows.rowAt hn23 hpA).1
      obtain ⟨_, hoA, _, _⟩ := OwnRows.open hn23 (by decide)
      have hpAo := AtO.of hoA hpA
      refine Cq.drawS 16 (fun w' => Blk w' b30 26 [Value.int .i64 a.al, nx21, ac22] ∧ At w' 56 nx21 k55 pA rA) mixed (⟨hB33, hpA⟩) (fun w96 e97 hS => ?_)
      clear hS
      have hs98 := Below.size e97
      replace hR := hR.ext e97
      replace G := grown_trans G (Ext.to_grown e97 _)
      replace hB12 := hB12.ext e97
      replace hn23 := hn23.ext e97
      replace ha24 := ha24.ext e97
      replace hB33 := hB33.ext e97
      replace hpA := hpA.ext e97
      replace hrA := hrA.ext e97
      refine Gq.st 0 rfl (by kernel_rfl) rfl .plain rfl (fun _ _ _ h => h) ⟨hB33, hpA⟩ (fun w' x => Still.fieldAddr fld26_1 rfl) ?_
      refine Gq.st 1 rfl (by kernel_rfl) rfl .plain rfl (fun _ _ _ h => h) ⟨hB33, hpA⟩ (fun w' x => Still.loadB one23 rfl x.1 rfl) ?_
      refine Gq.st 2 rfl (by kernel_rfl) rfl .plain rfl (fun _ _ _ h => h) ⟨hB33, hpA⟩ (fun w' x => Still.move rfl) ?_
      refine Gq.st 3 rfl (by kernel_rfl) rfl .plain rfl (fun _ _ _ h => h) ⟨hB33, hpA⟩ (fun w' x => Still.at' sl23 hpA rfl rfl) ?_
      refine Gq.st 4 rfl (by kernel_rfl) rfl .plain rfl (fun _ _ _ h => h) ⟨hB33, hpA⟩ (fun w' x => Still.loadA one56 rfl (x.2).1) ?_
      refine Gq.st 5 rfl (by kernel_rfl) rfl .plain rfl (fun _ _ _ h => h) ⟨hB33, hpA⟩ (fun w' x => Still.move rfl) ?_
      refine Gq.st 6 rfl (by kernel_rfl) rfl .plain rfl (fun _ _ _ h => h) ⟨hB33, hpA⟩ (fun w' x => Still.fieldAddr fld26_1 rfl) ?_
      refine Gq.st 7 rfl (by kernel_rfl) rfl .plain rfl (fun _ _ _ h => h) ⟨hB33, hpA⟩ (fun w' x => Still.loadB one23 rfl x.1 rfl) ?_
      refine Gq.st 8 rfl (by kernel_rfl) rfl .plain rfl (fun _ _ _ h => h) ⟨hB33, hpA⟩ (fun w' x => Still.move rfl) ?_
      refine Gq.st 9 rfl (by kernel_rfl) rfl .plain rfl (fun _ _ _ h => h) ⟨hB33, hpA⟩ (fun w' x => Still.at' sl23 hpA rfl rfl) ?_
      refine Gq.st 10 rfl (by kernel_rfl) rfl .plain rfl (fun _ _ _ h => h) ⟨hB33, hpA⟩ (fun w' x => Still.loadA one56 rfl (x.2).1) ?_
      refine Gq.st 13 rfl (by kernel_rfl) rfl .plain rfl (fun _ _ _ h => h) ⟨hB33, hpA⟩ (fun w' x => Still.move rfl) ?_
      refine Gq.st 14 rfl (by kernel_rfl) rfl .plain rfl (fun _ _ _ h => h) ⟨hB33, hpA⟩ (fun w' x => Still.move rfl) ?_
      refine Gq.one 11 rfl (by kernel_rfl) ?_
      refine Sq.lenInts (Own.row hrA) .plain rfl und56 rfl ?_
      refine Sq.nil ?_
      refine Eq.goes (fun _ => ⟨hB33, hpA⟩) ?_
      refine Gq.one 12 rfl (by kernel_rfl) ?_
      refine Sq.call fn43 .plain rfl rfl (pick_c _ _ _ _ _ _ hR (hb.go G) hbl (by omega) ((List.length (a.next.getD k55.toNat []) : Int)) (by omega)) ?_
      rintro _ w100 ⟨⟨p101, hp104, hB103, g102⟩, ⟨k105, rfl, hk106⟩⟩
      have hs107 := World.grownBy.size g102
      have hs108 := World.grownBy.size G
      have hs109 := World.grownBy.size g102
      replace G := grown_trans G g102
      replace hB12 := hB12.grown g102 (by intro h; injection h with h; omega)
      replace hn23 := hn23.stored g102 hR (by decide) (by decide)
      replace ha24 := ha24.stored g102 hR (by decide)
      replace hB33 := hB33.grown g102 (by intro h; injection h with h; omega)
      replace hpA := hpA.stored g102 hR (by decide)
      replace hrA := hrA.stored g102 hR (by decide)
      replace hR := hB103
      refine Sq.nil ?_
      refine Eq.goes (fun _ => ⟨hB33, hpA⟩) ?_
      refine Gq.one 15 rfl (by kernel_rfl) ?_
      refine Sq.call fn43 .plain rfl rfl (pick_c _ _ _ _ _ _ hR (hb.go G) hbl (by omega) (List.length a.next : Int) (by omega)) ?_
      rintro _ w111 ⟨⟨p112, hp115, hB114, g113⟩, ⟨k116, rfl, hk117⟩⟩
      have hs118 := World.grownBy.size g113
      have hs119 := World.grownBy.size G
      have hs120 := World.grownBy.size g113
      replace G := grown_trans G g113
      replace hB12 := hB12.grown g113 (by intro h; injection h with h; omega)
      replace hn23 := hn23.stored g113 hR (by decide) (by decide)
      replace ha24 := ha24.stored g113 hR (by decide)
      replace hB33 := hB33.grown g113 (by intro h; injection h with h; omega)
      replace hpA := hpA.stored g113 hR (by decide)
      replace hrA := hrA.stored g113 hR (by decide)
      replace hR := hB114
      refine Sq.nil ?_
      refine Eq.goes (fun _ => ⟨hB33, hpA⟩) ?_
      refine Gq.one 16 rfl (by kernel_rfl) ?_
      obtain ⟨p121, hp122o⟩ := Own.at hrA (i := k105) (by omega) (by first | (simp only [List.length_map]; omega) | (simp; omega))
      refine Sq.atO sl56 hp122o .plain rfl rfl rfl ?_
      refine Sq.nil ?_
      refine Eq.goes (fun h => absurd h (by decide)) ?_
      refine Gq.one 17 rfl (by kernel_rfl) ?_
      refine Sq.storeO one3 hrA hp122o .plain rfl rfl rfl (fun w123 g124 ho125 => ?_)
      have hs126 := World.grownBy.size g124
      rw [← List.map_set] at ho125
      replace hn23 := (OwnRows.set hn23 (by decide) hpA ho125 g124).1
      replace hR := hR.owned hrA g124 (by decide)
      replace G := grown_new G hrA g124 (by omega)
      replace hB12 := hB12.owned hrA g124 (by decide)
      replace ha24 := ha24.owned hrA g124 (by decide)
      replace hB33 := hB33.owned hrA g124 (by decide)
      refine Sq.nil ?_
      refine Eq.goes (fun h => absurd h (by decide)) ?_
      refine Gq.done (by kernel_rfl) ?_
      refine Eq.end ?_
      refine Eq.next ?_
      refine Cq.seq ?_
      refine Cq.region ?_
      refine Sq.loadAgg agg26 .plain rfl rfl hB33 rfl ?_
      refine Sq.storeAgg agg26 .plain rfl rfl (one_cons rfl (one_cons (Rows.one (OwnRows.rows hn23)) (one_cons (Row.one (Own.row ha24)) one_nil))) hB12 rfl rfl (fun w127 g128 hB129 => ?_)
      have hs130 := World.grownBy.size g128
      replace hR := hR.grown g128 (by intro h; injection h with h; omega)
      replace G := grown_far G g128 (fun k hk => by injection hk with hk; subst hk; omega)
      replace hn23 := hn23.stored g128 hB12 (by decide) (by decide)
      replace ha24 := ha24.stored g128 hB12 (by decide)
      replace hB12 := hB129
      refine Sq.nil ?_
      refine Eq.next ?_
      refine Cq.ret ?_
      refine Eq.retCell rfl rfl agg26 hB12 rfl ?_
      exact ⟨⟨_, by omega, hR, G⟩, ⟨a.al, a.next.set k55.toNat ((a.next.getD k55.toNat []).set k105.toNat k116), a.acc⟩, ⟨_, _, rfl, (OwnRows.rows hn23), (Own.row ha24)⟩, hsm.row (by omega) (by rw [List.length_set]; have := hsm.rowAt (k := k55.toNat); omega)⟩
    refine Sq.nil ?_
    refine Eq.next ?_
    refine Cq.els rfl ?_
    refine Cq.skip ?_
    refine Eq.end ?_
    refine Eq.next ?_
    refine Cq.seq ?_
    refine Cq.region ?_
    refine Sq.loadAgg agg26 .plain rfl rfl hB33 rfl ?_
    refine Sq.storeAgg agg26 .plain rfl rfl (one_cons rfl (one_cons (Rows.one (OwnRows.rows hn23)) (one_cons (Row.one (Own.row ha24)) one_nil))) hB12 rfl rfl (fun w131 g132 hB133 => ?_)
    have hs134 := World.grownBy.size g132
    replace hR := hR.grown g132 (by intro h; injection h with h; omega)
    replace G := grown_far G g132 (fun k hk => by injection hk with hk; subst hk; omega)
    replace hn23 := hn23.stored g132 hB12 (by decide) (by decide)
    replace ha24 := ha24.stored g132 hB12 (by decide)
    replace hB12 := hB133
    refine Sq.nil ?_
    refine Eq.next ?_
    refine Cq.ret ?_
    refine Eq.retCell rfl rfl agg26 hB12 rfl ?_
    exact ⟨⟨_, by omega, hR, G⟩, a, ⟨_, _, rfl, (OwnRows.rows hn23), (Own.row ha24)⟩, hsm.mono (by omega)⟩
  refine Sq.assign .plain rfl rfl ?_
  refine Sq.nil ?_
  refine Eq.next ?_
  refine Cq.els rfl ?_
  refine Cq.seq ?_
  refine Cq.region ?_
  refine Sq.eql .plain rfl rfl rfl ?_
  refine Sq.part (fun c135 => ?_) (fun c135 => ?_)
  · refine Sq.assign .plain rfl rfl ?_
    refine Sq.nil ?_
    refine Eq.next ?_
    refine Cq.thn rfl ?_
    refine Cq.seq ?_
    refine Cq.region ?_
    refine Sq.move .plain rfl rfl ?_
    refine Sq.lss .plain rfl rfl rfl ?_
    refine Sq.part (fun c136 => ?_) (fun c136 => ?_)
    · refine Sq.move .plain rfl rfl ?_
      refine Sq.fieldAddr fld26_2 (.met rfl rfl rfl) rfl rfl ?_
      refine Sq.loadB one24 (.met rfl rfl rfl) rfl rfl hB33 rfl ?_
      refine Sq.lenBools (Own.row ha24) (.met rfl rfl rfl) rfl und24 rfl ?_
      refine Sq.move (.met rfl rfl rfl) rfl rfl ?_
      refine Sq.gtr (.met rfl rfl rfl) rfl rfl rfl ?_
      refine Sq.part (fun c137 => ?_) (fun c137 => ?_)
      · refine Sq.pickT .plain rfl rfl rfl ?_
        refine Sq.move .plain rfl rfl ?_
        refine Sq.fieldAddr fld26_1 (.met rfl rfl rfl) rfl rfl ?_
        refine Sq.loadB one23 (.met rfl rfl rfl) rfl rfl hB33 rfl ?_
        refine Sq.move (.met rfl rfl rfl) rfl rfl ?_
        refine Sq.idxRows sl23 one56 (OwnRows.rows hn23) (.met rfl rfl rfl) rfl rfl rfl (.met rfl rfl rfl) rfl rfl (by omega) (by omega) (fun r138 hr139 => ?_)
        refine Sq.lenInts hr139 (.met rfl rfl rfl) rfl und56 rfl ?_
        refine Sq.gtr (.met rfl rfl rfl) rfl rfl rfl ?_
        refine Sq.part (fun c140 => ?_) (fun c140 => ?_)
        · refine Sq.pickT .plain rfl rfl rfl ?_
          refine Sq.nil ?_
          refine Eq.next ?_
          refine Cq.thn rfl ?_
          refine Cq.seq ?_
          obtain ⟨pA, rA, hpA, _⟩ := Rows.at (OwnRows.rows hn23) (i := k55) (by omega) (by omega)
          have hrA := (OwnRows.rowAt hn23 hpA).1
          obtain ⟨_, hoA, _, _⟩ := OwnRows.open hn23 (by decide)
          have hpAo := AtO.of hoA hpA
          refine Cq.drawS 11 (fun w' => Blk w' b30 26 [Value.int .i64 a.al, nx21, ac22]) mixed (hB33) (fun w141 e142 hS => ?_)
          clear hS
          have hs143 := Below.size e142
          replace hR := hR.ext e142
          replace G := grown_trans G (Ext.to_grown e142 _)
          replace hB12 := hB12.ext e142
          replace hn23 := hn23.ext e142
          replace ha24 := ha24.ext e142
          replace hB33 := hB33.ext e142
          replace hpA := hpA.ext e142
          replace hrA := hrA.ext e142
          refine Gq.st 0 rfl (by kernel_rfl) rfl .plain rfl (fun _ _ _ h => h) hB33 (fun w' x => Still.fieldAddr fld26_1 rfl) ?_
          refine Gq.st 1 rfl (by kernel_rfl) rfl .plain rfl (fun _ _ _ h => h) hB33 (fun w' x => Still.loadB one23 rfl x rfl) ?_
          refine Gq.st 3 rfl (by kernel_rfl) rfl .plain rfl (fun _ _ _ h => h) hB33 (fun w' x => Still.fieldAddr fld26_1 rfl) ?_
          refine Gq.st 4 rfl (by kernel_rfl) rfl .plain rfl (fun _ _ _ h => h) hB33 (fun w' x => Still.loadB one23 rfl x rfl) ?_
          refine Gq.st 5 rfl (by kernel_rfl) rfl .plain rfl (fun _ _ _ h => h) hB33 (fun w' x => Still.move rfl) ?_
          refine Gq.st 6 rfl (by kernel_rfl) rfl .plain rfl (fun _ _ _ h => h) hB33 (fun w' x => Still.at' sl23 hpA rfl rfl) ?_
          refine Gq.two 2 7 rfl rfl (by kernel_rfl) ?_ ?_
          · refine Sq.lit sl56 rfl rfl .plain rfl rfl one_nil (fun b144 w145 e146 hlo147 ho148 _ => ?_)
            replace ho148 := ho148 w141.heap.size (Nat.le_refl _)
            have hs150 := Below.size e146
            replace hR := hR.ext e146
            replace G := grown_trans G (Ext.to_grown e146 _)
            replace hB12 := hB12.ext e146
            replace hn23 := hn23.ext e146
            replace ha24 := ha24.ext e146
            replace hB33 := hB33.ext e146
            replace hpA := hpA.ext e146
            replace hrA := hrA.ext e146
            refine Sq.nil ?_
            refine Eq.goes (fun _ => hB33) ?_
            refine Gq.one 7 rfl (by kernel_rfl) ?_
            refine Sq.val .plain rfl rfl (Still.loadA one56 rfl hpA.1) ?_
            refine Sq.nil ?_
            refine Eq.goes (fun _ => hB33) ?_
            refine Gq.one 8 rfl (by kernel_rfl) ?_
            refine Sq.app sl56 ho148 (by omega) (Own.row hrA) (one_ints _) (by rw [List.length_map]; simp only [List.length_nil, Nat.zero_add]; omega) .plain rfl rfl rfl rfl (fun v151 w152 ho154 g153 => ?_)
            have hs155 := g153.size
            replace hR := hR.owned ho148 g153 (by decide)
            replace G := grown_new G ho148 g153 (by omega)
            replace hB12 := hB12.owned ho148 g153 (by decide)
            replace hn23 := hn23.apart ho148 g153 (by omega) (by decide)
            replace ha24 := ha24.owned ho148 g153 (by decide)
            replace hB33 := hB33.owned ho148 g153 (by decide)
            simp only [List.nil_append] at ho154
            refine Sq.nil ?_
            refine Eq.goes (fun _ => hB33) ?_
            refine Gq.one 9 rfl (by kernel_rfl) ?_
            refine Sq.lit sl23 rfl rfl .plain rfl rfl (one_cons (Row.one (Own.row ho154)) one_nil) (fun b156 w157 e158 hlo159 ho160 _ => ?_)
            replace ho160 := ho160 w152.heap.size (Nat.le_refl _)
            have hs162 := Below.size e158
            replace hR := hR.ext e158
            replace G := grown_trans G (Ext.to_grown e158 _)
            replace hB12 := hB12.ext e158
            replace hn23 := hn23.ext e158
            replace ha24 := ha24.ext e158
            replace hB33 := hB33.ext e158
            replace ho154 := ho154.ext e158
            refine Sq.nil ?_
            refine Eq.goes (fun _ => hB33) ?_
            refine Gq.one 10 rfl (by kernel_rfl) ?_
            obtain ⟨rs167, q168, q169, q170⟩ := OwnRows.open hn23 (by decide)
            have q170x := Ext.refl w157
            refine Sq.app sl23 q168 (by omega) (Own.row ho160) (one_cons (Row.one (Own.row ho154)) one_nil) (by rw [q169]; first | omega | (simp; omega)) .plain rfl rfl rfl rfl (fun v163 w164 ho166 g165 => ?_)
            have hs171 := g165.size
            have ho166r := q170 _ (a.next.getD k55.toNat []) _ _ _ (Ext.refl _) (Own.mono ho154 (by omega)) (by omega) ho166 g165
            replace hR := hR.owned q168 g165 (by decide)
            replace G := grown_new G q168 g165 (by omega)
            replace hB12 := hB12.owned q168 g165 (by decide)
            replace ha24 := ha24.owned q168 g165 (by decide)
            replace hB33 := hB33.owned q168 g165 (by decide)
            refine Sq.nil ?_
            refine Eq.goes (fun _ => hB33) ?_
            refine Gq.one 11 rfl (by kernel_rfl) ?_
            refine Sq.fieldAddr fld26_1 .plain rfl rfl ?_
            refine Sq.nil ?_
            refine Eq.goes (fun h => absurd h (by decide)) ?_
            refine Gq.one 12 rfl (by kernel_rfl) ?_
            refine Sq.store one23 .plain rfl rfl (Rows.one (OwnRows.rows ho166r)) hB33 (by simp) (fun w172 g173 hB174 => ?_)
            have hs175 := World.grownBy.size g173
            replace hR := hR.grown g173 (by intro h; injection h with h; omega)
            replace G := grown_far G g173 (fun k hk => by injection hk with hk; subst hk; omega)
            replace hB12 := hB12.grown g173 (by intro h; injection h with h; omega)
            replace ha24 := ha24.stored g173 hB33 (by decide)
            replace ho166r := ho166r.stored g173 hB33 (by decide) (by decide)
            replace hB33 := hB174
            refine Sq.nil ?_
            refine Eq.goes (fun h => absurd h (by decide)) ?_
            refine Gq.done (by kernel_rfl) ?_
            refine Eq.next ?_
            refine Cq.seq ?_
            refine Cq.drawS 9 (fun w' => Blk w' b30 26 [Value.int .i64 a.al, v163, ac22]) mixed (hB33) (fun w176 e177 hS => ?_)
            clear hS
            have hs178 := Below.size e177
            replace hR := hR.ext e177
            replace G := grown_trans G (Ext.to_grown e177 _)
            replace hB12 := hB12.ext e177
            replace ha24 := ha24.ext e177
            replace hB33 := hB33.ext e177
            replace ho166r := ho166r.ext e177
            refine Gq.st 0 rfl (by kernel_rfl) rfl .plain rfl (fun _ _ _ h => h) hB33 (fun w' x => Still.fieldAddr fld26_2 rfl) ?_
            refine Gq.st 1 rfl (by kernel_rfl) rfl .plain rfl (fun _ _ _ h => h) hB33 (fun w' x => Still.loadB one24 rfl x rfl) ?_
            refine Gq.st 2 rfl (by kernel_rfl) rfl .plain rfl (fun _ _ _ h => h) hB33 (fun w' x => Still.fieldAddr fld26_2 rfl) ?_
            refine Gq.st 3 rfl (by kernel_rfl) rfl .plain rfl (fun _ _ _ h => h) hB33 (fun w' x => Still.loadB one24 rfl x rfl) ?_
            refine Gq.st 4 rfl (by kernel_rfl) rfl .plain rfl (fun _ _ _ h => h) hB33 (fun w' x => Still.move rfl) ?_
            refine Gq.one 5 rfl (by kernel_rfl) ?_
            obtain ⟨p179, hp180⟩ := Bools.at (Own.row ha24) (i := k55) (by omega) (by omega)
            refine Sq.val .plain rfl rfl (Still.at' sl24 hp180 rfl rfl) ?_
            refine Sq.nil ?_
            refine Eq.goes (fun _ => hB33) ?_
            refine Gq.one 6 rfl (by kernel_rfl) ?_
            refine Sq.val .plain rfl rfl (Still.loadA one4 rfl hp180.1) ?_
            refine Sq.nil ?_
            refine Eq.goes (fun _ => hB33) ?_
            refine Gq.one 7 rfl (by kernel_rfl) ?_
            refine Sq.lit sl24 rfl rfl .plain rfl rfl (one_cons rfl one_nil) (fun b181 w182 e183 hlo184 ho185 _ => ?_)
            replace ho185 := ho185 w176.heap.size (Nat.le_refl _)
            have hs187 := Below.size e183
            replace hR := hR.ext e183
            replace G := grown_trans G (Ext.to_grown e183 _)
            replace hB12 := hB12.ext e183
            replace ha24 := ha24.ext e183
            replace hB33 := hB33.ext e183
            replace ho166r := ho166r.ext e183
            refine Sq.nil ?_
            refine Eq.goes (fun _ => hB33) ?_
            refine Gq.one 8 rfl (by kernel_rfl) ?_
            refine Sq.app sl24 ha24 (by omega) (Own.row ho185) (one_cons rfl one_nil) (by first | omega | (simp; omega)) .plain rfl rfl rfl rfl (fun v188 w189 ho191 g190 => ?_)
            have hs192 := g190.size
            replace hR := hR.owned ha24 g190 (by decide)
            replace G := grown_new G ha24 g190 (by omega)
            replace hB12 := hB12.owned ha24 g190 (by decide)
            replace hB33 := hB33.owned ha24 g190 (by decide)
            replace ho166r := ho166r.owned ha24 g190 (by decide) (by decide)
            refine Sq.nil ?_
            refine Eq.goes (fun _ => hB33) ?_
            refine Gq.one 9 rfl (by kernel_rfl) ?_
            refine Sq.fieldAddr fld26_2 .plain rfl rfl ?_
            refine Sq.nil ?_
            refine Eq.goes (fun h => absurd h (by decide)) ?_
            refine Gq.one 10 rfl (by kernel_rfl) ?_
            refine Sq.store one24 .plain rfl rfl (Row.one (Own.row ho191)) hB33 (by simp) (fun w193 g194 hB195 => ?_)
            have hs196 := World.grownBy.size g194
            replace hR := hR.grown g194 (by intro h; injection h with h; omega)
            replace G := grown_far G g194 (fun k hk => by injection hk with hk; subst hk; omega)
            replace hB12 := hB12.grown g194 (by intro h; injection h with h; omega)
            replace ho166r := ho166r.stored g194 hB33 (by decide) (by decide)
            replace ho191 := ho191.stored g194 hB33 (by decide)
            replace hB33 := hB195
            refine Sq.nil ?_
            refine Eq.goes (fun h => absurd h (by decide)) ?_
            refine Gq.done (by kernel_rfl) ?_
            refine Eq.next ?_
            refine Cq.region ?_
            refine Sq.fieldAddr fld26_1 .plain rfl rfl ?_
            refine Sq.loadB one23 .plain rfl rfl hB33 rfl ?_
            refine Sq.move .plain rfl rfl ?_
            obtain ⟨p197, r199, hp198, _⟩ := Rows.at (OwnRows.rows ho166r) (i := k55) (by first | omega | (simp only [List.length_append, List.length_singleton]; omega)) (by first | omega | (simp only [List.length_append, List.length_singleton]; omega))
            have hr200 := (OwnRows.rowAt ho166r hp198).1
            refine Sq.val .plain rfl rfl (Still.at' sl23 hp198 rfl rfl) ?_
            refine Sq.val .plain rfl rfl (Still.loadA one56 rfl hp198.1) ?_
            refine Sq.move .plain rfl rfl ?_
            obtain ⟨p201, hp202o⟩ := Own.at hr200 (i := 0) (by first | omega | (rw [getD_app (by omega)]; omega)) (by first | (simp only [List.length_map]; first | omega | (rw [getD_app (by omega)]; omega)) | (simp; first | omega | (rw [getD_app (by omega)]; omega)))
            refine Sq.atO sl56 hp202o .plain rfl rfl rfl ?_
            refine Sq.storeO one3 hr200 hp202o .plain rfl rfl rfl (fun w203 g204 ho205 => ?_)
            have hs206 := World.grownBy.size g204
            rw [← List.map_set] at ho205
            replace ho166r := (OwnRows.set ho166r (by decide) hp198 ho205 g204).1
            replace hR := hR.owned hr200 g204 (by decide)
            replace G := grown_new G hr200 g204 (by omega)
            replace hB12 := hB12.owned hr200 g204 (by decide)
            replace hB33 := hB33.owned hr200 g204 (by decide)
            replace ho191 := ho191.owned hr200 g204 (by decide)
            refine Sq.nil ?_
            refine Eq.end ?_
            refine Eq.next ?_
            refine Cq.seq ?_
            refine Cq.region ?_
            refine Sq.loadAgg agg26 .plain rfl rfl hB33 rfl ?_
            refine Sq.storeAgg agg26 .plain rfl rfl (one_cons rfl (one_cons (Rows.one (OwnRows.rows ho166r)) (one_cons (Row.one (Own.row ho191)) one_nil))) hB12 rfl rfl (fun w207 g208 hB209 => ?_)
            have hs210 := World.grownBy.size g208
            replace hR := hR.grown g208 (by intro h; injection h with h; omega)
            replace G := grown_far G g208 (fun k hk => by injection hk with hk; subst hk; omega)
            replace ho166r := ho166r.stored g208 hB12 (by decide) (by decide)
            replace ho191 := ho191.stored g208 hB12 (by decide)
            replace hB12 := hB209
            refine Sq.nil ?_
            refine Eq.next ?_
            refine Cq.ret ?_
            refine Eq.retCell rfl rfl agg26 hB12 rfl ?_
            exact ⟨⟨_, by omega, hR, G⟩, ⟨a.al, _, a.acc ++ [a.acc.getD k55.toNat false]⟩, ⟨_, _, rfl, (OwnRows.rows ho166r), (Own.row (Own.snocB ho191))⟩, Small.row (a := ⟨a.al, a.next ++ [a.next.getD k55.toNat []], a.acc ++ [a.acc.getD k55.toNat false]⟩) (hsm.push2 (m := N + 10) (by omega) (by have := hsm.rowAt (k := k55.toNat); omega)) (by omega) (by rw [List.length_set, getD_app (by omega)]; have := hsm.rowAt (k := k55.toNat); omega)⟩
          refine Sq.val .plain rfl rfl (Still.loadA one56 rfl hpA.1) ?_
          refine Sq.nil ?_
          refine Eq.goes (fun _ => hB33) ?_
          refine Gq.one 2 rfl (by kernel_rfl) ?_
          refine Sq.lit sl56 rfl rfl .plain rfl rfl one_nil (fun b211 w212 e213 hlo214 ho215 _ => ?_)
          replace ho215 := ho215 w141.heap.size (Nat.le_refl _)
          have hs217 := Below.size e213
          replace hR := hR.ext e213
          replace G := grown_trans G (Ext.to_grown e213 _)
          replace hB12 := hB12.ext e213
          replace hn23 := hn23.ext e213
          replace ha24 := ha24.ext e213
          replace hB33 := hB33.ext e213
          replace hrA := hrA.ext e213
          refine Sq.nil ?_
          refine Eq.goes (fun _ => hB33) ?_
          refine Gq.one 8 rfl (by kernel_rfl) ?_
          refine Sq.app sl56 ho215 (by omega) (Own.row hrA) (one_ints _) (by rw [List.length_map]; simp only [List.length_nil, Nat.zero_add]; omega) .plain rfl rfl rfl rfl (fun v218 w219 ho221 g220 => ?_)
          have hs222 := g220.size
          replace hR := hR.owned ho215 g220 (by decide)
          replace G := grown_new G ho215 g220 (by omega)
          replace hB12 := hB12.owned ho215 g220 (by decide)
          replace hn23 := hn23.apart ho215 g220 (by omega) (by decide)
          replace ha24 := ha24.owned ho215 g220 (by decide)
          replace hB33 := hB33.owned ho215 g220 (by decide)
          simp only [List.nil_append] at ho221
          refine Sq.nil ?_
          refine Eq.goes (fun _ => hB33) ?_
          refine Gq.one 9 rfl (by kernel_rfl) ?_
          refine Sq.lit sl23 rfl rfl .plain rfl rfl (one_cons (Row.one (Own.row ho221)) one_nil) (fun b223 w224 e225 hlo226 ho227 _ => ?_)
          replace ho227 := ho227 w219.heap.size (Nat.le_refl _)
          have hs229 := Below.size e225
          replace hR := hR.ext e225
          replace G := grown_trans G (Ext.to_grown e225 _)
          replace hB12 := hB12.ext e225
          replace hn23 := hn23.ext e225
          replace ha24 := ha24.ext e225
          replace hB33 := hB33.ext e225
          replace ho221 := ho221.ext e225
          refine Sq.nil ?_
          refine Eq.goes (fun _ => hB33) ?_
          refine Gq.one 10 rfl (by kernel_rfl) ?_
          obtain ⟨rs234, q235, q236, q237⟩ := OwnRows.open hn23 (by decide)
          have q237x := Ext.refl w224
          refine Sq.app sl23 q235 (by omega) (Own.row ho227) (one_cons (Row.one (Own.row ho221)) one_nil) (by rw [q236]; first | omega | (simp; omega)) .plain rfl rfl rfl rfl (fun v230 w231 ho233 g232 => ?_)
          have hs238 := g232.size
          have ho233r := q237 _ (a.next.getD k55.toNat []) _ _ _ (Ext.refl _) (Own.mono ho221 (by omega)) (by omega) ho233 g232
          replace hR := hR.owned q235 g232 (by decide)
          replace G := grown_new G q235 g232 (by omega)
          replace hB12 := hB12.owned q235 g232 (by decide)
          replace ha24 := ha24.owned q235 g232 (by decide)
          replace hB33 := hB33.owned q235 g232 (by decide)
          refine Sq.nil ?_
          refine Eq.goes (fun _ => hB33) ?_
          refine Gq.one 11 rfl (by kernel_rfl) ?_
          refine Sq.fieldAddr fld26_1 .plain rfl rfl ?_
          refine Sq.nil ?_
          refine Eq.goes (fun h => absurd h (by decide)) ?_
          refine Gq.one 12 rfl (by kernel_rfl) ?_
          refine Sq.store one23 .plain rfl rfl (Rows.one (OwnRows.rows ho233r)) hB33 (by simp) (fun w239 g240 hB241 => ?_)
          have hs242 := World.grownBy.size g240
          replace hR := hR.grown g240 (by intro h; injection h with h; omega)
          replace G := grown_far G g240 (fun k hk => by injection hk with hk; subst hk; omega)
          replace hB12 := hB12.grown g240 (by intro h; injection h with h; omega)
          replace ha24 := ha24.stored g240 hB33 (by decide)
          replace ho233r := ho233r.stored g240 hB33 (by decide) (by decide)
          replace hB33 := hB241
          refine Sq.nil ?_
          refine Eq.goes (fun h => absurd h (by decide)) ?_
          refine Gq.done (by kernel_rfl) ?_
          refine Eq.next ?_
          refine Cq.seq ?_
          refine Cq.drawS 9 (fun w' => Blk w' b30 26 [Value.int .i64 a.al, v230, ac22]) mixed (hB33) (fun w243 e244 hS => ?_)
          clear hS
          have hs245 := Below.size e244
          replace hR := hR.ext e244
          replace G := grown_trans G (Ext.to_grown e244 _)
          replace hB12 := hB12.ext e244
          replace ha24 := ha24.ext e244
          replace hB33 := hB33.ext e244
          replace ho233r := ho233r.ext e244
          refine Gq.st 0 rfl (by kernel_rfl) rfl .plain rfl (fun _ _ _ h => h) hB33 (fun w' x => Still.fieldAddr fld26_2 rfl) ?_
          refine Gq.st 1 rfl (by kernel_rfl) rfl .plain rfl (fun _ _ _ h => h) hB33 (fun w' x => Still.loadB one24 rfl x rfl) ?_
          refine Gq.st 2 rfl (by kernel_rfl) rfl .plain rfl (fun _ _ _ h => h) hB33 (fun w' x => Still.fieldAddr fld26_2 rfl) ?_
          refine Gq.st 3 rfl (by kernel_rfl) rfl .plain rfl (fun _ _ _ h => h) hB33 (fun w' x => Still.loadB one24 rfl x rfl) ?_
          refine Gq.st 4 rfl (by kernel_rfl) rfl .plain rfl (fun _ _ _ h => h) hB33 (fun w' x => Still.move rfl) ?_
          refine Gq.one 5 rfl (by kernel_rfl) ?_
          obtain ⟨p246, hp247⟩ := Bools.at (Own.row ha24) (i := k55) (by omega) (by omega)
          refine Sq.val .plain rfl rfl (Still.at' sl24 hp247 rfl rfl) ?_
          refine Sq.nil ?_
          refine Eq.goes (fun _ => hB33) ?_
          refine Gq.one 6 rfl (by kernel_rfl) ?_
          refine Sq.val .plain rfl rfl (Still.loadA one4 rfl hp247.1) ?_
          refine Sq.nil ?_
          refine Eq.goes (fun _ => hB33) ?_
          refine Gq.one 7 rfl (by kernel_rfl) ?_
          refine Sq.lit sl24 rfl rfl .plain rfl rfl (one_cons rfl one_nil) (fun b248 w249 e250 hlo251 ho252 _ => ?_)
          replace ho252 := ho252 w243.heap.size (Nat.le_refl _)
          have hs254 := Below.size e250
          replace hR := hR.ext e250
          replace G := grown_trans G (Ext.to_grown e250 _)
          replace hB12 := hB12.ext e250
          replace ha24 := ha24.ext e250
          replace hB33 := hB33.ext e250
          replace ho233r := ho233r.ext e250
          refine Sq.nil ?_
          refine Eq.goes (fun _ => hB33) ?_
          refine Gq.one 8 rfl (by kernel_rfl) ?_
          refine Sq.app sl24 ha24 (by omega) (Own.row ho252) (one_cons rfl one_nil) (by first | omega | (simp; omega)) .plain rfl rfl rfl rfl (fun v255 w256 ho258 g257 => ?_)
          have hs259 := g257.size
          replace hR := hR.owned ha24 g257 (by decide)
          replace G := grown_new G ha24 g257 (by omega)
          replace hB12 := hB12.owned ha24 g257 (by decide)
          replace hB33 := hB33.owned ha24 g257 (by decide)
          replace ho233r := ho233r.owned ha24 g257 (by decide) (by decide)
          refine Sq.nil ?_
          refine Eq.goes (fun _ => hB33) ?_
          refine Gq.one 9 rfl (by kernel_rfl) ?_
          refine Sq.fieldAddr fld26_2 .plain rfl rfl ?_
          refine Sq.nil ?_
          refine Eq.goes (fun h => absurd h (by decide)) ?_
          refine Gq.one 10 rfl (by kernel_rfl) ?_
          refine Sq.store one24 .plain rfl rfl (Row.one (Own.row ho258)) hB33 (by simp) (fun w260 g261 hB262 => ?_)
          have hs263 := World.grownBy.size g261
          replace hR := hR.grown g261 (by intro h; injection h with h; omega)
          replace G := grown_far G g261 (fun k hk => by injection hk with hk; subst hk; omega)
          replace hB12 := hB12.grown g261 (by intro h; injection h with h; omega)
          replace ho233r := ho233r.stored g261 hB33 (by decide) (by decide)
          replace ho258 := ho258.stored g261 hB33 (by decide)
          replace hB33 := hB262
          refine Sq.nil ?_
          refine Eq.goes (fun h => absurd h (by decide)) ?_
          refine Gq.done (by kernel_rfl) ?_
          refine Eq.next ?_
          refine Cq.region ?_
          refine Sq.fieldAddr fld26_1 .plain rfl rfl ?_
          refine Sq.loadB one23 .plain rfl rfl hB33 rfl ?_
          refine Sq.move .plain rfl rfl ?_
          obtain ⟨p264, r266, hp265, _⟩ := Rows.at (OwnRows.rows ho233r) (i := k55) (by first | omega | (simp only [List.length_append, List.length_singleton]; omega)) (by first | omega | (simp only [List.length_append, List.length_singleton]; omega))
          have hr267 := (OwnRows.rowAt ho233r hp265).1
          refine Sq.val .plain rfl rfl (Still.at' sl23 hp265 rfl rfl) ?_
          refine Sq.val .plain rfl rfl (Still.loadA one56 rfl hp265.1) ?_
          refine Sq.move .plain rfl rfl ?_
          obtain ⟨p268, hp269o⟩ := Own.at hr267 (i := 0) (by first | omega | (rw [getD_app (by omega)]; omega)) (by first | (simp only [List.length_map]; first | omega | (rw [getD_app (by omega)]; omega)) | (simp; first | omega | (rw [getD_app (by omega)]; omega)))
          refine Sq.atO sl56 hp269o .plain rfl rfl rfl ?_
          refine Sq.storeO one3 hr267 hp269o .plain rfl rfl rfl (fun w270 g271 ho272 => ?_)
          have hs273 := World.grownBy.size g271
          rw [← List.map_set] at ho272
          replace ho233r := (OwnRows.set ho233r (by decide) hp265 ho272 g271).1
          replace hR := hR.owned hr267 g271 (by decide)
          replace G := grown_new G hr267 g271 (by omega)
          replace hB12 := hB12.owned hr267 g271 (by decide)
          replace hB33 := hB33.owned hr267 g271 (by decide)
          replace ho258 := ho258.owned hr267 g271 (by decide)
          refine Sq.nil ?_
          refine Eq.end ?_
          refine Eq.next ?_
          refine Cq.seq ?_
          refine Cq.region ?_
          refine Sq.loadAgg agg26 .plain rfl rfl hB33 rfl ?_
          refine Sq.storeAgg agg26 .plain rfl rfl (one_cons rfl (one_cons (Rows.one (OwnRows.rows ho233r)) (one_cons (Row.one (Own.row ho258)) one_nil))) hB12 rfl rfl (fun w274 g275 hB276 => ?_)
          have hs277 := World.grownBy.size g275
          replace hR := hR.grown g275 (by intro h; injection h with h; omega)
          replace G := grown_far G g275 (fun k hk => by injection hk with hk; subst hk; omega)
          replace ho233r := ho233r.stored g275 hB12 (by decide) (by decide)
          replace ho258 := ho258.stored g275 hB12 (by decide)
          replace hB12 := hB276
          refine Sq.nil ?_
          refine Eq.next ?_
          refine Cq.ret ?_
          refine Eq.retCell rfl rfl agg26 hB12 rfl ?_
          exact ⟨⟨_, by omega, hR, G⟩, ⟨a.al, _, a.acc ++ [a.acc.getD k55.toNat false]⟩, ⟨_, _, rfl, (OwnRows.rows ho233r), (Own.row (Own.snocB ho258))⟩, Small.row (a := ⟨a.al, a.next ++ [a.next.getD k55.toNat []], a.acc ++ [a.acc.getD k55.toNat false]⟩) (hsm.push2 (m := N + 10) (by omega) (by have := hsm.rowAt (k := k55.toNat); omega)) (by omega) (by rw [List.length_set, getD_app (by omega)]; have := hsm.rowAt (k := k55.toNat); omega)⟩
        refine Sq.pickT .plain rfl rfl rfl ?_
        refine Sq.nil ?_
        refine Eq.next ?_
        refine Cq.els rfl ?_
        refine Cq.skip ?_
        refine Eq.end ?_
        refine Eq.next ?_
        refine Cq.seq ?_
        refine Cq.region ?_
        refine Sq.loadAgg agg26 .plain rfl rfl hB33 rfl ?_
        refine Sq.storeAgg agg26 .plain rfl rfl (one_cons rfl (one_cons (Rows.one (OwnRows.rows hn23)) (one_cons (Row.one (Own.row ha24)) one_nil))) hB12 rfl rfl (fun w278 g279 hB280 => ?_)
        have hs281 := World.grownBy.size g279
        replace hR := hR.grown g279 (by intro h; injection h with h; omega)
        replace G := grown_far G g279 (fun k hk => by injection hk with hk; subst hk; omega)
        replace hn23 := hn23.stored g279 hB12 (by decide) (by decide)
        replace ha24 := ha24.stored g279 hB12 (by decide)
        replace hB12 := hB280
        refine Sq.nil ?_
        refine Eq.next ?_
        refine Cq.ret ?_
        refine Eq.retCell rfl rfl agg26 hB12 rfl ?_
        exact ⟨⟨_, by omega, hR, G⟩, a, ⟨_, _, rfl, (OwnRows.rows hn23), (Own.row ha24)⟩, hsm.mono (by omega)⟩
      refine Sq.pickT .plain rfl rfl rfl ?_
      refine Sq.move .plain rfl rfl ?_
      refine Sq.off rfl rfl rfl rfl rfl rfl ?_
      refine Sq.off rfl rfl rfl rfl rfl rfl ?_
      refine Sq.off rfl rfl rfl rfl rfl rfl ?_
      refine Sq.off rfl rfl rfl rfl rfl rfl ?_
      refine Sq.off rfl rfl rfl rfl rfl rfl ?_
      refine Sq.off rfl rfl rfl rfl rfl rfl ?_
      refine Sq.off rfl rfl rfl rfl rfl rfl ?_
      refine Sq.pickF .plain rfl rfl rfl ?_
      refine Sq.nil ?_
      refine Eq.next ?_
      refine Cq.els rfl ?_
      refine Cq.skip ?_
      refine Eq.end ?_
      refine Eq.next ?_
      refine Cq.seq ?_
      refine Cq.region ?_
      refine Sq.loadAgg agg26 .plain rfl rfl hB33 rfl ?_
      refine Sq.storeAgg agg26 .plain rfl rfl (one_cons rfl (one_cons (Rows.one (OwnRows.rows hn23)) (one_cons (Row.one (Own.row ha24)) one_nil))) hB12 rfl rfl (fun w282 g283 hB284 => ?_)
      have hs285 := World.grownBy.size g283
      replace hR := hR.grown g283 (by intro h; injection h with h; omega)
      replace G := grown_far G g283 (fun k hk => by injection hk with hk; subst hk; omega)
      replace hn23 := hn23.stored g283 hB12 (by decide) (by decide)
      replace ha24 := ha24.stored g283 hB12 (by decide)
      replace hB12 := hB284
      refine Sq.nil ?_
      refine Eq.next ?_
      refine Cq.ret ?_
      refine Eq.retCell rfl rfl agg26 hB12 rfl ?_
      exact ⟨⟨_, by omega, hR, G⟩, a, ⟨_, _, rfl, (OwnRows.rows hn23), (Own.row ha24)⟩, hsm.mono (by omega)⟩
    refine Sq.move .plain rfl rfl ?_
    refine Sq.off rfl rfl rfl rfl rfl rfl ?_
    refine Sq.off rfl rfl rfl rfl rfl rfl ?_
    refine Sq.off rfl rfl rfl rfl rfl rfl ?_
    refine Sq.off rfl rfl rfl rfl rfl rfl ?_
    refine Sq.off rfl rfl rfl rfl rfl rfl ?_
    refine Sq.pickF .plain rfl rfl rfl ?_
    refine Sq.move .plain rfl rfl ?_
    refine Sq.off rfl rfl rfl rfl rfl rfl ?_
    refine Sq.off rfl rfl rfl rfl rfl rfl ?_
    refine Sq.off rfl rfl rfl rfl rfl rfl ?_
    refine Sq.off rfl rfl rfl rfl rfl rfl ?_
    refine Sq.off rfl rfl rfl rfl rfl rfl ?_
    refine Sq.off rfl rfl rfl rfl rfl rfl ?_
    refine Sq.off rfl rfl rfl rfl rfl rfl ?_
    refine Sq.pickF .plain rfl rfl rfl ?_
    refine Sq.nil ?_
    refine Eq.next ?_
    refine Cq.els rfl ?_
    refine Cq.skip ?_
    refine Eq.end ?_
    refine Eq.next ?_
    refine Cq.seq ?_
    refine Cq.region ?_
    refine Sq.loadAgg agg26 .plain rfl rfl hB33 rfl ?_
    refine Sq.storeAgg agg26 .plain rfl rfl (one_cons rfl (one_cons (Rows.one (OwnRows.rows hn23)) (one_cons (Row.one (Own.row ha24)) one_nil))) hB12 rfl rfl (fun w286 g287 hB288 => ?_)
    have hs289 := World.grownBy.size g287
    replace hR := hR.grown g287 (by intro h; injection h with h; omega)
    replace G := grown_far G g287 (fun k hk => by injection hk with hk; subst hk; omega)
    replace hn23 := hn23.stored g287 hB12 (by decide) (by decide)
    replace ha24 := ha24.stored g287 hB12 (by decide)
    replace hB12 := hB288
    refine Sq.nil ?_
    refine Eq.next ?_
    refine Cq.ret ?_
    refine Eq.retCell rfl rfl agg26 hB12 rfl ?_
    exact ⟨⟨_, by omega, hR, G⟩, a, ⟨_, _, rfl, (OwnRows.rows hn23), (Own.row ha24)⟩, hsm.mono (by omega)⟩
  refine Sq.assign .plain rfl rfl ?_
  refine Sq.nil ?_
  refine Eq.next ?_
  refine Cq.els rfl ?_
  refine Cq.skip ?_
  refine Eq.end ?_
  refine Eq.next ?_
  refine Cq.seq ?_
  refine Cq.region ?_
  refine Sq.loadAgg agg26 .plain rfl rfl hB33 rfl ?_
  refine Sq.storeAgg agg26 .plain rfl rfl (one_cons rfl (one_cons (Rows.one (OwnRows.rows hn23)) (one_cons (Row.one (Own.row ha24)) one_nil))) hB12 rfl rfl (fun w290 g291 hB292 => ?_)
  have hs293 := World.grownBy.size g291
  replace hR := hR.grown g291 (by intro h; injection h with h; omega)
  replace G := grown_far G g291 (fun k hk => by injection hk with hk; subst hk; omega)
  replace hn23 := hn23.stored g291 hB12 (by decide) (by decide)
  replace ha24 := ha24.stored g291 hB12 (by decide)
  replace hB12 := hB292
  refine Sq.nil ?_
  refine Eq.next ?_
  refine Cq.ret ?_
  refine Eq.retCell rfl rfl agg26 hB12 rfl ?_
  exact ⟨⟨_, by omega, hR, G⟩, a, ⟨_, _, rfl, (OwnRows.rows hn23), (Own.row ha24)⟩, hsm.mono (by omega)⟩
end Go.Proofs.Ytdejmfkpohgamaa
set_option linter.unusedSimpArgs false
set_option linter.unusedVariables false
namespace Go.Proofs.Ytdejmfkpohgamaa
open Go.RowKit
set_option maxRecDepth 100000 in
theorem l5Any_c (w0 : World) (rb : Nat) (bv : Value) (p : Int) (bs : List UInt8) (e0 : TypeId) (hR : Blk w0 rb 88 [bv, .int .i64 p]) (hb : Src w0 e0 bv bs rb) (hbl : bs.length ≤ 2000) (hp : 0 ≤ p ∧ p ≤ 450000000) : Ret Try.prog 79 #[Value.pointer (some ⟨rb, 0, none⟩)] w0 (fun v w => (∃ p', (p ≤ p' ∧ p' ≤ p + 500) ∧ Blk w rb 88 [bv, .int .i64 p'] ∧ w0.grownBy w (some rb)) ∧ ∃ a, RowsA w v a ∧ Small 400 a) := by
  have G := World.grownBy.refl w0 (some rb)
  have hlt := hR.lt
  refine Ret.of (args := [Value.pointer (some ⟨rb, 0, none⟩)]) Try.func79 rfl rfl rfl ?_
  rintro _ rfl
  show Cq _ _ _ _ [(0, Value.pointer (some ⟨rb, 0, none⟩))] _
  refine Cq.seq ?_
  refine Cq.region ?_
  refine Sq.alloc zero26 .plain rfl (fun b1 w2 e3 hB4 hlo5 => ?_)
  have hd6 := Nat.lt_of_lt_of_le hR.lt hlo5
  have hd7 := Nat.le_trans (World.grownBy.size G) hlo5
  have hs8 := Below.size e3
  replace hR := hR.ext e3
  replace G := grown_trans G (Ext.to_grown e3 _)
  refine Sq.nil ?_
  refine Eq.next ?_
  refine Cq.seq ?_
  refine Cq.region ?_
  refine Sq.move .plain rfl rfl ?_
  refine Sq.call fn42 .plain rfl rfl (l3Draw_c _ _ _ _ _ _ hR (hb.go G) hbl (by omega) ) ?_
  rintro _ w10 ⟨⟨p11, hp14, hB13, g12⟩, ⟨a15, ⟨nx16, ac17, rfl, hn18, ha19⟩, hv20, hal21⟩⟩
  have hs22 := World.grownBy.size g12
  have hs23 := World.grownBy.size G
  have hs24 := World.grownBy.size g12
  replace G := grown_trans G g12
  replace hB4 := hB4.grown g12 (by intro h; injection h with h; omega)
  replace hR := hB13
  refine Sq.alloc zero26 .plain rfl (fun b25 w26 e27 hB28 hlo29 => ?_)
  have hd30 := Nat.lt_of_lt_of_le hR.lt hlo29
  have hd31 := Nat.le_trans (World.grownBy.size G) hlo29
  have hd32 := Nat.lt_of_lt_of_le hB4.lt hlo29
  have hs33 := Below.size e27
  replace hR := hR.ext e27
  replace G := grown_trans G (Ext.to_grown e27 _)
  replace hB4 := hB4.ext e27
  replace hn18 := hn18.ext e27
  replace ha19 := ha19.ext e27
  refine Sq.storeAgg agg26 .plain rfl rfl (one_cons rfl (one_cons (Rows.one hn18) (one_cons (Row.one ha19) one_nil))) hB28 rfl rfl (fun w34 g35 hB36 => ?_)
  have hs37 := World.grownBy.size g35
  replace hR := hR.grown g35 (by intro h; injection h with h; omega)
  replace G := grown_far G g35 (fun k hk => by injection hk with hk; subst hk; omega)
  replace hB4 := hB4.grown g35 (by intro h; injection h with h; omega)
  replace hn18 := hn18.stored g35 hB28 (by decide) (by decide)
  replace ha19 := ha19.stored g35 hB28 (by decide)
  replace hB28 := hB36
  refine Sq.nil ?_
  refine Eq.next ?_
  refine Cq.seq ?_
  refine Cq.seq ?_
  refine Cq.region ?_
  refine Sq.move .plain rfl rfl ?_
  refine Sq.call fn43 .plain rfl rfl (pick_c _ _ _ _ _ _ hR (hb.go G) hbl (by omega) 3 (by omega)) ?_
  rintro _ w39 ⟨⟨p40, hp43, hB42, g41⟩, ⟨k44, rfl, hk45⟩⟩
  have hs46 := World.grownBy.size g41
  have hs47 := World.grownBy.size G
  have hs48 := World.grownBy.size g41
  replace G := grown_trans G g41
  replace hB4 := hB4.grown g41 (by intro h; injection h with h; omega)
  replace hn18 := hn18.stored g41 hR (by decide) (by decide)
  replace ha19 := ha19.stored g41 hR (by decide)
  replace hB28 := hB28.grown g41 (by intro h; injection h with h; omega)
  replace hR := hB42
  refine Sq.assign .plain rfl rfl ?_
  refine Sq.nil ?_
  refine Eq.next ?_
  refine Cq.block ?_
  refine Cq.loop (fun nn w ls => ∃ (i : Int), ∃ (p1 : Int), ∃ (N1 : Nat), ∃ (A1 : A), ∃ (nxv : Value), ∃ (acv : Value), ls = [(0, Value.pointer (some ⟨rb, 0, none⟩)), (2, Value.pointer (some ⟨b1, 0, none⟩)), (3, Value.pointer (some ⟨b25, 0, none⟩)), (4, Value.int .i64 i)] ∧ (0 ≤ i ∧ i ≤ 2) ∧ (p ≤ p1 ∧ p1 ≤ p + 310 + 10 * (2 - i)) ∧ Blk w rb 88 [bv, Value.int .i64 p1] ∧ Blk w b25 26 [Value.int .i64 A1.al, nxv, acv] ∧ Rows w 56 3 nxv A1.next ∧ Bools w 4 acv A1.acc ∧ (N1 + 20 * i.toNat ≤ 240) ∧ Small N1 A1 ∧ World.grownBy w0 w (some rb) ∧ Blk w b1 26 [Value.int .i64 0, Value.slice none 0 0, Value.slice none 0 0] ∧ nn = i.toNat) _ _ ⟨k44, _, _, _, _, _, rfl, by omega, by omega, hR, hB28, hn18, ha19, by omega, hv20, G, hB4, rfl⟩ (.cons rfl (.cons rfl (.cons rfl (.cons rfl (.nil))))) ?_
  rintro nn wl1 ls ⟨i, p1, N1, A1, nxv, acv, rfl, hi, hp1, hR, hBr, hnr, har, hN1, hsm0, G, hB4, rfl⟩
  have hs49 := World.grownBy.size G
  refine Cq.seq ?_
  refine Cq.seq ?_
  refine Cq.region ?_
  refine Sq.move .plain rfl rfl ?_
  refine Sq.gtr .plain rfl rfl rfl ?_
  refine Sq.part (fun c50 => ?_) (fun c50 => ?_)
  · refine Sq.nil ?_
    refine Eq.next ?_
    refine Cq.thn rfl ?_
    refine Cq.skip ?_
    refine Eq.next ?_
    refine Cq.seq ?_
    refine Cq.block ?_
    refine Cq.region ?_
    refine Sq.move .plain rfl rfl ?_
    refine Sq.loadAgg agg26 .plain rfl rfl hBr rfl ?_
    refine Sq.call fn44 .plain rfl rfl (l4Change_c _ _ _ _ _ _ hR (hb.go G) hbl (by omega) A1 _ _ hnr har _ (by omega) hsm0) ?_
    rintro _ w52 ⟨⟨p53, hp56, hB55, g54⟩, ⟨a57, ⟨nx58, ac59, rfl, hn60, ha61⟩, hv62⟩⟩
    have hs63 := World.grownBy.size g54
    have hs64 := World.grownBy.size G
    have hs65 := World.grownBy.size g54
    replace G := grown_trans G g54
    replace hB4 := hB4.grown g54 (by intro h; injection h with h; omega)
    replace hBr := hBr.grown g54 (by intro h; injection h with h; omega)
    replace hR := hB55
    refine Sq.storeAgg agg26 .plain rfl rfl (one_cons rfl (one_cons (Rows.one hn60) (one_cons (Row.one ha61) one_nil))) hBr rfl rfl (fun w66 g67 hB68 => ?_)
    have hs69 := World.grownBy.size g67
    replace G := grown_far G g67 (fun k hk => by injection hk with hk; subst hk; omega)
    replace hB4 := hB4.grown g67 (by intro h; injection h with h; omega)
    replace hR := hR.grown g67 (by intro h; injection h with h; omega)
    replace hn60 := hn60.stored g67 hBr (by decide) (by decide)
    replace ha61 := ha61.stored g67 hBr (by decide)
    replace hBr := hB68
    refine Sq.nil ?_
    refine Eq.end ?_
    refine Eq.next ?_
    refine Cq.region ?_
    refine Sq.move .plain rfl rfl ?_
    refine Sq.sub .plain rfl rfl rfl (by omega) ?_
    refine Sq.assign .plain rfl rfl ?_
    refine Sq.nil ?_
    refine Eq.round _ _ ⟨_, _, _, _, _, _, rfl, by omega, by omega, hR, hBr, hn60, ha61, by omega, hv62, G, hB4, rfl⟩ (by omega) (.cons rfl (.cons rfl (.cons rfl (.cons rfl (.nil)))))
  refine Sq.nil ?_
  refine Eq.next ?_
  refine Cq.els rfl ?_
  refine Cq.exit ?_
  refine Eq.past ?_
  refine Eq.past ?_
  refine Eq.hit ?_
  refine Eq.next ?_
  refine Cq.seq ?_
  refine Cq.seq ?_
  refine Cq.region ?_
  refine Sq.move .plain rfl rfl ?_
  refine Sq.call fn43 .plain rfl rfl (pick_c _ _ _ _ _ _ hR (hb.go G) hbl (by omega) 10 (by omega)) ?_
  rintro _ w71 ⟨⟨p72, hp75, hB74, g73⟩, ⟨k76, rfl, hk77⟩⟩
  have hs78 := World.grownBy.size g73
  have hs79 := World.grownBy.size G
  have hs80 := World.grownBy.size g73
  replace G := grown_trans G g73
  replace hB4 := hB4.grown g73 (by intro h; injection h with h; omega)
  replace hBr := hBr.grown g73 (by intro h; injection h with h; omega)
  replace hnr := hnr.stored g73 hR (by decide) (by decide)
  replace har := har.stored g73 hR (by decide)
  replace hR := hB74
  refine Sq.eql .plain rfl rfl rfl ?_
  refine Sq.part (fun c81 => ?_) (fun c81 => ?_)
  · refine Sq.nil ?_
    refine Eq.next ?_
    refine Cq.thn rfl ?_
    refine Cq.region ?_
    refine Sq.move .plain rfl rfl ?_
    refine Sq.call fn45 .plain rfl rfl (l3Big_c _ _ _ _ _ _ hR (hb.go G) hbl (by omega) ) ?_
    rintro _ w83 ⟨⟨p84, hp87, hB86, g85⟩, ⟨a88, ⟨nx89, ac90, rfl, hn91, ha92⟩, hv93⟩⟩
    have hs94 := World.grownBy.size g85
    have hs95 := World.grownBy.size G
    have hs96 := World.grownBy.size g85
    replace G := grown_trans G g85
    replace hB4 := hB4.grown g85 (by intro h; injection h with h; omega)
    replace hBr := hBr.grown g85 (by intro h; injection h with h; omega)
    replace hR := hB86
    refine Sq.storeAgg agg26 .plain rfl rfl (one_cons rfl (one_cons (Rows.one (OwnRows.rows hn91)) (one_cons (Row.one (Own.row ha92)) one_nil))) hBr rfl rfl (fun w97 g98 hB99 => ?_)
    have hs100 := World.grownBy.size g98
    replace G := grown_far G g98 (fun k hk => by injection hk with hk; subst hk; omega)
    replace hB4 := hB4.grown g98 (by intro h; injection h with h; omega)
    replace hR := hR.grown g98 (by intro h; injection h with h; omega)
    replace hn91 := hn91.stored g98 hBr (by decide) (by decide)
    replace ha92 := ha92.stored g98 hBr (by decide)
    replace hBr := hB99
    refine Sq.nil ?_
    refine Eq.next ?_
    refine Cq.seq ?_
    refine Cq.seq ?_
    refine Cq.region ?_
    refine Sq.move .plain rfl rfl ?_
    refine Sq.call fn43 .plain rfl rfl (pick_c _ _ _ _ _ _ hR (hb.go G) hbl (by omega) 6 (by omega)) ?_
    rintro _ w102 ⟨⟨p103, hp106, hB105, g104⟩, ⟨k107, rfl, hk108⟩⟩
    have hs109 := World.grownBy.size g104
    have hs110 := World.grownBy.size G
    have hs111 := World.grownBy.size g104
    replace G := grown_trans G g104
    replace hB4 := hB4.grown g104 (by intro h; injection h with h; omega)
    replace hBr := hBr.grown g104 (by intro h; injection h with h; omega)
    replace hn91 := hn91.stored g104 hR (by decide) (by decide)
    replace ha92 := ha92.stored g104 hR (by decide)
    replace hR := hB105
    refine Sq.eql .plain rfl rfl rfl ?_
    refine Sq.part (fun c112 => ?_) (fun c112 => ?_)
    · refine Sq.nil ?_
      refine Eq.next ?_
      refine Cq.thn rfl ?_
      refine Cq.region ?_
      refine Sq.move .plain rfl rfl ?_
      refine Sq.loadAgg agg26 .plain rfl rfl hBr rfl ?_
      refine Sq.call fn46 .plain rfl rfl (l3Wrong_c _ _ _ _ _ _ hR (hb.go G) hbl (by omega) a88 _ _ (OwnRows.rows hn91) (Own.row ha92) _ (by omega) (Small.of hv93)) ?_
      rintro _ w114 ⟨⟨p115, hp118, hB117, g116⟩, ⟨a119, ⟨nx120, ac121, rfl, hn122, ha123⟩, hv124⟩⟩
      have hs125 := World.grownBy.size g116
      have hs126 := World.grownBy.size G
      have hs127 := World.grownBy.size g116
      replace G := grown_trans G g116
      replace hB4 := hB4.grown g116 (by intro h; injection h with h; omega)
      replace hBr := hBr.grown g116 (by intro h; injection h with h; omega)
      replace hR := hB117
      refine Sq.storeAgg agg26 .plain rfl rfl (one_cons rfl (one_cons (Rows.one hn122) (one_cons (Row.one ha123) one_nil))) hBr rfl rfl (fun w128 g129 hB130 => ?_)
      have hs131 := World.grownBy.size g129
      replace G := grown_far G g129 (fun k hk => by injection hk with hk; subst hk; omega)
      replace hB4 := hB4.grown g129 (by intro h; injection h with h; omega)
      replace hR := hR.grown g129 (by intro h; injection h with h; omega)
      replace hn122 := hn122.stored g129 hBr (by decide) (by decide)
      replace ha123 := ha123.stored g129 hBr (by decide)
      replace hBr := hB130
      refine Sq.nil ?_
      refine Eq.next ?_
      refine Cq.seq ?_
      refine Cq.region ?_
      refine Sq.loadAgg agg26 .plain rfl rfl hBr rfl ?_
      refine Sq.storeAgg agg26 .plain rfl rfl (one_cons rfl (one_cons (Rows.one hn122) (one_cons (Row.one ha123) one_nil))) hB4 rfl rfl (fun w132 g133 hB134 => ?_)
      have hs135 := World.grownBy.size g133
      replace G := grown_far G g133 (fun k hk => by injection hk with hk; subst hk; omega)
      replace hR := hR.grown g133 (by intro h; injection h with h; omega)
      replace hn122 := hn122.stored g133 hB4 (by decide) (by decide)
      replace ha123 := ha123.stored g133 hB4 (by decide)
      replace hB4 := hB134
      refine Sq.nil ?_
      refine Eq.next ?_
      refine Cq.ret ?_
      refine Eq.retCell rfl rfl agg26 hB4 rfl ?_
      exact ⟨⟨_, by omega, hR, G⟩, _, ⟨_, _, rfl, hn122, ha123⟩, by first | exact (Small.of hsm0).mono (by omega) | exact Small.mono hsm0 (by omega) | exact (Small.of hv124).mono (by omega) | exact Small.mono hv124 (by omega) | exact (Small.of hv93).mono (by omega) | exact Small.mono hv93 (by omega) | exact (Small.of hv62).mono (by omega) | exact Small.mono hv62 (by omega) | exact (Small.of hv20).mono (by omega) | exact Small.mono hv20 (by omega)⟩
    refine Sq.nil ?_
    refine Eq.next ?_
    refine Cq.els rfl ?_
    refine Cq.skip ?_
    refine Eq.next ?_
    refine Cq.seq ?_
    refine Cq.region ?_
    refine Sq.loadAgg agg26 .plain rfl rfl hBr rfl ?_
    refine Sq.storeAgg agg26 .plain rfl rfl (one_cons rfl (one_cons (Rows.one (OwnRows.rows hn91)) (one_cons (Row.one (Own.row ha92)) one_nil))) hB4 rfl rfl (fun w136 g137 hB138 => ?_)
    have hs139 := World.grownBy.size g137
    replace G := grown_far G g137 (fun k hk => by injection hk with hk; subst hk; omega)
    replace hR := hR.grown g137 (by intro h; injection h with h; omega)
    replace hn91 := hn91.stored g137 hB4 (by decide) (by decide)
    replace ha92 := ha92.stored g137 hB4 (by decide)
    replace hB4 := hB138
    refine Sq.nil ?_
    refine Eq.next ?_
    refine Cq.ret ?_
    refine Eq.retCell rfl rfl agg26 hB4 rfl ?_
    exact ⟨⟨_, by omega, hR, G⟩, _, ⟨_, _, rfl, (OwnRows.rows hn91), (Own.row ha92)⟩, by first | exact (Small.of hsm0).mono (by omega) | exact Small.mono hsm0 (by omega) | exact (Small.of hv124).mono (by omega) | exact Small.mono hv124 (by omega) | exact (Small.of hv93).mono (by omega) | exact Small.mono hv93 (by omega) | exact (Small.of hv62).mono (by omega) | exact Small.mono hv62 (by omega) | exact (Small.of hv20).mono (by omega) | exact Small.mono hv20 (by omega)⟩
  refine Sq.nil ?_
  refine Eq.next ?_
  refine Cq.els rfl ?_
  refine Cq.skip ?_
  refine Eq.next ?_
  refine Cq.seq ?_
  refine Cq.seq ?_
  refine Cq.region ?_
  refine Sq.move .plain rfl rfl ?_
  refine Sq.call fn43 .plain rfl rfl (pick_c _ _ _ _ _ _ hR (hb.go G) hbl (by omega) 6 (by omega)) ?_
  rintro _ w141 ⟨⟨p142, hp145, hB144, g143⟩, ⟨k146, rfl, hk147⟩⟩
  have hs148 := World.grownBy.size g143
  have hs149 := World.grownBy.size G
  have hs150 := World.grownBy.size g143
  replace G := grown_trans G g143
  replace hB4 := hB4.grown g143 (by intro h; injection h with h; omega)
  replace hBr := hBr.grown g143 (by intro h; injection h with h; omega)
  replace hnr := hnr.stored g143 hR (by decide) (by decide)
  replace har := har.stored g143 hR (by decide)
  replace hR := hB144
  refine Sq.eql .plain rfl rfl rfl ?_
  refine Sq.part (fun c151 => ?_) (fun c151 => ?_)
  · refine Sq.nil ?_
    refine Eq.next ?_
    refine Cq.thn rfl ?_
    refine Cq.region ?_
    refine Sq.move .plain rfl rfl ?_
    refine Sq.loadAgg agg26 .plain rfl rfl hBr rfl ?_
    refine Sq.call fn46 .plain rfl rfl (l3Wrong_c _ _ _ _ _ _ hR (hb.go G) hbl (by omega) A1 _ _ hnr har _ (by omega) hsm0) ?_
    rintro _ w153 ⟨⟨p154, hp157, hB156, g155⟩, ⟨a158, ⟨nx159, ac160, rfl, hn161, ha162⟩, hv163⟩⟩
    have hs164 := World.grownBy.size g155
    have hs165 := World.grownBy.size G
    have hs166 := World.grownBy.size g155
    replace G := grown_trans G g155
    replace hB4 := hB4.grown g155 (by intro h; injection h with h; omega)
    replace hBr := hBr.grown g155 (by intro h; injection h with h; omega)
    replace hR := hB156
    refine Sq.storeAgg agg26 .plain rfl rfl (one_cons rfl (one_cons (Rows.one hn161) (one_cons (Row.one ha162) one_nil))) hBr rfl rfl (fun w167 g168 hB169 => ?_)
    have hs170 := World.grownBy.size g168
    replace G := grown_far G g168 (fun k hk => by injection hk with hk; subst hk; omega)
    replace hB4 := hB4.grown g168 (by intro h; injection h with h; omega)
    replace hR := hR.grown g168 (by intro h; injection h with h; omega)
    replace hn161 := hn161.stored g168 hBr (by decide) (by decide)
    replace ha162 := ha162.stored g168 hBr (by decide)
    replace hBr := hB169
    refine Sq.nil ?_
    refine Eq.next ?_
    refine Cq.seq ?_
    refine Cq.region ?_
    refine Sq.loadAgg agg26 .plain rfl rfl hBr rfl ?_
    refine Sq.storeAgg agg26 .plain rfl rfl (one_cons rfl (one_cons (Rows.one hn161) (one_cons (Row.one ha162) one_nil))) hB4 rfl rfl (fun w171 g172 hB173 => ?_)
    have hs174 := World.grownBy.size g172
    replace G := grown_far G g172 (fun k hk => by injection hk with hk; subst hk; omega)
    replace hR := hR.grown g172 (by intro h; injection h with h; omega)
    replace hn161 := hn161.stored g172 hB4 (by decide) (by decide)
    replace ha162 := ha162.stored g172 hB4 (by decide)
    replace hB4 := hB173
    refine Sq.nil ?_
    refine Eq.next ?_
    refine Cq.ret ?_
    refine Eq.retCell rfl rfl agg26 hB4 rfl ?_
    exact ⟨⟨_, by omega, hR, G⟩, _, ⟨_, _, rfl, hn161, ha162⟩, by first | exact (Small.of hsm0).mono (by omega) | exact Small.mono hsm0 (by omega) | exact (Small.of hv163).mono (by omega) | exact Small.mono hv163 (by omega) | exact (Small.of hv124).mono (by omega) | exact Small.mono hv124 (by omega) | exact (Small.of hv93).mono (by omega) | exact Small.mono hv93 (by omega) | exact (Small.of hv62).mono (by omega) | exact Small.mono hv62 (by omega) | exact (Small.of hv20).mono (by omega) | exact Small.mono hv20 (by omega)⟩
  refine Sq.nil ?_
  refine Eq.next ?_
  refine Cq.els rfl ?_
  refine Cq.skip ?_
  refine Eq.next ?_
  refine Cq.seq ?_
  refine Cq.region ?_
  refine Sq.loadAgg agg26 .plain rfl rfl hBr rfl ?_
  refine Sq.storeAgg agg26 .plain rfl rfl (one_cons rfl (one_cons (Rows.one hnr) (one_cons (Row.one har) one_nil))) hB4 rfl rfl (fun w175 g176 hB177 => ?_)
  have hs178 := World.grownBy.size g176
  replace G := grown_far G g176 (fun k hk => by injection hk with hk; subst hk; omega)
  replace hR := hR.grown g176 (by intro h; injection h with h; omega)
  replace hnr := hnr.stored g176 hB4 (by decide) (by decide)
  replace har := har.stored g176 hB4 (by decide)
  replace hB4 := hB177
  refine Sq.nil ?_
  refine Eq.next ?_
  refine Cq.ret ?_
  refine Eq.retCell rfl rfl agg26 hB4 rfl ?_
  exact ⟨⟨_, by omega, hR, G⟩, _, ⟨_, _, rfl, hnr, har⟩, by first | exact (Small.of hsm0).mono (by omega) | exact Small.mono hsm0 (by omega) | exact (Small.of hv163).mono (by omega) | exact Small.mono hv163 (by omega) | exact (Small.of hv124).mono (by omega) | exact Small.mono hv124 (by omega) | exact (Small.of hv93).mono (by omega) | exact Small.mono hv93 (by omega) | exact (Small.of hv62).mono (by omega) | exact Small.mono hv62 (by omega) | exact (Small.of hv20).mono (by omega) | exact Small.mono hv20 (by omega)⟩
set_option maxRecDepth 100000 in
theorem drawTrim_c (w0 : World) (e : TypeId) (a0 : Option Addr) (c0 : Nat) (cs : List UInt8) (hc : Bytes w0 e (.slice a0 cs.length c0) cs) (hcap : cs.length ≤ c0) : Ret Try.prog 35 #[Value.slice a0 cs.length c0] w0 (fun v w => (∃ a, RowsA w v a ∧ Small 400 a) ∧ Ext w0 w) := by
  have E := Ext.refl w0
  refine Ret.of (args := [Value.slice a0 cs.length c0]) Try.func35 rfl rfl rfl ?_
  rintro _ rfl
  show Cq _ _ _ _ [(0, Value.slice a0 cs.length c0)] _
  refine Cq.seq ?_
  refine Cq.region ?_
  refine Sq.alloc zero26 .plain rfl (fun b1 w2 e3 hB4 hlo5 => ?_)
  have hd6 := Nat.le_trans (Below.size E) hlo5
  have hs7 := Below.size e3
  replace E := E.trans e3
  refine Sq.nil ?_
  refine Eq.next ?_
  refine Cq.seq ?_
  refine Cq.region ?_
  refine Sq.move .plain rfl rfl ?_
  refine Sq.call fn41 .plain rfl rfl (open_c _ _ _ _ _ (hc.ext E) hcap) ?_
  rintro _ w8 ⟨⟨rb, bv, bs, rfl, hrb, hR, hb, hbl⟩, e9⟩
  have hrlt := hR.lt
  have hd10 := Nat.le_trans (Below.size E) hrb
  have hd11 := Nat.lt_of_lt_of_le hB4.lt hrb
  have hs12 := Below.size e9
  replace E := E.trans e9
  replace hB4 := hB4.ext e9
  have G := World.grownBy.refl w8 (some rb)
  refine Sq.call fn79 .plain rfl rfl (l5Any_c _ _ _ _ _ _ hR (hb.go G) hbl (by omega) ) ?_
  rintro _ w14 ⟨⟨p15, hp18, hB17, g16⟩, ⟨a19, ⟨nx20, ac21, rfl, hn22, ha23⟩, hv24⟩⟩
  have hs25 := World.grownBy.size g16
  have hs26 := Below.size E
  have hs27 := World.grownBy.size G
  have hs28 := World.grownBy.size g16
  replace E := E.grown g16 (fun k hk => by injection hk with hk; subst hk; omega)
  replace hB4 := hB4.grown g16 (by intro h; injection h with h; omega)
  refine Sq.storeAgg agg26 .plain rfl rfl (one_cons rfl (one_cons (Rows.one hn22) (one_cons (Row.one ha23) one_nil))) hB4 rfl rfl (fun w29 g30 hB31 => ?_)
  have hs32 := World.grownBy.size g30
  replace E := E.grown g30 (fun k hk => by injection hk with hk; subst hk; omega)
  replace hn22 := hn22.stored g30 hB4 (by decide) (by decide)
  replace ha23 := ha23.stored g30 hB4 (by decide)
  replace hB4 := hB31
  refine Sq.nil ?_
  refine Eq.next ?_
  refine Cq.ret ?_
  refine Eq.retCell rfl rfl agg26 hB4 rfl ?_
  exact ⟨⟨_, ⟨_, _, rfl, hn22, ha23⟩, by first | exact (Small.of hv24).mono (by omega) | exact Small.mono hv24 (by omega)⟩, E⟩
end Go.Proofs.Ytdejmfkpohgamaa
set_option linter.unusedSimpArgs false
set_option linter.unusedVariables false
namespace Go.Proofs.Ytdejmfkpohgamaa
open Go.RowKit
set_option maxRecDepth 100000 in
theorem letterAt_c (s : ByteArray) (i : Int) (hi : 0 ≤ i ∧ i < s.size) (w0 : World) : Ret Try.prog 69 #[Value.string s, Value.int .i64 i] w0 (fun v w => v = .int .i64 (clip ((lts s).getD i.toNat 0)) ∧ w0 = w) := by
  refine Ret.of (args := [Value.string s, Value.int .i64 i]) Try.func69 rfl rfl rfl ?_
  rintro _ rfl
  show Cq _ _ _ _ [(0, Value.string s), (1, Value.int .i64 i)] _
  refine Cq.seq ?_
  refine Cq.region ?_
  refine Sq.assign .plain rfl rfl ?_
  refine Sq.nil ?_
  refine Eq.next ?_
  refine Cq.seq ?_
  refine Cq.region ?_
  refine Sq.move .plain rfl rfl ?_
  refine Sq.move .plain rfl rfl ?_
  refine Sq.idxStr .plain rfl und9 rfl rfl (by omega) (str_at (by omega)) ?_
  refine Sq.conv conv5_3 .plain rfl rfl (u8_ok _) ?_
  refine Sq.sub .plain rfl rfl rfl (by have := u8_le (s.data.toList.getD i.toNat 0); omega) ?_
  refine Sq.assign .plain rfl rfl ?_
  refine Sq.nil ?_
  refine Eq.next ?_
  refine Cq.seq ?_
  refine Cq.seq ?_
  refine Cq.region ?_
  refine Sq.move .plain rfl rfl ?_
  refine Sq.lss .plain rfl rfl rfl ?_
  refine Sq.part (fun c2 => ?_) (fun c2 => ?_)
  · refine Sq.move .plain rfl rfl ?_
    refine Sq.off rfl rfl rfl rfl rfl rfl ?_
    refine Sq.off rfl rfl rfl rfl rfl rfl ?_
    refine Sq.pickT .plain rfl rfl rfl ?_
    refine Sq.nil ?_
    refine Eq.next ?_
    refine Cq.thn rfl ?_
    refine Cq.seq ?_
    refine Cq.region ?_
    refine Sq.assign .plain rfl rfl ?_
    refine Sq.nil ?_
    refine Eq.next ?_
    refine Cq.ret ?_
    refine Eq.pastRet ?_
    refine Eq.ret1 rfl rfl ?_
    exact ⟨by rw [lts_at (by omega)]; first | rw [clip_in (by omega)] | rw [clip_out (by omega)], rfl⟩
  refine Sq.move .plain rfl rfl ?_
  refine Sq.move (.met rfl rfl rfl) rfl rfl ?_
  refine Sq.geq (.met rfl rfl rfl) rfl rfl rfl ?_
  refine Sq.part (fun c3 => ?_) (fun c3 => ?_)
  · refine Sq.pickF .plain rfl rfl rfl ?_
    refine Sq.nil ?_
    refine Eq.next ?_
    refine Cq.thn rfl ?_
    refine Cq.seq ?_
    refine Cq.region ?_
    refine Sq.assign .plain rfl rfl ?_
    refine Sq.nil ?_
    refine Eq.next ?_
    refine Cq.ret ?_
    refine Eq.pastRet ?_
    refine Eq.ret1 rfl rfl ?_
    exact ⟨by rw [lts_at (by omega)]; first | rw [clip_in (by omega)] | rw [clip_out (by omega)], rfl⟩
  refine Sq.pickF .plain rfl rfl rfl ?_
  refine Sq.nil ?_
  refine Eq.next ?_
  refine Cq.els rfl ?_
  refine Cq.skip ?_
  refine Eq.next ?_
  refine Cq.seq ?_
  refine Cq.region ?_
  refine Sq.move .plain rfl rfl ?_
  refine Sq.assign .plain rfl rfl ?_
  refine Sq.nil ?_
  refine Eq.next ?_
  refine Cq.ret ?_
  refine Eq.ret1 rfl rfl ?_
  exact ⟨by rw [lts_at (by omega)]; first | rw [clip_in (by omega)] | rw [clip_out (by omega)], rfl⟩
set_option maxRecDepth 100000 in
theorem within_c (s : ByteArray) (al : Int) (w0 : World) : Ret Try.prog 25 #[Value.string s, Value.int .i64 al] w0 (fun v w => v = .bool (within s al) ∧ w0 = w) := by
  refine Ret.of (args := [Value.string s, Value.int .i64 al]) Try.func25 rfl rfl rfl ?_
  rintro _ rfl
  show Cq _ _ _ _ [(0, Value.string s), (1, Value.int .i64 al)] _
  refine Cq.seq ?_
  refine Cq.region ?_
  refine Sq.assign .plain rfl rfl ?_
  refine Sq.nil ?_
  refine Eq.next ?_
  refine Cq.seq ?_
  refine Cq.seq ?_
  refine Cq.region ?_
  refine Sq.move .plain rfl rfl ?_
  refine Sq.call fn60 .plain rfl rfl (isAlphabet_c _ _) ?_
  rintro _ _ ⟨rfl, rfl⟩
  refine Sq.part (fun hal => ?_) (fun hal => ?_)
  · refine Sq.notT .plain rfl rfl ?_
    refine Sq.move .plain rfl rfl ?_
    refine Sq.move (.met rfl rfl rfl) rfl rfl ?_
    refine Sq.lenStr (.met rfl rfl rfl) rfl und9 rfl ?_
    refine Sq.gtr (.met rfl rfl rfl) rfl rfl rfl ?_
    refine Sq.part (fun c1 => ?_) (fun c1 => ?_)
    · refine Sq.pickF .plain rfl rfl rfl ?_
      refine Sq.nil ?_
      refine Eq.next ?_
      refine Cq.thn rfl ?_
      refine Cq.seq ?_
      refine Cq.region ?_
      refine Sq.assign .plain rfl rfl ?_
      refine Sq.nil ?_
      refine Eq.next ?_
      refine Cq.ret ?_
      refine Eq.pastRet ?_
      refine Eq.ret1 rfl rfl ?_
      exact ⟨by first | rw [within_al (by omega)] | rw [within_size (by omega)] | rw [within_bad (k := k.toNat) (by omega) (by rw [← hs_clip hal]; exact hb)] | rw [within_good (k := k.toNat) hal (by omega) hp (by omega)], rfl⟩
    refine Sq.pickF .plain rfl rfl rfl ?_
    refine Sq.nil ?_
    refine Eq.next ?_
    refine Cq.els rfl ?_
    refine Cq.skip ?_
    refine Eq.next ?_
    refine Cq.seq ?_
    refine Cq.seq ?_
    refine Cq.region ?_
    refine Sq.move .plain rfl rfl ?_
    refine Sq.lenStr .plain rfl und9 rfl ?_
    refine Sq.move .plain rfl rfl ?_
    refine Sq.nil ?_
    refine Eq.next ?_
    refine Cq.block ?_
    refine Cq.loop (fun nn w ls => ∃ (k : Int), ls = [(0, Value.string s), (1, Value.int .i64 al), (15, Value.int .i64 (ByteArray.size s : Int)), (16, Value.int .i64 k)] ∧ w0 = w ∧ (0 ≤ k ∧ k ≤ s.size) ∧ ((lts s).take k.toNat).all (hs al) = true ∧ nn = ((s.size : Int) - k).toNat) _ _ ⟨0, rfl, rfl, by omega, rfl, rfl⟩ (.cons rfl (.cons rfl (.cons rfl (.cons rfl (.nil))))) ?_
    rintro n1 w ls' ⟨k, rfl, rfl, hk, hp, rfl⟩
    have hll := lts_length s
    refine Cq.seq ?_
    refine Cq.region ?_
    refine Sq.lss .plain rfl rfl rfl ?_
    refine Sq.part (fun c2 => ?_) (fun c2 => ?_)
    · refine Sq.nil ?_
      refine Eq.next ?_
      refine Cq.seq ?_
      refine Cq.thn rfl ?_
      refine Cq.skip ?_
      refine Eq.next ?_
      refine Cq.seq ?_
      refine Cq.block ?_
      refine Cq.seq ?_
      refine Cq.region ?_
      refine Sq.move .plain rfl rfl ?_
      refine Sq.assign .plain rfl rfl ?_
      refine Sq.nil ?_
      refine Eq.next ?_
      refine Cq.seq ?_
      refine Cq.region ?_
      refine Sq.move .plain rfl rfl ?_
      refine Sq.move .plain rfl rfl ?_
      refine Sq.move .plain rfl rfl ?_
      refine Sq.call fn69 .plain rfl rfl (letterAt_c s k (by omega) _) ?_
      rintro _ _ ⟨rfl, rfl⟩
      refine Sq.call fn68 .plain rfl rfl (has_c _ _ (by omega) _) ?_
      rintro _ _ ⟨rfl, rfl⟩
      refine Sq.partB (fun hb => ?_) (fun hb => ?_)
      · refine Sq.notT .plain rfl rfl ?_
        refine Sq.nil ?_
        refine Eq.next ?_
        refine Cq.els rfl ?_
        refine Cq.skip ?_
        refine Eq.end ?_
        refine Eq.next ?_
        refine Cq.region ?_
        refine Sq.add .plain rfl rfl rfl (by omega) ?_
        refine Sq.move .plain rfl rfl ?_
        refine Sq.nil ?_
        have e1 := toNat_succ hk.1
        refine Eq.round _ _ ⟨k + 1, rfl, rfl, by omega, by rw [e1]; exact all_snoc (d := 0) hp (by omega) (by rw [← hs_clip hal]; exact hb), rfl⟩ (by omega) (.cons rfl (.cons rfl (.cons rfl (.cons rfl (.nil)))))
      refine Sq.notF .plain rfl rfl ?_
      refine Sq.nil ?_
      refine Eq.next ?_
      refine Cq.thn rfl ?_
      refine Cq.seq ?_
      refine Cq.region ?_
      refine Sq.assign .plain rfl rfl ?_
      refine Sq.nil ?_
      refine Eq.next ?_
      refine Cq.ret ?_
      refine Eq.outRet ?_
      refine Eq.pastRet ?_
      refine Eq.pastRet ?_
      refine Eq.outRet ?_
      refine Eq.pastRet ?_
      refine Eq.ret1 rfl rfl ?_
      exact ⟨by first | rw [within_al (by omega)] | rw [within_size (by omega)] | rw [within_bad (k := k.toNat) (by omega) (by rw [← hs_clip hal]; exact hb)] | rw [within_good (k := k.toNat) hal (by omega) hp (by omega)], rfl⟩
    refine Sq.nil ?_
    refine Eq.next ?_
    refine Cq.seq ?_
    refine Cq.els rfl ?_
    refine Cq.exit ?_
    refine Eq.past ?_
    refine Eq.past ?_
    refine Eq.hit ?_
    refine Eq.next ?_
    refine Cq.seq ?_
    refine Cq.region ?_
    refine Sq.assign .plain rfl rfl ?_
    refine Sq.nil ?_
    refine Eq.next ?_
    refine Cq.ret ?_
    refine Eq.ret1 rfl rfl ?_
    exact ⟨by first | rw [within_al (by omega)] | rw [within_size (by omega)] | rw [within_bad (k := k.toNat) (by omega) (by rw [← hs_clip hal]; exact hb)] | rw [within_good (k := k.toNat) hal (by omega) hp (by omega)], rfl⟩
  refine Sq.notF .plain rfl rfl ?_
  refine Sq.move .plain rfl rfl ?_
  refine Sq.off rfl rfl rfl rfl rfl rfl ?_
  refine Sq.off rfl rfl rfl rfl rfl rfl ?_
  refine Sq.off rfl rfl rfl rfl rfl rfl ?_
  refine Sq.pickT .plain rfl rfl rfl ?_
  refine Sq.nil ?_
  refine Eq.next ?_
  refine Cq.thn rfl ?_
  refine Cq.seq ?_
  refine Cq.region ?_
  refine Sq.assign .plain rfl rfl ?_
  refine Sq.nil ?_
  refine Eq.next ?_
  refine Cq.ret ?_
  refine Eq.pastRet ?_
  refine Eq.ret1 rfl rfl ?_
  exact ⟨by first | rw [within_al (by omega)] | rw [within_size (by omega)] | rw [within_bad (k := k.toNat) (by omega) (by rw [← hs_clip hal]; exact hb)] | rw [within_good (k := k.toNat) hal (by omega) hp (by omega)], rfl⟩
set_option maxRecDepth 100000 in
theorem wordValid_c (s : ByteArray) (w0 : World) : Ret Try.prog 70 #[Value.string s] w0 (fun v w => v = .bool (within s 63) ∧ w0 = w) := by
  refine Ret.of (args := [Value.string s]) Try.func70 rfl rfl rfl ?_
  rintro _ rfl
  show Cq _ _ _ _ [(0, Value.string s)] _
  refine Cq.seq ?_
  refine Cq.region ?_
  refine Sq.assign .plain rfl rfl ?_
  refine Sq.nil ?_
  refine Eq.next ?_
  refine Cq.seq ?_
  refine Cq.region ?_
  refine Sq.move .plain rfl rfl ?_
  refine Sq.call fn25 .plain rfl rfl (within_c s 63 _) ?_
  rintro _ _ ⟨rfl, rfl⟩
  refine Sq.assign .plain rfl rfl ?_
  refine Sq.nil ?_
  refine Eq.next ?_
  refine Cq.ret ?_
  refine Eq.ret1 rfl rfl ?_
  exact ⟨rfl, rfl⟩
set_option maxRecDepth 100000 in
theorem after_c (w0 : World) (a : A) (nx ac : Value) (hnx : Rows w0 56 3 nx a.next) (hac : Bools w0 4 ac a.acc) (s : ByteArray) (hsz : s.size ≤ 1000000) : Ret Try.prog 39 #[Value.agg #[Value.int .i64 a.al, nx, ac], Value.string s] w0 (fun v w => v = .int .i64 (after a s) ∧ Ext w0 w) := by
  have E := Ext.refl w0
  refine Ret.of (args := [Value.agg #[Value.int .i64 a.al, nx, ac], Value.string s]) Try.func39 rfl rfl rfl ?_
  rintro _ rfl
  show Cq _ _ _ _ [(0, Value.agg #[Value.int .i64 a.al, nx, ac]), (1, Value.string s)] _
  refine Cq.seq ?_
  refine Cq.region ?_
  refine Sq.box .plain rfl rfl (fun b1 w2 e3 hB4 hlo5 => ?_)
  have hd6 := Nat.le_trans (Below.size E) hlo5
  have hs7 := Below.size e3
  replace E := E.trans e3
  refine Sq.assign .plain rfl rfl ?_
  refine Sq.nil ?_
  refine Eq.next ?_
  refine Cq.seq ?_
  refine Cq.seq ?_
  refine Cq.region ?_
  refine Sq.loadAgg agg26 .plain rfl rfl hB4 rfl ?_
  have hd11 := hB4.lt
  refine Sq.call fn22 .plain rfl rfl (valid_c _ a _ _ (hnx.ext E) (hac.ext E)) ?_
  rintro _ w9 ⟨rfl, e10⟩
  have hs12 := Below.size E
  have hs13 := Below.size e10
  replace E := E.trans e10
  replace hB4 := hB4.ext e10
  refine Sq.partB (fun hv => ?_) (fun hv => ?_)
  · refine Sq.notT .plain rfl rfl ?_
    refine Sq.move .plain rfl rfl ?_
    refine Sq.move (.met rfl rfl rfl) rfl rfl ?_
    refine Sq.fieldAddr fld26_0 (.met rfl rfl rfl) rfl rfl ?_
    refine Sq.loadB one3 (.met rfl rfl rfl) rfl rfl hB4 rfl ?_
    refine Sq.call fn25 (.met rfl rfl rfl) rfl rfl (within_c s a.al _) ?_
    rintro _ _ ⟨rfl, rfl⟩
    refine Sq.partB (fun hw => ?_) (fun hw => ?_)
    · refine Sq.notT (.met rfl rfl rfl) rfl rfl ?_
      refine Sq.pickF .plain rfl rfl rfl ?_
      refine Sq.nil ?_
      refine Eq.next ?_
      refine Cq.els rfl ?_
      refine Cq.skip ?_
      refine Eq.next ?_
      refine Cq.seq ?_
      refine Cq.region ?_
      refine Sq.loadAgg agg26 .plain rfl rfl hB4 rfl ?_
      have hd22 := hB4.lt
      refine Sq.call fn48 .plain rfl rfl (tableOf_c _ a _ _ (hnx.ext E) (hac.ext E) hv) ?_
      rintro _ w15 ⟨⟨b17, xs18, rfl, hlo19, hT20, hTab21⟩, e16⟩
      have hs23 := Below.size E
      have hs24 := Below.size e16
      replace E := E.trans e16
      refine Sq.assign .plain rfl rfl ?_
      refine Sq.nil ?_
      refine Eq.next ?_
      refine Cq.seq ?_
      refine Cq.region ?_
      refine Sq.assign .plain rfl rfl ?_
      refine Sq.nil ?_
      refine Eq.next ?_
      refine Cq.seq ?_
      refine Cq.seq ?_
      refine Cq.region ?_
      refine Sq.move .plain rfl rfl ?_
      refine Sq.lenStr .plain rfl und9 rfl ?_
      refine Sq.move .plain rfl rfl ?_
      refine Sq.nil ?_
      refine Eq.next ?_
      refine Cq.block ?_
      have hn1 := (validA_spec.1 hv).2.1
      refine Cq.loop (fun nn w ls => ∃ (k : Int), ∃ (q : Int), ls = [(1, Value.string s), (5, Value.slice (some ⟨b17, 0, none⟩) a.next.length a.next.length), (6, Value.int .i64 q), (21, Value.int .i64 (ByteArray.size s : Int)), (22, Value.int .i64 k)] ∧ (0 ≤ k ∧ k ≤ s.size) ∧ q = runTo a 0 s k.toNat ∧ Ext w0 w ∧ Blk w b17 62 (xs18.map (Value.int .i64)) ∧ nn = ((s.size : Int) - k).toNat) _ _ ⟨0, 0, rfl, by omega, rfl, E, hT20, rfl⟩ (.cons rfl (.cons rfl (.cons rfl (.cons rfl (.cons rfl (.nil)))))) ?_
      rintro nn wl1 ls ⟨k, q, rfl, hk, hq, E, hT20, rfl⟩
      have hs25 := Below.size E
      have hqi := runTo_in hv hw (q := 0) (by omega) k.toNat
      rw [← hq] at hqi
      have hwa := within_at hw (k := k.toNat)
      refine Cq.seq ?_
      refine Cq.region ?_
      refine Sq.lss .plain rfl rfl rfl ?_
      refine Sq.part (fun c26 => ?_) (fun c26 => ?_)
      · refine Sq.nil ?_
        refine Eq.next ?_
        refine Cq.seq ?_
        refine Cq.thn rfl ?_
        refine Cq.skip ?_
        refine Eq.next ?_
        refine Cq.seq ?_
        refine Cq.block ?_
        refine Cq.seq ?_
        refine Cq.region ?_
        refine Sq.move .plain rfl rfl ?_
        refine Sq.assign .plain rfl rfl ?_
        refine Sq.nil ?_
        refine Eq.next ?_
        refine Cq.drawS 8 (fun w' => Blk w' b17 62 (xs18.map (Value.int .i64))) mixed (hT20) (fun w27 e28 hS => ?_)
        clear hS
        have hs29 := Below.size e28
        replace E := E.trans e28
        replace hT20 := hT20.ext e28
        refine Gq.st 0 rfl (by kernel_rfl) rfl .plain rfl (fun _ _ _ h => h) hT20 (fun w' x => Still.move rfl) ?_
        refine Gq.st 1 rfl (by kernel_rfl) rfl .plain rfl (fun _ _ _ h => h) hT20 (fun w' x => Still.move rfl) ?_
        refine Gq.st 2 rfl (by kernel_rfl) rfl .plain rfl (fun _ _ _ h => h) hT20 (fun w' x => Still.move rfl) ?_
        refine Gq.st 3 rfl (by kernel_rfl) rfl .plain rfl (fun _ _ _ h => h) hT20 (fun w' x => Still.move rfl) ?_
        refine Gq.st 5 rfl (by kernel_rfl) rfl .plain rfl (fun _ _ _ h => h) hT20 (fun w' x => Still.ixS slk57 rfl rfl (by omega) (by omega)) ?_
        refine Gq.one 4 rfl (by kernel_rfl) ?_
        refine Sq.call fn69 .plain rfl rfl (letterAt_c s k (by omega) _) ?_
        rintro _ _ ⟨rfl, rfl⟩
        refine Sq.nil ?_
        refine Eq.goes (fun _ => hT20) ?_
        refine Gq.st 6 rfl (by kernel_rfl) rfl .plain rfl (fun _ _ _ h => h) hT20 (fun w' x => Still.ixA ar62 rfl rfl (by have := hwa (by omega); omega) (by have := hwa (by omega); omega)) ?_
        refine Gq.st 7 rfl (by kernel_rfl) rfl .plain rfl (fun _ _ _ h => h) hT20 (fun w' x => Still.loadB one3 rfl x (by rw [Nat.zero_add, List.getElem?_map, hTab21.2 q ((clip ((lts s).getD k.toNat 0))) (by omega) (by have := hwa (by omega); omega)]; rfl)) ?_
        refine Gq.one 8 rfl (by kernel_rfl) ?_
        refine Sq.assign .plain rfl rfl ?_
        refine Sq.nil ?_
        refine Eq.goes (fun h => absurd h (by decide)) ?_
        refine Gq.done (by kernel_rfl) ?_
        refine Eq.end ?_
        refine Eq.next ?_
        refine Cq.region ?_
        refine Sq.add .plain rfl rfl rfl (by omega) ?_
        refine Sq.move .plain rfl rfl ?_
        refine Sq.nil ?_
        have e1 := toNat_succ hk.1
        refine Eq.round _ _ ⟨k + 1, _, rfl, by omega, by rw [e1, runTo_succ (by omega), ← hq, (hwa (by omega)).1], E, hT20, rfl⟩ (by omega) (.cons rfl (.cons rfl (.cons rfl (.cons rfl (.cons rfl (.nil))))))
      refine Sq.nil ?_
      refine Eq.next ?_
      refine Cq.seq ?_
      refine Cq.els rfl ?_
      refine Cq.exit ?_
      refine Eq.past ?_
      refine Eq.past ?_
      refine Eq.hit ?_
      refine Eq.next ?_
      refine Cq.seq ?_
      refine Cq.region ?_
      refine Sq.move .plain rfl rfl ?_
      refine Sq.assign .plain rfl rfl ?_
      refine Sq.nil ?_
      refine Eq.next ?_
      refine Cq.ret ?_
      refine Eq.ret1 rfl rfl ?_
      exact ⟨by rw [after_good hv hw (k := k.toNat) (by omega), ← hq], E⟩
    refine Sq.notF (.met rfl rfl rfl) rfl rfl ?_
    refine Sq.pickF .plain rfl rfl rfl ?_
    refine Sq.nil ?_
    refine Eq.next ?_
    refine Cq.thn rfl ?_
    refine Cq.seq ?_
    refine Cq.region ?_
    refine Sq.assign .plain rfl rfl ?_
    refine Sq.nil ?_
    refine Eq.next ?_
    refine Cq.ret ?_
    refine Eq.pastRet ?_
    refine Eq.ret1 rfl rfl ?_
    exact ⟨by rw [after_bad (by rintro ⟨h1, h2⟩; first | (rw [hv] at h1; exact absurd h1 (by decide)) | (rw [hw] at h2; exact absurd h2 (by decide)))], E⟩
  refine Sq.notF .plain rfl rfl ?_
  refine Sq.move .plain rfl rfl ?_
  refine Sq.off rfl rfl rfl rfl rfl rfl ?_
  refine Sq.off rfl rfl rfl rfl rfl rfl ?_
  refine Sq.off rfl rfl rfl rfl rfl rfl ?_
  refine Sq.off rfl rfl rfl rfl rfl rfl ?_
  refine Sq.off rfl rfl rfl rfl rfl rfl ?_
  refine Sq.pickT .plain rfl rfl rfl ?_
  refine Sq.nil ?_
  refine Eq.next ?_
  refine Cq.thn rfl ?_
  refine Cq.seq ?_
  refine Cq.region ?_
  refine Sq.assign .plain rfl rfl ?_
  refine Sq.nil ?_
  refine Eq.next ?_
  refine Cq.ret ?_
  refine Eq.pastRet ?_
  refine Eq.ret1 rfl rfl ?_
  exact ⟨by rw [after_bad (by rintro ⟨h1, h2⟩; first | (rw [hv] at h1; exact absurd h1 (by decide)) | (rw [hw] at h2; exact absurd h2 (by decide)))], E⟩
end Go.Proofs.Ytdejmfkpohgamaa
set_option linter.unusedSimpArgs false
set_option linter.unusedVariables false
namespace Go.Proofs.Ytdejmfkpohgamaa
def lexLt : List Int → List Int → Prop
  | [], [] => False
  | [], _ :: _ => True
  | _ :: _, [] => False
  | x :: v, y :: w => x < y ∨ (x = y ∧ lexLt v w)
def sl (v w : List Int) : Prop := v.length < w.length ∨ (v.length = w.length ∧ lexLt v w)
def sle (v w : List Int) : Prop := v = w ∨ sl v w
theorem lexLt_irrefl : ∀ v, ¬ lexLt v v
  | [] => id
  | x :: v => fun h => by
    rcases h with h | ⟨_, h⟩
    · omega
    · exact lexLt_irrefl v h
theorem lexLt_trans : ∀ {u v w : List Int}, lexLt u v → lexLt v w → lexLt u w
  | [], [], _, h, _ => h.elim
  | [], _ :: _, [], _, h => h.elim
  | [], _ :: _, _ :: _, _, _ => trivial
  | _ :: _, [], _, h, _ => h.elim
  | _ :: _, _ :: _, [], _, h => h.elim
  | x :: u, y :: v, z :: w, h, h' => by
    rcases h with h | ⟨rfl, h⟩
    · rcases h' with h' | ⟨rfl, h'⟩
      · exact .inl (by omega)
      · exact .inl h
    · rcases h' with h' | ⟨rfl, h'⟩
      · exact .inl h'
      · exact .inr ⟨rfl, lexLt_trans h h'⟩
theorem lexLt_snoc : ∀ {v w : List Int} (x y : Int), v.length = w.length → lexLt v w → lexLt (v ++ [x]) (w ++ [y])
  | [], [], _, _, _, h => h.elim
  | [], _ :: _, _, _, h, _ => by simp at h
  | _ :: _, [], _, _, h, _ => by simp at h
  | a :: v, b :: w, x, y, h, h' => by
    rcases h' with h' | ⟨rfl, h'⟩
    · exact .inl h'
    · exact .inr ⟨rfl, lexLt_snoc x y (by simpa using h) h'⟩
theorem lexLt_last : ∀ (v : List Int) {x y : Int}, x < y → lexLt (v ++ [x]) (v ++ [y])
  | [], _, _, h => .inl h
  | a :: v, _, _, h => .inr ⟨rfl, lexLt_last v h⟩
theorem sl_irrefl (v : List Int) : ¬ sl v v := fun h => h.elim (by omega) (fun h => lexLt_irrefl v h.2)
theorem sl_trans {u v w : List Int} (h : sl u v) (h' : sl v w) : sl u w := by
  rcases h with h | ⟨h1, h2⟩ <;> rcases h' with h' | ⟨h3, h4⟩
  · exact .inl (by omega)
  · exact .inl (by omega)
  · exact .inl (by omega)
  · exact .inr ⟨by omega, lexLt_trans h2 h4⟩
theorem sl_snoc {v w : List Int} (x y : Int) (h : sl v w) : sl (v ++ [x]) (w ++ [y]) := by
  rcases h with h | ⟨h1, h2⟩
  · exact .inl (by simpa using h)
  · exact .inr ⟨by simpa using h1, lexLt_snoc x y h1 h2⟩
theorem sl_last (v : List Int) {x y : Int} (h : x < y) : sl (v ++ [x]) (v ++ [y]) := .inr ⟨by simp, lexLt_last v h⟩
theorem sl_nil (v : List Int) (x : Int) : sl [] (v ++ [x]) := .inl (by simp)
theorem sle_trans {u v w : List Int} (h : sle u v) (h' : sle v w) : sle u w := by
  rcases h with rfl | h
  · exact h'
  · rcases h' with rfl | h'
    · exact .inr h
    · exact .inr (sl_trans h h')
theorem sle_antisymm {v w : List Int} (h : sle v w) (h' : sle w v) : v = w := by
  rcases h with h | h
  · exact h
  · rcases h' with h' | h'
    · exact h'.symm
    · exact absurd (sl_trans h h') (sl_irrefl v)
theorem sle_snoc {v w : List Int} (x : Int) (h : sle v w) : sle (v ++ [x]) (w ++ [x]) := by
  rcases h with rfl | h
  · exact .inl rfl
  · exact .inr (sl_snoc x x h)
def nodeOf {α : Type} (f : α → Int → α) (s : α) (w : List Int) : α := w.foldl f s
theorem nodeOf_snoc {α : Type} (f : α → Int → α) (s : α) (w : List Int) (x : Int) : nodeOf f s (w ++ [x]) = f (nodeOf f s w) x := by
  unfold nodeOf
  rw [List.foldl_append]
  rfl
section
variable {α : Type} [DecidableEq α]
def wadd (f : α → Int → α) (s : α) (ws : List (List Int)) (v : List Int) : List (List Int) := if nodeOf f s v ∈ ws.map (nodeOf f s) then ws else ws ++ [v]
def wround (f : α → Int → α) (s : α) (w : List Int) (ws : List (List Int)) (Ls : List Int) : List (List Int) := Ls.foldl (fun ws l => wadd f s ws (w ++ [l])) ws
def bfsw (f : α → Int → α) (s : α) (L : List Int) : Nat → List (List Int)
  | 0 => [[]]
  | i + 1 => match (bfsw f s L i)[i]? with
    | some w => wround f s w (bfsw f s L i) L
    | none => bfsw f s L i
variable {f : α → Int → α} {s : α} {L : List Int}
theorem wadd_map (ws : List (List Int)) (v : List Int) : (wadd f s ws v).map (nodeOf f s) = addNode (ws.map (nodeOf f s)) (nodeOf f s v) := by
  unfold wadd addNode
  split
  · rfl
  · rw [List.map_append]; rfl
theorem wround_map (w : List Int) : ∀ (Ls : List Int) (ws : List (List Int)), (wround f s w ws Ls).map (nodeOf f s) = addAll (ws.map (nodeOf f s)) (Ls.map (f (nodeOf f s w)))
  | [], ws => rfl
  | l :: Ls, ws => by
    show (wround f s w (wadd f s ws (w ++ [l])) Ls).map (nodeOf f s) = _
    rw [wround_map w Ls, wadd_map, nodeOf_snoc]
    rfl
theorem bfsw_map (i : Nat) : (bfsw f s L i).map (nodeOf f s) = bfs f s L i := by
  induction i with
  | zero => rfl
  | succ i ih =>
    rw [bfsw, bfs, ← ih, List.getElem?_map]
    cases hq : (bfsw f s L i)[i]? with
    | none => rfl
    | some w => exact wround_map w L _
theorem bfsw_length (i : Nat) : (bfsw f s L i).length = (bfs f s L i).length := by rw [← bfsw_map, List.length_map]
theorem wadd_prefix (ws : List (List Int)) (v : List Int) : ws <+: wadd f s ws v := by
  unfold wadd
  split
  · exact List.prefix_refl _
  · exact List.prefix_append _ _
theorem wadd_mem {ws : List (List Int)} {u v : List Int} (h : v ∈ wadd f s ws u) : v ∈ ws ∨ v = u := by
  unfold wadd at h
  split at h
  · exact .inl h
  · rcases List.mem_append.1 h with h | h
    · exact .inl h
    · exact .inr (List.mem_singleton.1 h)
theorem wadd_self {ws : List (List Int)} {u : List Int} (h : nodeOf f s u ∉ ws.map (nodeOf f s)) : u ∈ wadd f s ws u := by
  unfold wadd
  rw [if_neg h]
  simp
theorem wadd_sorted {ws : List (List Int)} {u : List Int} (h : ws.Pairwise sl) (hb : ∀ v ∈ ws, sl v u) : (wadd f s ws u).Pairwise sl := by
  unfold wadd
  split
  · exact h
  · refine List.pairwise_append.2 ⟨h, by simp, fun v hv u' hu => ?_⟩
    rw [List.mem_singleton.1 hu]
    exact hb v hv
theorem wround_prefix (w : List Int) : ∀ (Ls : List Int) (ws : List (List Int)), ws <+: wround f s w ws Ls
  | [], ws => List.prefix_refl _
  | l :: Ls, ws => (wadd_prefix ws (w ++ [l])).trans (wround_prefix w Ls _)
theorem bfsw_prefix1 (i : Nat) : bfsw f s L i <+: bfsw f s L (i + 1) := by
  rw [bfsw]
  split
  · exact wround_prefix _ _ _
  · exact List.prefix_refl _
theorem wround_mem (w : List Int) : ∀ (Ls : List Int) (ws : List (List Int)) {v : List Int}, v ∈ wround f s w ws Ls → v ∈ ws ∨ ∃ l ∈ Ls, v = w ++ [l]
  | [], ws, v, h => .inl h
  | l :: Ls, ws, v, h => by
    rcases wround_mem w Ls (wadd f s ws (w ++ [l])) h with h1 | ⟨l', h1, h2⟩
    · rcases wadd_mem h1 with h1 | h1
      · exact .inl h1
      · exact .inr ⟨l, by simp, h1⟩
    · exact .inr ⟨l', by simp [h1], h2⟩
theorem wround_sorted (w : List Int) : ∀ (Ls : List Int) (ws : List (List Int)), Ls.Pairwise (· < ·) → ws.Pairwise sl → (∀ v ∈ ws, ∀ l ∈ Ls, sl v (w ++ [l])) → (wround f s w ws Ls).Pairwise sl
  | [], ws, _, h, _ => h
  | l :: Ls, ws, hL, h, hb => by
    obtain ⟨h1, h2⟩ := List.pairwise_cons.1 hL
    refine wround_sorted w Ls (wadd f s ws (w ++ [l])) h2 (wadd_sorted h fun v hv => hb v hv l (by simp)) ?_
    intro v hv l' hl'
    rcases wadd_mem hv with hv | rfl
    · exact hb v hv l' (by simp [hl'])
    · exact sl_last w (h1 l' hl')
theorem wround_cover (w : List Int) : ∀ (Ls : List Int) (ws : List (List Int)), Ls.Pairwise (· < ·) → (∀ v ∈ ws, ∀ l ∈ Ls, sl v (w ++ [l])) → ∀ l ∈ Ls, ∃ v ∈ wround f s w ws Ls, nodeOf f s v = nodeOf f s (w ++ [l]) ∧ sle v (w ++ [l])
  | [], ws, _, _, l, hl => by cases hl
  | l0 :: Ls, ws, hL, hb, l, hl => by
    obtain ⟨h1, h2⟩ := List.pairwise_cons.1 hL
    have hb' : ∀ v ∈ wadd f s ws (w ++ [l0]), ∀ l ∈ Ls, sl v (w ++ [l]) := by
      intro v hv l' hl'
      rcases wadd_mem hv with hv | rfl
      · exact hb v hv l' (by simp [hl'])
      · exact sl_last w (h1 l' hl')
    rcases List.mem_cons.1 hl with rfl | hl
    · by_cases hin : nodeOf f s (w ++ [l]) ∈ ws.map (nodeOf f s)
      · obtain ⟨v, hv, e⟩ := List.mem_map.1 hin
        exact ⟨v, (wround_prefix w (l :: Ls) ws).subset hv, e, .inr (hb v hv l (by simp))⟩
      · exact ⟨w ++ [l], (wround_prefix w Ls (wadd f s ws (w ++ [l]))).subset (wadd_self hin), rfl, .inl rfl⟩
    · exact wround_cover w Ls (wadd f s ws (w ++ [l0])) h2 hb' l hl
theorem bfsw_inv (hL : L.Pairwise (· < ·)) (i : Nat) : (bfsw f s L i).Pairwise sl ∧ (∀ w, (bfsw f s L i)[i]? = some w → ∀ v ∈ bfsw f s L i, ∀ x, sl v (w ++ [x])) ∧
    (∀ j w, j < i → (bfsw f s L i)[j]? = some w → ∀ l ∈ L, ∃ v ∈ bfsw f s L i, nodeOf f s v = nodeOf f s (w ++ [l]) ∧ sle v (w ++ [l])) ∧ ∀ v ∈ bfsw f s L i, (∀ x ∈ v, x ∈ L) ∧ (v = [] ∨ ∃ u ∈ bfsw f s L i, ∃ l ∈ L, v = u ++ [l]) := by
  induction i with
  | zero =>
    refine ⟨by simp [bfsw], fun w hw v hv x => ?_, fun j w hj => by omega, fun v hv => ?_⟩
    · simp only [bfsw, List.mem_singleton] at hv
      subst hv
      exact sl_nil w x
    · simp only [bfsw, List.mem_singleton] at hv
      subst hv
      exact ⟨by simp, .inl rfl⟩
  | succ i ih =>
    obtain ⟨h1, h2, h3, h4⟩ := ih
    have hp := bfsw_prefix1 (f := f) (s := s) (L := L) i
    cases hq : (bfsw f s L i)[i]? with
    | none =>
      have e : bfsw f s L (i + 1) = bfsw f s L i := by rw [bfsw, hq]
      have hl : (bfsw f s L i).length ≤ i := by
        rcases Nat.lt_or_ge i (bfsw f s L i).length with h | h
        · rw [List.getElem?_eq_getElem h] at hq; cases hq
        · exact h
      rw [e]
      refine ⟨h1, fun w hw => ?_, fun j w hj hw => ?_, h4⟩
      · rw [List.getElem?_eq_none (by omega)] at hw; cases hw
      · rcases Nat.lt_or_ge j i with h | h
        · exact h3 j w h hw
        · rw [List.getElem?_eq_none (by omega)] at hw; cases hw
    | some w =>
      have e : bfsw f s L (i + 1) = wround f s w (bfsw f s L i) L := by rw [bfsw, hq]
      have hb := h2 w hq
      have hi := (List.getElem?_eq_some_iff.1 hq).1
      have hs : (bfsw f s L (i + 1)).Pairwise sl := by rw [e]; exact wround_sorted w L _ hL h1 (fun v hv l _ => hb v hv l)
      have hat : ∀ j, j < (bfsw f s L i).length → (bfsw f s L (i + 1))[j]? = (bfsw f s L i)[j]? := by
        intro j hj
        obtain ⟨t, ht⟩ := hp
        rw [← ht, List.getElem?_append_left hj]
      have hwi : (bfsw f s L (i + 1))[i]? = some w := by rw [hat i hi, hq]
      have hmem : ∀ v ∈ bfsw f s L (i + 1), v ∈ bfsw f s L i ∨ ∃ l ∈ L, v = w ++ [l] := fun v hv => by rw [e] at hv; exact wround_mem w L _ hv
      refine ⟨hs, fun w' hw' v hv x => ?_, fun j u hj hu l hl => ?_, fun v hv => ?_⟩
      · have hlt : sl w w' := by
          obtain ⟨g1, g2⟩ := List.getElem?_eq_some_iff.1 hwi
          obtain ⟨g3, g4⟩ := List.getElem?_eq_some_iff.1 hw'
          rw [← g2, ← g4]
          exact List.pairwise_iff_getElem.1 hs i (i + 1) g1 g3 (by omega)
        rcases hmem v hv with h | ⟨l, hl, rfl⟩
        · exact sl_trans (hb v h x) (sl_snoc x x hlt)
        · exact sl_snoc l x hlt
      · rcases Nat.lt_or_ge j i with h | h
        · rw [hat j (by omega)] at hu
          obtain ⟨v, g1, g2, g3⟩ := h3 j u h hu l hl
          exact ⟨v, hp.subset g1, g2, g3⟩
        · obtain rfl : j = i := by omega
          rw [hwi] at hu
          obtain rfl := Option.some.inj hu
          obtain ⟨v, g1, g2, g3⟩ := wround_cover (f := f) (s := s) w L _ hL (fun v hv l _ => hb v hv l) l hl
          exact ⟨v, by rw [e]; exact g1, g2, g3⟩
      · rcases hmem v hv with h | ⟨l, hl, rfl⟩
        · refine ⟨(h4 v h).1, ?_⟩
          rcases (h4 v h).2 with h5 | ⟨u, h5, l, h6, h7⟩
          · exact .inl h5
          · exact .inr ⟨u, hp.subset h5, l, h6, h7⟩
        · have hw := List.mem_of_getElem? hq
          refine ⟨fun x hx => ?_, .inr ⟨w, hp.subset hw, l, hl, rfl⟩⟩
          rcases List.mem_append.1 hx with h | h
          · exact (h4 w hw).1 x h
          · rw [List.mem_singleton.1 h]; exact hl
def ordw (f : α → Int → α) (s : α) (L : List Int) : List (List Int) := bfsw f s L (many 0)
theorem ordw_map : (ordw f s L).map (nodeOf f s) = ord f s L := bfsw_map _
theorem ordw_length : (ordw f s L).length = (ord f s L).length := bfsw_length _
theorem ordw_sorted (hL : L.Pairwise (· < ·)) : (ordw f s L).Pairwise sl := (bfsw_inv hL _).1
theorem ordw_over (hL : L.Pairwise (· < ·)) {v : List Int} (hv : v ∈ ordw f s L) : ∀ x ∈ v, x ∈ L := ((bfsw_inv hL _).2.2.2 v hv).1
theorem ordw_parent (hL : L.Pairwise (· < ·)) {u : List Int} {l : Int} (hv : u ++ [l] ∈ ordw f s L) : u ∈ ordw f s L := by
  rcases ((bfsw_inv hL _).2.2.2 _ hv).2 with h | ⟨u', h1, l', _, h3⟩
  · simp at h
  · have := List.append_inj' h3 rfl
    rw [this.1]; exact h1
theorem ordw_nil : [] ∈ ordw f s L := by
  have : ∀ i, [] ∈ bfsw f s L i := by
    intro i
    induction i with
    | zero => simp [bfsw]
    | succ i ih => exact (bfsw_prefix1 i).subset ih
  exact this _
theorem ordw_node {v w : List Int} (hv : v ∈ ordw f s L) (hw : w ∈ ordw f s L) (e : nodeOf f s v = nodeOf f s w) : v = w := by
  have h := ord_nodup (f := f) (s := s) (L := L)
  rw [← ordw_map] at h
  obtain ⟨i, hi, rfl⟩ := List.mem_iff_getElem.1 hv
  obtain ⟨j, hj, rfl⟩ := List.mem_iff_getElem.1 hw
  rcases Nat.lt_trichotomy i j with hij | rfl | hij
  · exact absurd (by rw [List.getElem_map, List.getElem_map]; exact e) (List.pairwise_iff_getElem.1 h i j (by simpa using hi) (by simpa using hj) hij)
  · rfl
  · exact absurd (by rw [List.getElem_map, List.getElem_map]; exact e.symm) (List.pairwise_iff_getElem.1 h j i (by simpa using hj) (by simpa using hi) hij)
theorem ordw_cover (hL : L.Pairwise (· < ·)) (hlen : (ord f s L).length ≤ 200) : ∀ (n : Nat) (v : List Int), v.length = n → (∀ x ∈ v, x ∈ L) → ∃ w ∈ ordw f s L, nodeOf f s w = nodeOf f s v ∧ sle w v := by
  intro n
  induction n with
  | zero =>
    intro v hv _
    obtain rfl := List.eq_nil_of_length_eq_zero hv
    exact ⟨[], ordw_nil, rfl, .inl rfl⟩
  | succ n ih =>
    intro v hv hx
    rcases List.eq_nil_or_concat v with rfl | ⟨u, l, rfl⟩
    · simp at hv
    · rw [List.concat_eq_append] at hv hx ⊢
      obtain ⟨w, h1, h2, h3⟩ := ih u (by simpa using hv) (fun x h => hx x (by simp [h]))
      obtain ⟨j, hj, hw⟩ := List.mem_iff_getElem.1 h1
      have hj2 : j < many 0 := by
        have := ordw_length (f := f) (s := s) (L := L)
        rw [many_eq]
        omega
      obtain ⟨w', g1, g2, g3⟩ := (bfsw_inv (f := f) (s := s) hL (many 0)).2.2.1 j w hj2 (by rw [← hw]; exact List.getElem?_eq_getElem hj) l (hx l (by simp))
      refine ⟨w', g1, ?_, sle_trans g3 (sle_snoc l h3)⟩
      rw [g2, nodeOf_snoc, nodeOf_snoc, h2]
def firstOf (f : α → Int → α) (s : α) (L : List Int) (G : α → Bool) : Option (List Int) := (ordw f s L).find? fun w => G (nodeOf f s w)
theorem first_some (hL : L.Pairwise (· < ·)) (hlen : (ord f s L).length ≤ 200) {G : α → Bool} {w : List Int} (h : firstOf f s L G = some w) : w ∈ ordw f s L ∧ G (nodeOf f s w) = true ∧ ∀ v : List Int, (∀ x ∈ v, x ∈ L) → G (nodeOf f s v) = true → sle w v := by
  obtain ⟨hg, aas, bs, e, has⟩ := List.find?_eq_some_iff_append.1 h
  refine ⟨List.mem_of_find?_eq_some h, hg, fun v hv hgv => ?_⟩
  obtain ⟨w', h1, h2, h3⟩ := ordw_cover hL hlen _ v rfl hv
  refine sle_trans ?_ h3
  rw [e] at h1
  rcases List.mem_append.1 h1 with h1 | h1
  · have := has w' h1
    rw [h2, hgv] at this
    simp at this
  · rcases List.mem_cons.1 h1 with rfl | h1
    · exact .inl rfl
    · have hs := ordw_sorted (f := f) (s := s) hL
      rw [e] at hs
      exact .inr ((List.pairwise_cons.1 (List.pairwise_append.1 hs).2.1).1 w' h1)
theorem first_none (hL : L.Pairwise (· < ·)) (hlen : (ord f s L).length ≤ 200) {G : α → Bool} (h : firstOf f s L G = none) : ∀ v : List Int, (∀ x ∈ v, x ∈ L) → G (nodeOf f s v) = false := by
  intro v hv
  obtain ⟨w', h1, h2, _⟩ := ordw_cover hL hlen _ v rfl hv
  have := List.find?_eq_none.1 h w' h1
  rw [h2] at this
  simpa using this
theorem ordw_take (hL : L.Pairwise (· < ·)) : ∀ (n : Nat) {v : List Int}, v ∈ ordw f s L → v.length - n ≤ v.length → v.take (v.length - n) ∈ ordw f s L := by
  intro n
  induction n with
  | zero => intro v hv _; rw [Nat.sub_zero, List.take_length]; exact hv
  | succ n ih =>
    intro v hv _
    have h := ih hv (by omega)
    rcases Nat.lt_or_ge n v.length with hlt | hge
    · have e : v.take (v.length - n) = v.take (v.length - (n + 1)) ++ [v[v.length - (n + 1)]] := by
        have h9 : v.length - n = (v.length - (n + 1)) + 1 := by omega
        rw [h9, List.take_succ_eq_append_getElem (by omega)]
      rw [e] at h
      exact ordw_parent hL h
    · rw [show v.length - (n + 1) = v.length - n by omega]; exact h
theorem ordw_pre (hL : L.Pairwise (· < ·)) {v : List Int} (hv : v ∈ ordw f s L) (k : Nat) : v.take k ∈ ordw f s L := by
  rcases Nat.lt_or_ge k v.length with h | h
  · have := ordw_take hL (v.length - k) hv (by omega)
    rwa [show v.length - (v.length - k) = k by omega] at this
  · rw [List.take_of_length_le h]; exact hv
theorem ordw_short (hL : L.Pairwise (· < ·)) {v : List Int} (hv : v ∈ ordw f s L) : v.length + 1 ≤ (ord f s L).length := by
  rw [← ordw_length]
  have h := nodup_len (xs := (List.range (v.length + 1)).map fun k => v.take k) (U := ordw f s L) (by
    refine List.pairwise_map.2 (List.Pairwise.imp_of_mem ?_ List.pairwise_lt_range)
    intro a b ha hb hab e
    have h1 := congrArg List.length e
    rw [List.length_take, List.length_take] at h1
    have := List.mem_range.1 hb
    omega) (fun q hq => by
    obtain ⟨k, _, rfl⟩ := List.mem_map.1 hq
    exact ordw_pre hL hv k)
  simpa using h
theorem first_self (hL : L.Pairwise (· < ·)) (hlen : (ord f s L).length ≤ 200) {w : List Int} (hw : w ∈ ordw f s L) : firstOf f s L (fun q => decide (q = nodeOf f s w)) = some w := by
  cases h : firstOf f s L (fun q => decide (q = nodeOf f s w)) with
  | none =>
    have := first_none hL hlen h w (ordw_over hL hw)
    simp at this
  | some u =>
    obtain ⟨h1, h2, _⟩ := first_some hL hlen h
    rw [ordw_node h1 hw (by simpa using h2)]
end
theorem letters_sorted (b : Int) : (letters b).Pairwise (· < ·) := by
  unfold letters lettersTo
  refine List.Pairwise.filter _ ?_
  refine List.pairwise_map.2 (List.Pairwise.imp ?_ List.pairwise_lt_range)
  intro x y h
  omega
end Go.Proofs.Ytdejmfkpohgamaa
