/-
  Walks, printed by a program out of the translation and a contract for each function; each step is one law.
-/
import Derived.Test.YtdejmfkpohgamaaWe
set_option linter.unusedSimpArgs false
set_option linter.unusedVariables false
namespace Go.Proofs.Ytdejmfkpohgamaa
open Go.RowKit

set_option maxRecDepth 100000 in
theorem l3Wrong_c (w0 : World) (rb : Nat) (bv : Value) (p : Int) (bs : List UInt8) (e0 : TypeId) (hR : Blk w0 rb 88 [bv, .int .i64 p]) (hb : Src w0 e0 bv bs rb) (hbl : bs.length ≤ 2000) (hp : 0 ≤ p ∧ p ≤ 700000000) (a : A) (nx ac : Value) (hnx : Rows w0 56 3 nx a.next) (hac : Bools w0 4 ac a.acc) (N : Nat) (hN : N ≤ 1000) (hsm : Small N a) : Ret Try.prog 46 #[Value.pointer (some ⟨rb, 0, none⟩), Value.agg #[Value.int .i64 a.al, nx, ac]] w0 (fun v w => (∃ p', (p ≤ p' ∧ p' ≤ p + 10) ∧ Blk w rb 88 [bv, .int .i64 p'] ∧ w0.grownBy w (some rb)) ∧ ∃ a', RowsA w v a' ∧ Small (N + 20) a') := by
  have G := World.grownBy.refl w0 (some rb)
  have hlt := hR.lt
  have hsm1 := hsm.2.1
  have hsm2 := hsm.2.2.1
  refine Ret.of (args := [Value.pointer (some ⟨rb, 0, none⟩), Value.agg #[Value.int .i64 a.al, nx, ac]]) Try.func46 rfl rfl rfl ?_
  rintro _ rfl
  show Cq _ _ _ _ [(0, Value.pointer (some ⟨rb, 0, none⟩)), (1, Value.agg #[Value.int .i64 a.al, nx, ac])] _
  refine Cq.seq ?_
  refine Cq.region ?_
  refine Sq.box .plain rfl rfl (fun b1 w2 e3 hB4 hlo5 => ?_)
  have hd6 := Nat.lt_of_lt_of_le hR.lt hlo5
  have hd7 := Nat.le_trans (World.grownBy.size G) hlo5
  have hs8 := Below.size e3
  replace hR := hR.ext e3
  replace G := grown_trans G (Ext.to_grown e3 _)
  replace hnx := hnx.ext e3
  replace hac := hac.ext e3
  refine Sq.alloc zero26 .plain rfl (fun b9 w10 e11 hB12 hlo13 => ?_)
  have hd14 := Nat.lt_of_lt_of_le hR.lt hlo13
  have hd15 := Nat.le_trans (World.grownBy.size G) hlo13
  have hd16 := Nat.lt_of_lt_of_le hB4.lt hlo13
  have hs17 := Below.size e11
  replace hR := hR.ext e11
  replace G := grown_trans G (Ext.to_grown e11 _)
  replace hnx := hnx.ext e11
  replace hac := hac.ext e11
  replace hB4 := hB4.ext e11
  refine Sq.nil ?_
  refine Eq.next ?_
  refine Cq.seq ?_
  refine Cq.region ?_
  refine Sq.loadAgg agg26 .plain rfl rfl hB4 rfl ?_
  have hd25 := hR.lt
  have hd26 := hB4.lt
  have hd27 := hB12.lt
  refine Sq.call fn88 .plain rfl rfl (l3Copy_c _ a _ _ hnx hac (hsm.fit (by omega))) ?_
  rintro _ w19 ⟨⟨nx21, ac22, rfl, hn23, ha24⟩, e20⟩
  have hs28 := World.grownBy.size G
  have hs29 := Below.size e20
  replace hR := hR.ext e20
  replace G := grown_trans G (Ext.to_grown e20 _)
  replace hnx := hnx.ext e20
  replace hac := hac.ext e20
  replace hB4 := hB4.ext e20
  replace hB12 := hB12.ext e20
  refine Sq.alloc zero26 .plain rfl (fun b30 w31 e32 hB33 hlo34 => ?_)
  have hd35 := Nat.lt_of_lt_of_le hR.lt hlo34
  have hd36 := Nat.le_trans (World.grownBy.size G) hlo34
  have hd37 := Nat.lt_of_lt_of_le hB4.lt hlo34
  have hd38 := Nat.lt_of_lt_of_le hB12.lt hlo34
  have hs39 := Below.size e32
  replace hR := hR.ext e32
  replace G := grown_trans G (Ext.to_grown e32 _)
  replace hnx := hnx.ext e32
  replace hac := hac.ext e32
  replace hB4 := hB4.ext e32
  replace hB12 := hB12.ext e32
  replace hn23 := hn23.ext e32
  replace ha24 := ha24.ext e32
  refine Sq.storeAgg agg26 .plain rfl rfl (one_cons rfl (one_cons (Rows.one (OwnRows.rows hn23)) (one_cons (Row.one (Own.row ha24)) one_nil))) hB33 rfl rfl (fun w40 g41 hB42 => ?_)
  have hs43 := World.grownBy.size g41
  replace hR := hR.grown g41 (by intro h; injection h with h; omega)
  replace G := grown_far G g41 (fun k hk => by injection hk with hk; subst hk; omega)
  replace hnx := hnx.stored g41 hB33 (by decide) (by decide)
  replace hac := hac.stored g41 hB33 (by decide)
  replace hB4 := hB4.grown g41 (by intro h; injection h with h; omega)
  replace hB12 := hB12.grown g41 (by intro h; injection h with h; omega)
  replace hn23 := hn23.stored g41 hB33 (by decide) (by decide)
  replace ha24 := ha24.stored g41 hB33 (by decide)
  replace hB33 := hB42
  refine Sq.nil ?_
  refine Eq.next ?_
  refine Cq.seq ?_
  refine Cq.region ?_
  refine Sq.fieldAddr fld26_1 .plain rfl rfl ?_
  refine Sq.loadB one23 .plain rfl rfl hB33 rfl ?_
  refine Sq.lenRows (OwnRows.rows hn23) .plain rfl und23 rfl ?_
  refine Sq.assign .plain rfl rfl ?_
  refine Sq.nil ?_
  refine Eq.next ?_
  refine Cq.seq ?_
  refine Cq.region ?_
  refine Sq.move .plain rfl rfl ?_
  refine Sq.move .plain rfl rfl ?_
  refine Sq.call fn43 .plain rfl rfl (pick_c _ _ _ _ _ _ hR (hb.go G) hbl (by omega) (List.length a.next : Int) (by omega)) ?_
  rintro _ w45 ⟨⟨p46, hp49, hB48, g47⟩, ⟨k50, rfl, hk51⟩⟩
  have hs52 := World.grownBy.size g47
  have hs53 := World.grownBy.size G
  have hs54 := World.grownBy.size g47
  replace G := grown_trans G g47
  replace hB4 := hB4.grown g47 (by intro h; injection h with h; omega)
  replace hB12 := hB12.grown g47 (by intro h; injection h with h; omega)
  replace hn23 := hn23.stored g47 hR (by decide) (by decide)
  replace ha24 := ha24.stored g47 hR (by decide)
  replace hB33 := hB33.grown g47 (by intro h; injection h with h; omega)
  replace hR := hB48
  have hrowk := hsm.rowAt (k := k50.toNat)
  refine Sq.assign .plain rfl rfl ?_
  refine Sq.nil ?_
  refine Eq.next ?_
  refine Cq.seq ?_
  refine Cq.seq ?_
  refine Cq.region ?_
  refine Sq.move .plain rfl rfl ?_
  refine Sq.call fn43 .plain rfl rfl (pick_c _ _ _ _ _ _ hR (hb.go G) hbl (by omega) 30 (by omega)) ?_
  rintro _ w56 ⟨⟨p57, hp60, hB59, g58⟩, ⟨k61, rfl, hk62⟩⟩
  have hs63 := World.grownBy.size g58
  have hs64 := World.grownBy.size G
  have hs65 := World.grownBy.size g58
  replace G := grown_trans G g58
  replace hB4 := hB4.grown g58 (by intro h; injection h with h; omega)
  replace hB12 := hB12.grown g58 (by intro h; injection h with h; omega)
  replace hn23 := hn23.stored g58 hR (by decide) (by decide)
  replace ha24 := ha24.stored g58 hR (by decide)
  replace hB33 := hB33.grown g58 (by intro h; injection h with h; omega)
  replace hR := hB59
  refine Sq.nil ?_
  refine Eq.next ?_
  refine Cq.block ?_
  refine Cq.seq ?_
  refine Cq.region ?_
  refine Sq.eql .plain rfl rfl rfl ?_
  refine Sq.part (fun c66 => ?_) (fun c66 => ?_)
  · refine Sq.assign .plain rfl rfl ?_
    refine Sq.nil ?_
    refine Eq.next ?_
    refine Cq.thn rfl ?_
    refine Cq.region ?_
    refine Sq.move .plain rfl rfl ?_
    refine Sq.lit sl56 rfl rfl .plain rfl rfl (one_cons rfl (one_cons rfl (one_cons rfl (one_cons rfl (one_cons rfl one_nil))))) (fun b67 w68 e69 hlo70 ho71 _ => ?_)
    replace ho71 := ho71 w56.heap.size (Nat.le_refl _)
    have hs73 := Below.size e69
    replace hR := hR.ext e69
    replace G := grown_trans G (Ext.to_grown e69 _)
    replace hB4 := hB4.ext e69
    replace hB12 := hB12.ext e69
    replace hn23 := hn23.ext e69
    replace ha24 := ha24.ext e69
    replace hB33 := hB33.ext e69
    refine Sq.call fn47 .plain rfl rfl (num_c _ _ _ _ _ _ hR (hb.go G) hbl (by omega) _ [64, -1, 1, 63, 0] (Own.row ho71) (by simp)) ?_
    rintro _ w75 ⟨⟨p76, hp79, hB78, g77⟩, ⟨k80, rfl, hm81⟩⟩
    have hs82 := World.grownBy.size g77
    have hs83 := World.grownBy.size G
    have hs84 := World.grownBy.size g77
    replace G := grown_trans G g77
    replace hB4 := hB4.grown g77 (by intro h; injection h with h; omega)
    replace hB12 := hB12.grown g77 (by intro h; injection h with h; omega)
    replace hn23 := hn23.stored g77 hR (by decide) (by decide)
    replace ha24 := ha24.stored g77 hR (by decide)
    replace hB33 := hB33.grown g77 (by intro h; injection h with h; omega)
    replace ho71 := ho71.stored g77 hR (by decide)
    replace hR := hB78
    simp only [List.mem_cons, List.not_mem_nil, or_false] at hm81
    refine Sq.fieldAddr fld26_0 .plain rfl rfl ?_
    refine Sq.store one3 .plain rfl rfl rfl hB33 (by simp) (fun w85 g86 hB87 => ?_)
    have hs88 := World.grownBy.size g86
    replace hR := hR.grown g86 (by intro h; injection h with h; omega)
    replace G := grown_far G g86 (fun k hk => by injection hk with hk; subst hk; omega)
    replace hB4 := hB4.grown g86 (by intro h; injection h with h; omega)
    replace hB12 := hB12.grown g86 (by intro h; injection h with h; omega)
    replace hn23 := hn23.stored g86 hB33 (by decide) (by decide)
    replace ha24 := ha24.stored g86 hB33 (by decide)
    replace ho71 := ho71.stored g86 hB33 (by decide)
    replace hB33 := hB87
    refine Sq.nil ?_
    refine Eq.end ?_
    refine Eq.next ?_
    refine Cq.seq ?_
    refine Cq.region ?_
    refine Sq.loadAgg agg26 .plain rfl rfl hB33 rfl ?_
    refine Sq.storeAgg agg26 .plain rfl rfl (one_cons rfl (one_cons (Rows.one (OwnRows.rows hn23)) (one_cons (Row.one (Own.row ha24)) one_nil))) hB12 rfl rfl (fun w89 g90 hB91 => ?_)
    have hs92 := World.grownBy.size g90
    replace hR := hR.grown g90 (by intro h; injection h with h; omega)
    replace G := grown_far G g90 (fun k hk => by injection hk with hk; subst hk; omega)
    replace hB4 := hB4.grown g90 (by intro h; injection h with h; omega)
    replace hn23 := hn23.stored g90 hB12 (by decide) (by decide)
    replace ha24 := ha24.stored g90 hB12 (by decide)
    replace hB33 := hB33.grown g90 (by intro h; injection h with h; omega)
    replace ho71 := ho71.stored g90 hB12 (by decide)
    replace hB12 := hB91
    refine Sq.nil ?_
    refine Eq.next ?_
    refine Cq.ret ?_
    refine Eq.retCell rfl rfl agg26 hB12 rfl ?_
    exact ⟨⟨_, by omega, hR, G⟩, ⟨k80, a.next, a.acc⟩, ⟨_, _, rfl, (OwnRows.rows hn23), (Own.row ha24)⟩, hsm.same (by omega) (by omega)⟩
  · refine Sq.assign .plain rfl rfl ?_
    refine Sq.nil ?_
    refine Eq.next ?_
    refine Cq.els rfl ?_
    refine Cq.seq ?_
    refine Cq.region ?_
    refine Sq.eql .plain rfl rfl rfl ?_
    refine Sq.part (fun c93 => ?_) (fun c93 => ?_)
    · refine Sq.assign .plain rfl rfl ?_
      refine Sq.nil ?_
      refine Eq.next ?_
      refine Cq.thn rfl ?_
      refine Cq.region ?_
      refine Sq.fieldAddr fld26_2 .plain rfl rfl ?_
      refine Sq.loadB one24 .plain rfl rfl hB33 rfl ?_
      refine Sq.app1 sl24 ha24 (by omega) (by first | omega | (simp; omega)) .plain rfl rfl rfl rfl rfl rfl rfl (fun v94 w95 ho97 g96 _ => ?_)
      have hs98 := g96.size
      replace hR := hR.owned ha24 g96 (by decide)
      replace G := grown_new G ha24 g96 (by omega)
      replace hB4 := hB4.owned ha24 g96 (by decide)
      replace hB12 := hB12.owned ha24 g96 (by decide)
      replace hn23 := hn23.owned ha24 g96 (by decide) (by decide)
      replace hB33 := hB33.owned ha24 g96 (by decide)
      refine Sq.fieldAddr fld26_2 .plain rfl rfl ?_
      refine Sq.store one24 .plain rfl rfl (Row.one (Own.row ho97)) hB33 (by simp) (fun w99 g100 hB101 => ?_)
      have hs102 := World.grownBy.size g100
      replace hR := hR.grown g100 (by intro h; injection h with h; omega)
      replace G := grown_far G g100 (fun k hk => by injection hk with hk; subst hk; omega)
      replace hB4 := hB4.grown g100 (by intro h; injection h with h; omega)
      replace hB12 := hB12.grown g100 (by intro h; injection h with h; omega)
      replace hn23 := hn23.stored g100 hB33 (by decide) (by decide)
      replace ho97 := ho97.stored g100 hB33 (by decide)
      replace hB33 := hB101
      refine Sq.nil ?_
      refine Eq.end ?_
      refine Eq.next ?_
      refine Cq.seq ?_
      refine Cq.region ?_
      refine Sq.loadAgg agg26 .plain rfl rfl hB33 rfl ?_
      refine Sq.storeAgg agg26 .plain rfl rfl (one_cons rfl (one_cons (Rows.one (OwnRows.rows hn23)) (one_cons (Row.one (Own.row ho97)) one_nil))) hB12 rfl rfl (fun w103 g104 hB105 => ?_)
      have hs106 := World.grownBy.size g104
      replace hR := hR.grown g104 (by intro h; injection h with h; omega)
      replace G := grown_far G g104 (fun k hk => by injection hk with hk; subst hk; omega)
      replace hB4 := hB4.grown g104 (by intro h; injection h with h; omega)
      replace hn23 := hn23.stored g104 hB12 (by decide) (by decide)
      replace hB33 := hB33.grown g104 (by intro h; injection h with h; omega)
      replace ho97 := ho97.stored g104 hB12 (by decide)
      replace hB12 := hB105
      refine Sq.nil ?_
      refine Eq.next ?_
      refine Cq.ret ?_
      refine Eq.retCell rfl rfl agg26 hB12 rfl ?_
      exact ⟨⟨_, by omega, hR, G⟩, ⟨a.al, a.next, a.acc ++ [true]⟩, ⟨_, _, rfl, (OwnRows.rows hn23), (Own.row (Own.snocB ho97))⟩, hsm.push (by omega)⟩
    · refine Sq.assign .plain rfl rfl ?_
      refine Sq.nil ?_
      refine Eq.next ?_
      refine Cq.els rfl ?_
      refine Cq.seq ?_
      refine Cq.region ?_
      refine Sq.eql .plain rfl rfl rfl ?_
      refine Sq.part (fun c107 => ?_) (fun c107 => ?_)
      · refine Sq.assign .plain rfl rfl ?_
        refine Sq.nil ?_
        refine Eq.next ?_
        refine Cq.thn rfl ?_
        refine Cq.seq ?_
        refine Cq.region ?_
        refine Sq.move .plain rfl rfl ?_
        refine Sq.gtr .plain rfl rfl rfl ?_
        refine Sq.part (fun c108 => ?_) (fun c108 => ?_)
        · refine Sq.nil ?_
          refine Eq.next ?_
          refine Cq.thn rfl ?_
          obtain ⟨pA, rA, hpA, _⟩ := Rows.at (OwnRows.rows hn23) (i := k50) (by omega) (by omega)
          have hrA := (OwnRows.rowAt hn23 hpA).1
          obtain ⟨_, hoA, _, _⟩ := OwnRows.open hn23 (by decide)
          have hpAo := AtO.of hoA hpA
          refine Cq.drawS 10 (fun w' => Blk w' b30 26 [Value.int .i64 a.al, nx21, ac22] ∧ At w' 56 nx21 k50 pA rA) mixed (⟨hB33, hpA⟩) (fun w109 e110 hS => ?_)
          clear hS
          have hs111 := Below.size e110
          replace hR := hR.ext e110
          replace G := grown_trans G (Ext.to_grown e110 _)
          replace hB4 := hB4.ext e110
          replace hB12 := hB12.ext e110
          replace hn23 := hn23.ext e110
          replace ha24 := ha24.ext e110
          replace hB33 := hB33.ext e110
          replace hpA := hpA.ext e110
          replace hrA := hrA.ext e110
          have hR_w109 := hR
          have G_w109 := G
          have hB4_w109 := hB4
          have hB12_w109 := hB12
          have hn23_w109 := hn23
          have ha24_w109 := ha24
          have hB33_w109 := hB33
          have hpA_w109 := hpA
          have hrA_w109 := hrA
          refine Gq.st 0 rfl (by kernel_rfl) rfl .plain rfl (fun _ _ _ h => h) ⟨hB33, hpA⟩ (fun w' x => Still.fieldAddr fld26_1 rfl) ?_
          refine Gq.st 1 rfl (by kernel_rfl) rfl .plain rfl (fun _ _ _ h => h) ⟨hB33, hpA⟩ (fun w' x => Still.loadB one23 rfl x.1 rfl) ?_
          refine Gq.st 2 rfl (by kernel_rfl) rfl .plain rfl (fun _ _ _ h => h) ⟨hB33, hpA⟩ (fun w' x => Still.move rfl) ?_
          refine Gq.st 3 rfl (by kernel_rfl) rfl .plain rfl (fun _ _ _ h => h) ⟨hB33, hpA⟩ (fun w' x => Still.fieldAddr fld26_1 rfl) ?_
          refine Gq.st 4 rfl (by kernel_rfl) rfl .plain rfl (fun _ _ _ h => h) ⟨hB33, hpA⟩ (fun w' x => Still.loadB one23 rfl x.1 rfl) ?_
          refine Gq.st 5 rfl (by kernel_rfl) rfl .plain rfl (fun _ _ _ h => h) ⟨hB33, hpA⟩ (fun w' x => Still.move rfl) ?_
          refine Gq.st 6 rfl (by kernel_rfl) rfl .plain rfl (fun _ _ _ h => h) ⟨hB33, hpA⟩ (fun w' x => Still.at' sl23 hpA rfl rfl) ?_
          refine Gq.st 7 rfl (by kernel_rfl) rfl .plain rfl (fun _ _ _ h => h) ⟨hB33, hpA⟩ (fun w' x => Still.loadA one56 rfl (x.2).1) ?_
          refine Gq.one 8 rfl (by kernel_rfl) ?_
          refine Sq.lit sl56 rfl rfl .plain rfl rfl (one_cons rfl one_nil) (fun b112 w113 e114 hlo115 ho116 _ => ?_)
          replace ho116 := ho116 w109.heap.size (Nat.le_refl _)
          have hs118 := Below.size e114
          replace hR := hR.ext e114
          replace G := grown_trans G (Ext.to_grown e114 _)
          replace hB4 := hB4.ext e114
          replace hB12 := hB12.ext e114
          replace hn23 := hn23.ext e114
          replace ha24 := ha24.ext e114
          replace hB33 := hB33.ext e114
          replace hpA := hpA.ext e114
          replace hrA := hrA.ext e114
          refine Sq.nil ?_
          refine Eq.goes (fun _ => ⟨hB33, hpA⟩) ?_
          refine Gq.one 9 rfl (by kernel_rfl) ?_
          refine Sq.app sl56 hrA (by omega) (Own.row ho116) (one_cons rfl one_nil) (by simp only [List.length_map, List.length_cons, List.length_nil]; omega) .plain rfl rfl rfl rfl (fun v119 w120 ho121 g122 => ?_)
          obtain ⟨rsA, hoB, hswap⟩ := OwnRows.swap hn23 (by decide) hpA (Own.snocI ho121) g122
          replace hR := hR.owned hrA g122 (by decide)
          replace G := grown_new G hrA g122 (by omega)
          replace hB4 := hB4.owned hrA g122 (by decide)
          replace hB12 := hB12.owned hrA g122 (by decide)
          replace ha24 := ha24.owned hrA g122 (by decide)
          replace hB33 := hB33.owned hrA g122 (by decide)
          replace hpA := hpA.owned hrA g122 (by decide)
          refine Sq.nil ?_
          refine Eq.goes (fun _ => ⟨hB33, hpA⟩) ?_
          refine Gq.one 10 rfl (by kernel_rfl) ?_
          refine Sq.val .plain rfl rfl (Still.at' sl23 hpA rfl rfl) ?_
          refine Sq.nil ?_
          refine Eq.goes (fun h => absurd h (by decide)) ?_
          refine Gq.one 11 rfl (by kernel_rfl) ?_
          refine Sq.storeO one56 hoB hpAo .plain rfl rfl (Row.one (Own.row ho121)) (fun w123 g124 ho125 => ?_)
          have hnA := hswap _ g124 ho125
          replace hR := hR.owned hoB g124 (by decide)
          replace G := grown_new G hoB g124 (by omega)
          replace hB4 := hB4.owned hoB g124 (by decide)
          replace hB12 := hB12.owned hoB g124 (by decide)
          replace ha24 := ha24.owned hoB g124 (by decide)
          replace hB33 := hB33.owned hoB g124 (by decide)
          replace ho121 := ho121.owned hoB g124 (by decide)
          refine Sq.nil ?_
          refine Eq.goes (fun h => absurd h (by decide)) ?_
          refine Gq.done (by kernel_rfl) ?_
          refine Eq.end ?_
          refine Eq.next ?_
          refine Cq.seq ?_
          refine Cq.region ?_
          refine Sq.loadAgg agg26 .plain rfl rfl hB33 rfl ?_
          refine Sq.storeAgg agg26 .plain rfl rfl (one_cons rfl (one_cons (Rows.one hnA) (one_cons (Row.one (Own.row ha24)) one_nil))) hB12 rfl rfl (fun w126 g127 hB128 => ?_)
          have hs129 := World.grownBy.size g127
          replace hR := hR.grown g127 (by intro h; injection h with h; omega)
          replace G := grown_far G g127 (fun k hk => by injection hk with hk; subst hk; omega)
          replace hB4 := hB4.grown g127 (by intro h; injection h with h; omega)
          replace ha24 := ha24.stored g127 hB12 (by decide)
          replace hB33 := hB33.grown g127 (by intro h; injection h with h; omega)
          replace hnA := hnA.stored g127 hB12 (by decide) (by decide)
          replace hB12 := hB128
          refine Sq.nil ?_
          refine Eq.next ?_
          refine Cq.ret ?_
          refine Eq.retCell rfl rfl agg26 hB12 rfl ?_
          exact ⟨⟨_, by omega, hR, G⟩, ⟨a.al, (a.next.set k50.toNat (a.next.getD k50.toNat [] ++ [0])), a.acc⟩, ⟨_, _, rfl, hnA, (Own.row ha24)⟩, hsm.row (by omega) (by have := hsm.rowAt (k := k50.toNat); simp only [List.length_append, List.length_cons, List.length_nil]; omega)⟩
        · refine Sq.nil ?_
          refine Eq.next ?_
          refine Cq.els rfl ?_
          refine Cq.skip ?_
          refine Eq.end ?_
          refine Eq.next ?_
          refine Cq.seq ?_
          refine Cq.region ?_
          refine Sq.loadAgg agg26 .plain rfl rfl hB33 rfl ?_
          refine Sq.storeAgg agg26 .plain rfl rfl (one_cons rfl (one_cons (Rows.one (OwnRows.rows hn23)) (one_cons (Row.one (Own.row ha24)) one_nil))) hB12 rfl rfl (fun w130 g131 hB132 => ?_)
          have hs133 := World.grownBy.size g131
          replace hR := hR.grown g131 (by intro h; injection h with h; omega)
          replace G := grown_far G g131 (fun k hk => by injection hk with hk; subst hk; omega)
          replace hB4 := hB4.grown g131 (by intro h; injection h with h; omega)
          replace hn23 := hn23.stored g131 hB12 (by decide) (by decide)
          replace ha24 := ha24.stored g131 hB12 (by decide)
          replace hB33 := hB33.grown g131 (by intro h; injection h with h; omega)
          replace hB12 := hB132
          refine Sq.nil ?_
          refine Eq.next ?_
          refine Cq.ret ?_
          refine Eq.retCell rfl rfl agg26 hB12 rfl ?_
          exact ⟨⟨_, by omega, hR, G⟩, a, ⟨_, _, rfl, (OwnRows.rows hn23), (Own.row ha24)⟩, hsm.mono (by omega)⟩
      · refine Sq.assign .plain rfl rfl ?_
        refine Sq.nil ?_
        refine Eq.next ?_
        refine Cq.els rfl ?_
        refine Cq.seq ?_
        refine Cq.region ?_
        refine Sq.eql .plain rfl rfl rfl ?_
        refine Sq.part (fun c134 => ?_) (fun c134 => ?_)
        · refine Sq.assign .plain rfl rfl ?_
          refine Sq.nil ?_
          refine Eq.next ?_
          refine Cq.thn rfl ?_
          refine Cq.seq ?_
          refine Cq.region ?_
          refine Sq.move .plain rfl rfl ?_
          refine Sq.gtr .plain rfl rfl rfl ?_
          refine Sq.part (fun c135 => ?_) (fun c135 => ?_)
          · refine Sq.move .plain rfl rfl ?_
            refine Sq.fieldAddr fld26_1 (.met rfl rfl rfl) rfl rfl ?_
            refine Sq.loadB one23 (.met rfl rfl rfl) rfl rfl hB33 rfl ?_
            refine Sq.move (.met rfl rfl rfl) rfl rfl ?_
            refine Sq.idxRows sl23 one56 (OwnRows.rows hn23) (.met rfl rfl rfl) rfl rfl rfl (.met rfl rfl rfl) rfl rfl (by omega) (by omega) (fun r136 hr137 => ?_)
            refine Sq.lenInts hr137 (.met rfl rfl rfl) rfl und56 rfl ?_
            refine Sq.gtr (.met rfl rfl rfl) rfl rfl rfl ?_
            refine Sq.part (fun c138 => ?_) (fun c138 => ?_)
            · refine Sq.pickT .plain rfl rfl rfl ?_
              refine Sq.nil ?_
              refine Eq.next ?_
              refine Cq.thn rfl ?_
              refine Cq.seq ?_
              refine Cq.region ?_
              refine Sq.move .plain rfl rfl ?_
              refine Sq.fieldAddr fld26_1 .plain rfl rfl ?_
              refine Sq.loadB one23 .plain rfl rfl hB33 rfl ?_
              refine Sq.move .plain rfl rfl ?_
              refine Sq.idxRows sl23 one56 (OwnRows.rows hn23) .plain rfl rfl rfl .plain rfl rfl (by omega) (by omega) (fun r139 hr140 => ?_)
              refine Sq.lenInts hr140 .plain rfl und56 rfl ?_
              refine Sq.call fn43 .plain rfl rfl (pick_c _ _ _ _ _ _ hR (hb.go G) hbl (by omega) ((List.length (a.next.getD k50.toNat []) : Int)) (by omega)) ?_
              rintro _ w142 ⟨⟨p143, hp146, hB145, g144⟩, ⟨k147, rfl, hk148⟩⟩
              have hs149 := World.grownBy.size g144
              have hs150 := World.grownBy.size G
              have hs151 := World.grownBy.size g144
              replace G := grown_trans G g144
              replace hB4 := hB4.grown g144 (by intro h; injection h with h; omega)
              replace hB12 := hB12.grown g144 (by intro h; injection h with h; omega)
              replace hn23 := hn23.stored g144 hR (by decide) (by decide)
              replace ha24 := ha24.stored g144 hR (by decide)
              replace hB33 := hB33.grown g144 (by intro h; injection h with h; omega)
              replace hr137 := hr137.stored g144 hR (by decide)
              replace hr140 := hr140.stored g144 hR (by decide)
              replace hR := hB145
              refine Sq.assign .plain rfl rfl ?_
              refine Sq.nil ?_
              refine Eq.next ?_
              obtain ⟨pA, rA, hpA, _⟩ := Rows.at (OwnRows.rows hn23) (i := k50) (by omega) (by omega)
              have hrA := (OwnRows.rowAt hn23 hpA).1
              obtain ⟨_, hoA, _, _⟩ := OwnRows.open hn23 (by decide)
              have hpAo := AtO.of hoA hpA
              obtain ⟨pJ, hpJo⟩ := Own.at hrA (i := k147) (by omega) (by rw [List.length_map]; omega)
              refine Cq.drawS 12 (fun w' => Blk w' b30 26 [Value.int .i64 a.al, nx21, ac22] ∧ At w' 56 nx21 k50 pA rA) mixed (⟨hB33, hpA⟩) (fun w152 e153 hS => ?_)
              clear hS
              have hs154 := Below.size e153
              replace hR := hR.ext e153
              replace G := grown_trans G (Ext.to_grown e153 _)
              replace hB4 := hB4.ext e153
              replace hB12 := hB12.ext e153
              replace hn23 := hn23.ext e153
              replace ha24 := ha24.ext e153
              replace hB33 := hB33.ext e153
              replace hr137 := hr137.ext e153
              replace hr140 := hr140.ext e153
              replace hpA := hpA.ext e153
              replace hrA := hrA.ext e153
              have hR_w152 := hR
              have G_w152 := G
              have hB4_w152 := hB4
              have hB12_w152 := hB12
              have hn23_w152 := hn23
              have ha24_w152 := ha24
              have hB33_w152 := hB33
              have hr137_w152 := hr137
              have hr140_w152 := hr140
              have hpA_w152 := hpA
              have hrA_w152 := hrA
              refine Gq.st 0 rfl (by kernel_rfl) rfl .plain rfl (fun _ _ _ h => h) ⟨hB33, hpA⟩ (fun w' x => Still.fieldAddr fld26_1 rfl) ?_
              refine Gq.st 1 rfl (by kernel_rfl) rfl .plain rfl (fun _ _ _ h => h) ⟨hB33, hpA⟩ (fun w' x => Still.loadB one23 rfl x.1 rfl) ?_
              refine Gq.st 2 rfl (by kernel_rfl) rfl .plain rfl (fun _ _ _ h => h) ⟨hB33, hpA⟩ (fun w' x => Still.move rfl) ?_
              refine Gq.st 3 rfl (by kernel_rfl) rfl .plain rfl (fun _ _ _ h => h) ⟨hB33, hpA⟩ (fun w' x => Still.at' sl23 hpA rfl rfl) ?_
              refine Gq.st 4 rfl (by kernel_rfl) rfl .plain rfl (fun _ _ _ h => h) ⟨hB33, hpA⟩ (fun w' x => Still.loadA one56 rfl (x.2).1) ?_
              refine Gq.st 5 rfl (by kernel_rfl) rfl .plain rfl (fun _ _ _ h => h) ⟨hB33, hpA⟩ (fun w' x => Still.move rfl) ?_
              refine Gq.st 6 rfl (by kernel_rfl) rfl .plain rfl (fun _ _ _ h => h) ⟨hB33, hpA⟩ (fun w' x => Still.move rfl) ?_
              refine Gq.st 7 rfl (by kernel_rfl) rfl .plain rfl (fun _ _ _ h => h) ⟨hB33, hpA⟩ (fun w' x => Still.move rfl) ?_
              refine Gq.st 8 rfl (by kernel_rfl) rfl .plain rfl (fun _ _ _ h => h) ⟨hB33, hpA⟩ (fun w' x => Still.move rfl) ?_
              refine Gq.st 9 rfl (by kernel_rfl) rfl .plain rfl (fun _ _ _ h => h) ⟨hB33, hpA⟩ (fun w' x => Still.sub rfl rfl (by omega)) ?_
              refine Gq.one 10 rfl (by kernel_rfl) ?_
              refine Sq.lit sl56 rfl rfl .plain rfl rfl (one_cons rfl (one_cons rfl (one_cons rfl (one_cons rfl one_nil)))) (fun b155 w156 e157 hlo158 ho159 _ => ?_)
              replace ho159 := ho159 w152.heap.size (Nat.le_refl _)
              have hs161 := Below.size e157
              replace hR := hR.ext e157
              replace G := grown_trans G (Ext.to_grown e157 _)
              replace hB4 := hB4.ext e157
              replace hB12 := hB12.ext e157
              replace hn23 := hn23.ext e157
              replace ha24 := ha24.ext e157
              replace hB33 := hB33.ext e157
              replace hr137 := hr137.ext e157
              replace hr140 := hr140.ext e157
              replace hpA := hpA.ext e157
              replace hrA := hrA.ext e157
              refine Sq.nil ?_
              refine Eq.goes (fun _ => ⟨hB33, hpA⟩) ?_
              refine Gq.one 11 rfl (by kernel_rfl) ?_
              refine Sq.call fn47 .plain rfl rfl (num_c _ _ _ _ _ _ hR (hb.go G) hbl (by omega) _ [-1, (List.length a.next : Int), (List.length a.next : Int) - 1, 0] (Own.row ho159) (by simp)) ?_
              rintro _ w163 ⟨⟨p164, hp167, hB166, g165⟩, ⟨k168, rfl, hm169⟩⟩
              have hs170 := World.grownBy.size g165
              have hs171 := World.grownBy.size G
              have hs172 := World.grownBy.size g165
              replace G := grown_trans G g165
              replace hB4 := hB4.grown g165 (by intro h; injection h with h; omega)
              replace hB12 := hB12.grown g165 (by intro h; injection h with h; omega)
              replace hn23 := hn23.stored g165 hR (by decide) (by decide)
              replace ha24 := ha24.stored g165 hR (by decide)
              replace hB33 := hB33.grown g165 (by intro h; injection h with h; omega)
              replace hr137 := hr137.stored g165 hR (by decide)
              replace hr140 := hr140.stored g165 hR (by decide)
              replace hpA := hpA.stored g165 hR (by decide)
              replace hrA := hrA.stored g165 hR (by decide)
              replace ho159 := ho159.stored g165 hR (by decide)
              replace hR := hB166
              simp only [List.mem_cons, List.not_mem_nil, or_false] at hm169
              refine Sq.nil ?_
              refine Eq.goes (fun _ => ⟨hB33, hpA⟩) ?_
              refine Gq.one 12 rfl (by kernel_rfl) ?_
              refine Sq.atO sl56 hpJo .plain rfl rfl rfl ?_
              refine Sq.nil ?_
              refine Eq.goes (fun h => absurd h (by decide)) ?_
              refine Gq.one 13 rfl (by kernel_rfl) ?_
              refine Sq.storeO one3 hrA hpJo .plain rfl rfl rfl (fun w173 g174 ho175 => ?_)
              have hs176 := World.grownBy.size g174
              rw [← List.map_set] at ho175
              replace hn23 := (OwnRows.set hn23 (by decide) hpA ho175 g174).1
              replace hR := hR.owned hrA g174 (by decide)
              replace G := grown_new G hrA g174 (by omega)
              replace hB4 := hB4.owned hrA g174 (by decide)
              replace hB12 := hB12.owned hrA g174 (by decide)
              replace ha24 := ha24.owned hrA g174 (by decide)
              replace hB33 := hB33.owned hrA g174 (by decide)
              replace hrA := ho175
              refine Sq.nil ?_
              refine Eq.goes (fun h => absurd h (by decide)) ?_
              refine Gq.done (by kernel_rfl) ?_
              refine Eq.end ?_
              refine Eq.next ?_
              refine Cq.seq ?_
              refine Cq.region ?_
              refine Sq.loadAgg agg26 .plain rfl rfl hB33 rfl ?_
              refine Sq.storeAgg agg26 .plain rfl rfl (one_cons rfl (one_cons (Rows.one (OwnRows.rows hn23)) (one_cons (Row.one (Own.row ha24)) one_nil))) hB12 rfl rfl (fun w177 g178 hB179 => ?_)
              have hs180 := World.grownBy.size g178
              replace hR := hR.grown g178 (by intro h; injection h with h; omega)
              replace G := grown_far G g178 (fun k hk => by injection hk with hk; subst hk; omega)
              replace hB4 := hB4.grown g178 (by intro h; injection h with h; omega)
              replace hn23 := hn23.stored g178 hB12 (by decide) (by decide)
              replace ha24 := ha24.stored g178 hB12 (by decide)
              replace hB33 := hB33.grown g178 (by intro h; injection h with h; omega)
              replace hB12 := hB179
              refine Sq.nil ?_
              refine Eq.next ?_
              refine Cq.ret ?_
              refine Eq.retCell rfl rfl agg26 hB12 rfl ?_
              exact ⟨⟨_, by omega, hR, G⟩, ⟨a.al, a.next.set k50.toNat ((a.next.getD k50.toNat []).set k147.toNat k168), a.acc⟩, ⟨_, _, rfl, (OwnRows.rows hn23), (Own.row ha24)⟩, hsm.row (by omega) (by have := hsm.rowAt (k := k50.toNat); rw [List.length_set]; omega)⟩
            · refine Sq.pickT .plain rfl rfl rfl ?_
              refine Sq.nil ?_
              refine Eq.next ?_
              refine Cq.els rfl ?_
              refine Cq.skip ?_
              refine Eq.end ?_
              refine Eq.next ?_
              refine Cq.seq ?_
              refine Cq.region ?_
              refine Sq.loadAgg agg26 .plain rfl rfl hB33 rfl ?_
              refine Sq.storeAgg agg26 .plain rfl rfl (one_cons rfl (one_cons (Rows.one (OwnRows.rows hn23)) (one_cons (Row.one (Own.row ha24)) one_nil))) hB12 rfl rfl (fun w181 g182 hB183 => ?_)
              have hs184 := World.grownBy.size g182
              replace hR := hR.grown g182 (by intro h; injection h with h; omega)
              replace G := grown_far G g182 (fun k hk => by injection hk with hk; subst hk; omega)
              replace hB4 := hB4.grown g182 (by intro h; injection h with h; omega)
              replace hn23 := hn23.stored g182 hB12 (by decide) (by decide)
              replace ha24 := ha24.stored g182 hB12 (by decide)
              replace hB33 := hB33.grown g182 (by intro h; injection h with h; omega)
              replace hr137 := hr137.stored g182 hB12 (by decide)
              replace hB12 := hB183
              refine Sq.nil ?_
              refine Eq.next ?_
              refine Cq.ret ?_
              refine Eq.retCell rfl rfl agg26 hB12 rfl ?_
              exact ⟨⟨_, by omega, hR, G⟩, a, ⟨_, _, rfl, (OwnRows.rows hn23), (Own.row ha24)⟩, hsm.mono (by omega)⟩
          · refine Sq.move .plain rfl rfl ?_
            refine Sq.off rfl rfl rfl rfl rfl rfl ?_
            refine Sq.off rfl rfl rfl rfl rfl rfl ?_
            refine Sq.off rfl rfl rfl rfl rfl rfl ?_
            refine Sq.off rfl rfl rfl rfl rfl rfl ?_
            refine Sq.off rfl rfl rfl rfl rfl rfl ?_
            refine Sq.off rfl rfl rfl rfl rfl rfl ?_
            refine Sq.off rfl rfl rfl rfl rfl rfl ?_
            refine Sq.pickF .plain rfl rfl rfl ?_
            refine Sq.nil ?_
            refine Eq.next ?_
            refine Cq.els rfl ?_
            refine Cq.skip ?_
            refine Eq.end ?_
            refine Eq.next ?_
            refine Cq.seq ?_
            refine Cq.region ?_
            refine Sq.loadAgg agg26 .plain rfl rfl hB33 rfl ?_
            refine Sq.storeAgg agg26 .plain rfl rfl (one_cons rfl (one_cons (Rows.one (OwnRows.rows hn23)) (one_cons (Row.one (Own.row ha24)) one_nil))) hB12 rfl rfl (fun w185 g186 hB187 => ?_)
            have hs188 := World.grownBy.size g186
            replace hR := hR.grown g186 (by intro h; injection h with h; omega)
            replace G := grown_far G g186 (fun k hk => by injection hk with hk; subst hk; omega)
            replace hB4 := hB4.grown g186 (by intro h; injection h with h; omega)
            replace hn23 := hn23.stored g186 hB12 (by decide) (by decide)
            replace ha24 := ha24.stored g186 hB12 (by decide)
            replace hB33 := hB33.grown g186 (by intro h; injection h with h; omega)
            replace hB12 := hB187
            refine Sq.nil ?_
            refine Eq.next ?_
            refine Cq.ret ?_
            refine Eq.retCell rfl rfl agg26 hB12 rfl ?_
            exact ⟨⟨_, by omega, hR, G⟩, a, ⟨_, _, rfl, (OwnRows.rows hn23), (Own.row ha24)⟩, hsm.mono (by omega)⟩
        · refine Sq.assign .plain rfl rfl ?_
          refine Sq.nil ?_
          refine Eq.next ?_
          refine Cq.els rfl ?_
          refine Cq.seq ?_
          refine Cq.region ?_
          refine Sq.eql .plain rfl rfl rfl ?_
          refine Sq.part (fun c189 => ?_) (fun c189 => ?_)
          · refine Sq.assign .plain rfl rfl ?_
            refine Sq.nil ?_
            refine Eq.next ?_
            refine Cq.thn rfl ?_
            refine Cq.seq ?_
            refine Cq.region ?_
            refine Sq.lit sl23 rfl rfl .plain rfl rfl one_nil (fun b190 w191 e192 hlo193 ho194 _ => ?_)
            replace ho194 := ho194 w56.heap.size (Nat.le_refl _)
            have hs196 := Below.size e192
            replace hR := hR.ext e192
            replace G := grown_trans G (Ext.to_grown e192 _)
            replace hB4 := hB4.ext e192
            replace hB12 := hB12.ext e192
            replace hn23 := hn23.ext e192
            replace ha24 := ha24.ext e192
            replace hB33 := hB33.ext e192
            replace ho194 : OwnRows _ _ 0 56 3 _ [] := OwnRows.none ho194
            refine Sq.fieldAddr fld26_1 .plain rfl rfl ?_
            refine Sq.store one23 .plain rfl rfl (Rows.one (OwnRows.rows ho194)) hB33 (by simp) (fun w197 g198 hB199 => ?_)
            have hs200 := World.grownBy.size g198
            replace hR := hR.grown g198 (by intro h; injection h with h; omega)
            replace G := grown_far G g198 (fun k hk => by injection hk with hk; subst hk; omega)
            replace hB4 := hB4.grown g198 (by intro h; injection h with h; omega)
            replace hB12 := hB12.grown g198 (by intro h; injection h with h; omega)
            replace hn23 := hn23.stored g198 hB33 (by decide) (by decide)
            replace ha24 := ha24.stored g198 hB33 (by decide)
            replace ho194 := ho194.stored g198 hB33 (by decide) (by decide)
            replace hB33 := hB199
            refine Sq.nil ?_
            refine Eq.next ?_
            refine Cq.region ?_
            refine Sq.lit sl24 rfl rfl .plain rfl rfl one_nil (fun b201 w202 e203 hlo204 ho205 _ => ?_)
            replace ho205 := ho205 w197.heap.size (Nat.le_refl _)
            have hs207 := Below.size e203
            replace hR := hR.ext e203
            replace G := grown_trans G (Ext.to_grown e203 _)
            replace hB4 := hB4.ext e203
            replace hB12 := hB12.ext e203
            replace hn23 := hn23.ext e203
            replace ha24 := ha24.ext e203
            replace hB33 := hB33.ext e203
            replace ho194 := ho194.ext e203
            refine Sq.fieldAddr fld26_2 .plain rfl rfl ?_
            refine Sq.store one24 .plain rfl rfl (Row.one (Own.row ho205)) hB33 (by simp) (fun w208 g209 hB210 => ?_)
            have hs211 := World.grownBy.size g209
            replace hR := hR.grown g209 (by intro h; injection h with h; omega)
            replace G := grown_far G g209 (fun k hk => by injection hk with hk; subst hk; omega)
            replace hB4 := hB4.grown g209 (by intro h; injection h with h; omega)
            replace hB12 := hB12.grown g209 (by intro h; injection h with h; omega)
            replace hn23 := hn23.stored g209 hB33 (by decide) (by decide)
            replace ha24 := ha24.stored g209 hB33 (by decide)
            replace ho194 := ho194.stored g209 hB33 (by decide) (by decide)
            replace ho205 := ho205.stored g209 hB33 (by decide)
            replace hB33 := hB210
            refine Sq.nil ?_
            refine Eq.end ?_
            refine Eq.next ?_
            refine Cq.seq ?_
            refine Cq.region ?_
            refine Sq.loadAgg agg26 .plain rfl rfl hB33 rfl ?_
            refine Sq.storeAgg agg26 .plain rfl rfl (one_cons rfl (one_cons (Rows.one (OwnRows.rows ho194)) (one_cons (Row.one (Own.row ho205)) one_nil))) hB12 rfl rfl (fun w212 g213 hB214 => ?_)
            have hs215 := World.grownBy.size g213
            replace hR := hR.grown g213 (by intro h; injection h with h; omega)
            replace G := grown_far G g213 (fun k hk => by injection hk with hk; subst hk; omega)
            replace hB4 := hB4.grown g213 (by intro h; injection h with h; omega)
            replace hn23 := hn23.stored g213 hB12 (by decide) (by decide)
            replace ha24 := ha24.stored g213 hB12 (by decide)
            replace hB33 := hB33.grown g213 (by intro h; injection h with h; omega)
            replace ho194 := ho194.stored g213 hB12 (by decide) (by decide)
            replace ho205 := ho205.stored g213 hB12 (by decide)
            replace hB12 := hB214
            refine Sq.nil ?_
            refine Eq.next ?_
            refine Cq.ret ?_
            refine Eq.retCell rfl rfl agg26 hB12 rfl ?_
            exact ⟨⟨_, by omega, hR, G⟩, ⟨a.al, [], []⟩, ⟨_, _, rfl, (OwnRows.rows ho194), (Own.row ho205)⟩, ⟨hsm.1, by simp, by simp, by simp⟩⟩
          · refine Sq.assign .plain rfl rfl ?_
            refine Sq.nil ?_
            refine Eq.next ?_
            refine Cq.els rfl ?_
            refine Cq.seq ?_
            refine Cq.region ?_
            refine Sq.eql .plain rfl rfl rfl ?_
            refine Sq.part (fun c216 => ?_) (fun c216 => ?_)
            · refine Sq.assign .plain rfl rfl ?_
              refine Sq.nil ?_
              refine Eq.next ?_
              refine Cq.thn rfl ?_
              refine Cq.block ?_
              refine Cq.loop (fun nn w ls => ∃ (nxv : Value), ∃ (acv : Value), ∃ (xss : List (List Int)), ∃ (ys : List Bool), ls = [(0, Value.pointer (some ⟨rb, 0, none⟩)), (4, Value.pointer (some ⟨b9, 0, none⟩)), (5, Value.pointer (some ⟨b30, 0, none⟩)), (6, Value.int .i64 (List.length a.next : Int)), (7, Value.int .i64 k50), (18, Value.int .i64 k61), (19, Value.bool false), (25, Value.bool false), (32, Value.bool false), (47, Value.bool false), (81, Value.bool false), (87, Value.bool true)] ∧ Blk w b30 26 [Value.int .i64 a.al, nxv, acv] ∧ OwnRows w w0.heap.size w.heap.size 56 3 nxv xss ∧ Own w w0.heap.size 4 acv (ys.map Value.bool) ∧ (a.next.length ≤ xss.length ∧ xss.length ≤ a.next.length + 13 ∧ ys.length + a.next.length = a.acc.length + xss.length) ∧ (∀ row ∈ xss, row.length ≤ N) ∧ World.grownBy w0 w (some rb) ∧ Blk w rb 88 [bv, Value.int .i64 p57] ∧ Blk w b9 26 [Value.int .i64 0, Value.slice none 0 0, Value.slice none 0 0] ∧ nn = (13 - xss.length)) _ _ ⟨_, _, _, _, rfl, hB33, OwnRows.mono (OwnRows.now hn23) (by omega), Own.mono ha24 (by omega), by have := hsm.2; omega, hsm.2.2.2, G, hR, hB12, rfl⟩ (.cons rfl (.cons rfl (.cons rfl (.cons rfl (.cons rfl (.cons rfl (.cons rfl (.cons rfl (.cons rfl (.cons rfl (.cons rfl (.cons rfl (.nil))))))))))))) ?_
              rintro nn wl1 ls ⟨nxv, acv, xss, ys, rfl, hB7, hor, hoa, hll, hall, G, hR, hB12, rfl⟩
              have hs217 := World.grownBy.size G
              have hx0 := all_row hall (k := (0 : Int).toNat)
              refine Cq.seq ?_
              refine Cq.seq ?_
              refine Cq.region ?_
              refine Sq.move .plain rfl rfl ?_
              refine Sq.gtr .plain rfl rfl rfl ?_
              refine Sq.part (fun c218 => ?_) (fun c218 => ?_)
              · refine Sq.move .plain rfl rfl ?_
                refine Sq.fieldAddr fld26_1 (.met rfl rfl rfl) rfl rfl ?_
                refine Sq.loadB one23 (.met rfl rfl rfl) rfl rfl hB7 rfl ?_
                refine Sq.lenRows (OwnRows.rows hor) (.met rfl rfl rfl) rfl und23 rfl ?_
                refine Sq.leq (.met rfl rfl rfl) rfl rfl rfl ?_
                refine Sq.part (fun c219 => ?_) (fun c219 => ?_)
                · refine Sq.pickT .plain rfl rfl rfl ?_
                  refine Sq.nil ?_
                  refine Eq.next ?_
                  refine Cq.thn rfl ?_
                  refine Cq.skip ?_
                  refine Eq.next ?_
                  refine Cq.block ?_
                  refine Cq.seq ?_
                  obtain ⟨pA, rA, hpA, _⟩ := Rows.at (OwnRows.rows hor) (i := 0) (by omega) (by simp; omega)
                  have hrA := (OwnRows.rowAt hor hpA).1
                  refine Cq.drawS 10 (fun w' => Blk w' b30 26 [Value.int .i64 a.al, nxv, acv]) mixed (hB7) (fun w220 e221 hS => ?_)
                  clear hS
                  have hs222 := Below.size e221
                  replace G := grown_trans G (Ext.to_grown e221 _)
                  replace hR := hR.ext e221
                  replace hB12 := hB12.ext e221
                  replace hB7 := hB7.ext e221
                  replace hor := hor.ext e221
                  replace hoa := hoa.ext e221
                  replace hpA := hpA.ext e221
                  replace hrA := hrA.ext e221
                  have G_w220 := G
                  have hR_w220 := hR
                  have hB12_w220 := hB12
                  have hB7_w220 := hB7
                  have hor_w220 := hor
                  have hoa_w220 := hoa
                  have hpA_w220 := hpA
                  have hrA_w220 := hrA
                  refine Gq.st 0 rfl (by kernel_rfl) rfl .plain rfl (fun _ _ _ h => h) hB7 (fun w' x => Still.fieldAddr fld26_1 rfl) ?_
                  refine Gq.st 1 rfl (by kernel_rfl) rfl .plain rfl (fun _ _ _ h => h) hB7 (fun w' x => Still.loadB one23 rfl x rfl) ?_
                  refine Gq.st 3 rfl (by kernel_rfl) rfl .plain rfl (fun _ _ _ h => h) hB7 (fun w' x => Still.fieldAddr fld26_1 rfl) ?_
                  refine Gq.st 4 rfl (by kernel_rfl) rfl .plain rfl (fun _ _ _ h => h) hB7 (fun w' x => Still.loadB one23 rfl x rfl) ?_
                  refine Gq.st 5 rfl (by kernel_rfl) rfl .plain rfl (fun _ _ _ h => h) hB7 (fun w' x => Still.at' sl23 hpA rfl rfl) ?_
                  refine Gq.two 2 6 rfl rfl (by kernel_rfl) ?_ ?_
                  · refine Sq.lit sl56 rfl rfl .plain rfl rfl one_nil (fun b223 w224 e225 hlo226 ho227 _ => ?_)
                    replace ho227 := ho227 w220.heap.size (Nat.le_refl _)
                    have hs229 := Below.size e225
                    replace G := grown_trans G (Ext.to_grown e225 _)
                    replace hR := hR.ext e225
                    replace hB12 := hB12.ext e225
                    replace hB7 := hB7.ext e225
                    replace hor := hor.ext e225
                    replace hoa := hoa.ext e225
                    replace hpA := hpA.ext e225
                    replace hrA := hrA.ext e225
                    refine Sq.nil ?_
                    refine Eq.goes (fun _ => hB7) ?_
                    refine Gq.one 6 rfl (by kernel_rfl) ?_
                    refine Sq.val .plain rfl rfl (Still.loadA one56 rfl hpA.1) ?_
                    refine Sq.nil ?_
                    refine Eq.goes (fun _ => hB7) ?_
                    refine Gq.one 7 rfl (by kernel_rfl) ?_
                    refine Sq.app sl56 ho227 (by omega) (Own.row hrA) (one_ints _) (by rw [List.length_map]; simp only [List.length_nil, Nat.zero_add]; omega) .plain rfl rfl rfl rfl (fun v230 w231 ho233 g232 => ?_)
                    have hs234 := g232.size
                    replace G := grown_new G ho227 g232 (by omega)
                    replace hR := hR.owned ho227 g232 (by decide)
                    replace hB12 := hB12.owned ho227 g232 (by decide)
                    replace hB7 := hB7.owned ho227 g232 (by decide)
                    replace hor := hor.apart ho227 g232 (by omega) (by decide)
                    replace hoa := hoa.owned ho227 g232 (by decide)
                    simp only [List.nil_append] at ho233
                    refine Sq.nil ?_
                    refine Eq.goes (fun _ => hB7) ?_
                    refine Gq.one 8 rfl (by kernel_rfl) ?_
                    refine Sq.lit sl23 rfl rfl .plain rfl rfl (one_cons (Row.one (Own.row ho233)) one_nil) (fun b235 w236 e237 hlo238 ho239 _ => ?_)
                    replace ho239 := ho239 w231.heap.size (Nat.le_refl _)
                    have hs241 := Below.size e237
                    replace G := grown_trans G (Ext.to_grown e237 _)
                    replace hR := hR.ext e237
                    replace hB12 := hB12.ext e237
                    replace hB7 := hB7.ext e237
                    replace hor := hor.ext e237
                    replace hoa := hoa.ext e237
                    replace ho233 := ho233.ext e237
                    refine Sq.nil ?_
                    refine Eq.goes (fun _ => hB7) ?_
                    refine Gq.one 9 rfl (by kernel_rfl) ?_
                    obtain ⟨rs246, q247, q248, q249⟩ := OwnRows.open hor (by decide)
                    have q249x := Ext.refl w236
                    refine Sq.app sl23 q247 (by omega) (Own.row ho239) (one_cons (Row.one (Own.row ho233)) one_nil) (by rw [q248]; first | omega | (simp; omega)) .plain rfl rfl rfl rfl (fun v242 w243 ho245 g244 => ?_)
                    have hs250 := g244.size
                    have ho245r := q249 _ ((xss.getD (0 : Int).toNat [])) _ _ _ (Ext.refl _) (Own.mono ho233 (by omega)) (by omega) ho245 g244
                    replace G := grown_new G q247 g244 (by omega)
                    replace hR := hR.owned q247 g244 (by decide)
                    replace hB12 := hB12.owned q247 g244 (by decide)
                    replace hB7 := hB7.owned q247 g244 (by decide)
                    replace hoa := hoa.owned q247 g244 (by decide)
                    replace ho233 := ho233.owned q247 g244 (by decide)
                    refine Sq.nil ?_
                    refine Eq.goes (fun _ => hB7) ?_
                    refine Gq.one 10 rfl (by kernel_rfl) ?_
                    refine Sq.fieldAddr fld26_1 .plain rfl rfl ?_
                    refine Sq.nil ?_
                    refine Eq.goes (fun h => absurd h (by decide)) ?_
                    refine Gq.one 11 rfl (by kernel_rfl) ?_
                    refine Sq.store one23 .plain rfl rfl (Rows.one (OwnRows.rows ho245r)) hB7 (by simp) (fun w251 g252 hB253 => ?_)
                    have hs254 := World.grownBy.size g252
                    replace G := grown_far G g252 (fun k hk => by injection hk with hk; subst hk; omega)
                    replace hR := hR.grown g252 (by intro h; injection h with h; omega)
                    replace hB12 := hB12.grown g252 (by intro h; injection h with h; omega)
                    replace hoa := hoa.stored g252 hB7 (by decide)
                    replace ho233 := ho233.stored g252 hB7 (by decide)
                    replace ho245r := ho245r.stored g252 hB7 (by decide) (by decide)
                    replace hB7 := hB253
                    refine Sq.nil ?_
                    refine Eq.goes (fun h => absurd h (by decide)) ?_
                    refine Gq.done (by kernel_rfl) ?_
                    refine Eq.next ?_
                    refine Cq.region ?_
                    refine Sq.fieldAddr fld26_2 .plain rfl rfl ?_
                    refine Sq.loadB one24 .plain rfl rfl hB7 rfl ?_
                    refine Sq.app1 sl24 hoa (by omega) (by first | omega | (simp; omega)) .plain rfl rfl rfl rfl rfl rfl rfl (fun v255 w256 ho258 g257 _ => ?_)
                    have hs259 := g257.size
                    replace G := grown_new G hoa g257 (by omega)
                    replace hR := hR.owned hoa g257 (by decide)
                    replace hB12 := hB12.owned hoa g257 (by decide)
                    replace hB7 := hB7.owned hoa g257 (by decide)
                    replace ho233 := ho233.owned hoa g257 (by decide)
                    replace ho245r := ho245r.owned hoa g257 (by decide) (by decide)
                    refine Sq.fieldAddr fld26_2 .plain rfl rfl ?_
                    refine Sq.store one24 .plain rfl rfl (Row.one (Own.row ho258)) hB7 (by simp) (fun w260 g261 hB262 => ?_)
                    have hs263 := World.grownBy.size g261
                    replace G := grown_far G g261 (fun k hk => by injection hk with hk; subst hk; omega)
                    replace hR := hR.grown g261 (by intro h; injection h with h; omega)
                    replace hB12 := hB12.grown g261 (by intro h; injection h with h; omega)
                    replace ho233 := ho233.stored g261 hB7 (by decide)
                    replace ho245r := ho245r.stored g261 hB7 (by decide) (by decide)
                    replace ho258 := ho258.stored g261 hB7 (by decide)
                    replace hB7 := hB262
                    refine Sq.nil ?_
                    refine Eq.end ?_
                    refine Eq.round _ _ ⟨_, _, _, _, rfl, hB7, OwnRows.now ho245r, Own.snocB ho258, by simp; omega, all_app hall (by omega), G, hR, hB12, rfl⟩ (by simp; omega) (.cons rfl (.cons rfl (.cons rfl (.cons rfl (.cons rfl (.cons rfl (.cons rfl (.cons rfl (.cons rfl (.cons rfl (.cons rfl (.cons rfl (.nil)))))))))))))
                  · refine Sq.val .plain rfl rfl (Still.loadA one56 rfl hpA.1) ?_
                    refine Sq.nil ?_
                    refine Eq.goes (fun _ => hB7) ?_
                    refine Gq.one 2 rfl (by kernel_rfl) ?_
                    refine Sq.lit sl56 rfl rfl .plain rfl rfl one_nil (fun b264 w265 e266 hlo267 ho268 _ => ?_)
                    replace ho268 := ho268 w220.heap.size (Nat.le_refl _)
                    have hs270 := Below.size e266
                    replace G := grown_trans G (Ext.to_grown e266 _)
                    replace hR := hR.ext e266
                    replace hB12 := hB12.ext e266
                    replace hB7 := hB7.ext e266
                    replace hor := hor.ext e266
                    replace hoa := hoa.ext e266
                    replace hpA := hpA.ext e266
                    replace hrA := hrA.ext e266
                    refine Sq.nil ?_
                    refine Eq.goes (fun _ => hB7) ?_
                    refine Gq.one 7 rfl (by kernel_rfl) ?_
                    refine Sq.app sl56 ho268 (by omega) (Own.row hrA) (one_ints _) (by rw [List.length_map]; simp only [List.length_nil, Nat.zero_add]; omega) .plain rfl rfl rfl rfl (fun v271 w272 ho274 g273 => ?_)
                    have hs275 := g273.size
                    replace G := grown_new G ho268 g273 (by omega)
                    replace hR := hR.owned ho268 g273 (by decide)
                    replace hB12 := hB12.owned ho268 g273 (by decide)
                    replace hB7 := hB7.owned ho268 g273 (by decide)
                    replace hor := hor.apart ho268 g273 (by omega) (by decide)
                    replace hoa := hoa.owned ho268 g273 (by decide)
                    simp only [List.nil_append] at ho274
                    refine Sq.nil ?_
                    refine Eq.goes (fun _ => hB7) ?_
                    refine Gq.one 8 rfl (by kernel_rfl) ?_
                    refine Sq.lit sl23 rfl rfl .plain rfl rfl (one_cons (Row.one (Own.row ho274)) one_nil) (fun b276 w277 e278 hlo279 ho280 _ => ?_)
                    replace ho280 := ho280 w272.heap.size (Nat.le_refl _)
                    have hs282 := Below.size e278
                    replace G := grown_trans G (Ext.to_grown e278 _)
                    replace hR := hR.ext e278
                    replace hB12 := hB12.ext e278
                    replace hB7 := hB7.ext e278
                    replace hor := hor.ext e278
                    replace hoa := hoa.ext e278
                    replace ho274 := ho274.ext e278
                    refine Sq.nil ?_
                    refine Eq.goes (fun _ => hB7) ?_
                    refine Gq.one 9 rfl (by kernel_rfl) ?_
                    obtain ⟨rs287, q288, q289, q290⟩ := OwnRows.open hor (by decide)
                    have q290x := Ext.refl w277
                    refine Sq.app sl23 q288 (by omega) (Own.row ho280) (one_cons (Row.one (Own.row ho274)) one_nil) (by rw [q289]; first | omega | (simp; omega)) .plain rfl rfl rfl rfl (fun v283 w284 ho286 g285 => ?_)
                    have hs291 := g285.size
                    have ho286r := q290 _ ((xss.getD (0 : Int).toNat [])) _ _ _ (Ext.refl _) (Own.mono ho274 (by omega)) (by omega) ho286 g285
                    replace G := grown_new G q288 g285 (by omega)
                    replace hR := hR.owned q288 g285 (by decide)
                    replace hB12 := hB12.owned q288 g285 (by decide)
                    replace hB7 := hB7.owned q288 g285 (by decide)
                    replace hoa := hoa.owned q288 g285 (by decide)
                    replace ho274 := ho274.owned q288 g285 (by decide)
                    refine Sq.nil ?_
                    refine Eq.goes (fun _ => hB7) ?_
                    refine Gq.one 10 rfl (by kernel_rfl) ?_
                    refine Sq.fieldAddr fld26_1 .plain rfl rfl ?_
                    refine Sq.nil ?_
                    refine Eq.goes (fun h => absurd h (by decide)) ?_
                    refine Gq.one 11 rfl (by kernel_rfl) ?_
                    refine Sq.store one23 .plain rfl rfl (Rows.one (OwnRows.rows ho286r)) hB7 (by simp) (fun w292 g293 hB294 => ?_)
                    have hs295 := World.grownBy.size g293
                    replace G := grown_far G g293 (fun k hk => by injection hk with hk; subst hk; omega)
                    replace hR := hR.grown g293 (by intro h; injection h with h; omega)
                    replace hB12 := hB12.grown g293 (by intro h; injection h with h; omega)
                    replace hoa := hoa.stored g293 hB7 (by decide)
                    replace ho274 := ho274.stored g293 hB7 (by decide)
                    replace ho286r := ho286r.stored g293 hB7 (by decide) (by decide)
                    replace hB7 := hB294
                    refine Sq.nil ?_
                    refine Eq.goes (fun h => absurd h (by decide)) ?_
                    refine Gq.done (by kernel_rfl) ?_
                    refine Eq.next ?_
                    refine Cq.region ?_
                    refine Sq.fieldAddr fld26_2 .plain rfl rfl ?_
                    refine Sq.loadB one24 .plain rfl rfl hB7 rfl ?_
                    refine Sq.app1 sl24 hoa (by omega) (by first | omega | (simp; omega)) .plain rfl rfl rfl rfl rfl rfl rfl (fun v296 w297 ho299 g298 _ => ?_)
                    have hs300 := g298.size
                    replace G := grown_new G hoa g298 (by omega)
                    replace hR := hR.owned hoa g298 (by decide)
                    replace hB12 := hB12.owned hoa g298 (by decide)
                    replace hB7 := hB7.owned hoa g298 (by decide)
                    replace ho274 := ho274.owned hoa g298 (by decide)
                    replace ho286r := ho286r.owned hoa g298 (by decide) (by decide)
                    refine Sq.fieldAddr fld26_2 .plain rfl rfl ?_
                    refine Sq.store one24 .plain rfl rfl (Row.one (Own.row ho299)) hB7 (by simp) (fun w301 g302 hB303 => ?_)
                    have hs304 := World.grownBy.size g302
                    replace G := grown_far G g302 (fun k hk => by injection hk with hk; subst hk; omega)
                    replace hR := hR.grown g302 (by intro h; injection h with h; omega)
                    replace hB12 := hB12.grown g302 (by intro h; injection h with h; omega)
                    replace ho274 := ho274.stored g302 hB7 (by decide)
                    replace ho286r := ho286r.stored g302 hB7 (by decide) (by decide)
                    replace ho299 := ho299.stored g302 hB7 (by decide)
                    replace hB7 := hB303
                    refine Sq.nil ?_
                    refine Eq.end ?_
                    refine Eq.round _ _ ⟨_, _, _, _, rfl, hB7, OwnRows.now ho286r, Own.snocB ho299, by simp; omega, all_app hall (by omega), G, hR, hB12, rfl⟩ (by simp; omega) (.cons rfl (.cons rfl (.cons rfl (.cons rfl (.cons rfl (.cons rfl (.cons rfl (.cons rfl (.cons rfl (.cons rfl (.cons rfl (.cons rfl (.nil)))))))))))))
                · refine Sq.pickT .plain rfl rfl rfl ?_
                  refine Sq.nil ?_
                  refine Eq.next ?_
                  refine Cq.els rfl ?_
                  refine Cq.exit ?_
                  refine Eq.past ?_
                  refine Eq.past ?_
                  refine Eq.hit ?_
                  refine Eq.end ?_
                  refine Eq.next ?_
                  refine Cq.seq ?_
                  refine Cq.region ?_
                  refine Sq.loadAgg agg26 .plain rfl rfl hB7 rfl ?_
                  refine Sq.storeAgg agg26 .plain rfl rfl (one_cons rfl (one_cons (Rows.one (OwnRows.rows hor)) (one_cons (Row.one (Own.row hoa)) one_nil))) hB12 rfl rfl (fun w305 g306 hB307 => ?_)
                  have hs308 := World.grownBy.size g306
                  replace G := grown_far G g306 (fun k hk => by injection hk with hk; subst hk; omega)
                  replace hR := hR.grown g306 (by intro h; injection h with h; omega)
                  replace hB7 := hB7.grown g306 (by intro h; injection h with h; omega)
                  replace hor := hor.stored g306 hB12 (by decide) (by decide)
                  replace hoa := hoa.stored g306 hB12 (by decide)
                  replace hB12 := hB307
                  refine Sq.nil ?_
                  refine Eq.next ?_
                  refine Cq.ret ?_
                  refine Eq.retCell rfl rfl agg26 hB12 rfl ?_
                  exact ⟨⟨_, by omega, hR, G⟩, ⟨a.al, xss, ys⟩, ⟨_, _, rfl, (OwnRows.rows hor), (Own.row hoa)⟩, ⟨hsm.1, by show xss.length ≤ _; omega, by show ys.length ≤ _; omega, fun row hr => by have := hall row hr; omega⟩⟩
              · refine Sq.move .plain rfl rfl ?_
                refine Sq.off rfl rfl rfl rfl rfl rfl ?_
                refine Sq.off rfl rfl rfl rfl rfl rfl ?_
                refine Sq.off rfl rfl rfl rfl rfl rfl ?_
                refine Sq.off rfl rfl rfl rfl rfl rfl ?_
                refine Sq.pickF .plain rfl rfl rfl ?_
                refine Sq.nil ?_
                refine Eq.next ?_
                refine Cq.els rfl ?_
                refine Cq.exit ?_
                refine Eq.past ?_
                refine Eq.past ?_
                refine Eq.hit ?_
                refine Eq.end ?_
                refine Eq.next ?_
                refine Cq.seq ?_
                refine Cq.region ?_
                refine Sq.loadAgg agg26 .plain rfl rfl hB7 rfl ?_
                refine Sq.storeAgg agg26 .plain rfl rfl (one_cons rfl (one_cons (Rows.one (OwnRows.rows hor)) (one_cons (Row.one (Own.row hoa)) one_nil))) hB12 rfl rfl (fun w309 g310 hB311 => ?_)
                have hs312 := World.grownBy.size g310
                replace G := grown_far G g310 (fun k hk => by injection hk with hk; subst hk; omega)
                replace hR := hR.grown g310 (by intro h; injection h with h; omega)
                replace hB7 := hB7.grown g310 (by intro h; injection h with h; omega)
                replace hor := hor.stored g310 hB12 (by decide) (by decide)
                replace hoa := hoa.stored g310 hB12 (by decide)
                replace hB12 := hB311
                refine Sq.nil ?_
                refine Eq.next ?_
                refine Cq.ret ?_
                refine Eq.retCell rfl rfl agg26 hB12 rfl ?_
                exact ⟨⟨_, by omega, hR, G⟩, ⟨a.al, xss, ys⟩, ⟨_, _, rfl, (OwnRows.rows hor), (Own.row hoa)⟩, ⟨hsm.1, by show xss.length ≤ _; omega, by show ys.length ≤ _; omega, fun row hr => by have := hall row hr; omega⟩⟩
            · refine Sq.assign .plain rfl rfl ?_
              refine Sq.nil ?_
              refine Eq.next ?_
              refine Cq.els rfl ?_
              refine Cq.skip ?_
              refine Eq.end ?_
              refine Eq.next ?_
              refine Cq.seq ?_
              refine Cq.region ?_
              refine Sq.loadAgg agg26 .plain rfl rfl hB33 rfl ?_
              refine Sq.storeAgg agg26 .plain rfl rfl (one_cons rfl (one_cons (Rows.one (OwnRows.rows hn23)) (one_cons (Row.one (Own.row ha24)) one_nil))) hB12 rfl rfl (fun w313 g314 hB315 => ?_)
              have hs316 := World.grownBy.size g314
              replace hR := hR.grown g314 (by intro h; injection h with h; omega)
              replace G := grown_far G g314 (fun k hk => by injection hk with hk; subst hk; omega)
              replace hB4 := hB4.grown g314 (by intro h; injection h with h; omega)
              replace hn23 := hn23.stored g314 hB12 (by decide) (by decide)
              replace ha24 := ha24.stored g314 hB12 (by decide)
              replace hB33 := hB33.grown g314 (by intro h; injection h with h; omega)
              replace hB12 := hB315
              refine Sq.nil ?_
              refine Eq.next ?_
              refine Cq.ret ?_
              refine Eq.retCell rfl rfl agg26 hB12 rfl ?_
              exact ⟨⟨_, by omega, hR, G⟩, a, ⟨_, _, rfl, (OwnRows.rows hn23), (Own.row ha24)⟩, hsm.mono (by omega)⟩

end Go.Proofs.Ytdejmfkpohgamaa
