/-
  The texts of this proof, joined (wip/merge.py): the calculus of slots, plain mathematics, walks.
-/
import Derived.Test.YtdejmfkpohgamaaGe3
set_option linter.unusedSimpArgs false
set_option linter.unusedVariables false
namespace Go.Proofs.Ytdejmfkpohgamaa
open Go.RowKit
set_option maxHeartbeats 1000000 in
set_option maxRecDepth 100000 in
theorem l4Pair_c (w0 : World) (rb : Nat) (bv : Value) (p : Int) (bs : List UInt8) (e0 : TypeId) (hR : Blk w0 rb 88 [bv, .int .i64 p]) (hb : Src w0 e0 bv bs rb) (hbl : bs.length ≤ 2000) (hp : 0 ≤ p ∧ p ≤ 400000000) : Ret Try.prog 73 #[Value.pointer (some ⟨rb, 0, none⟩)] w0 (fun v w => (∃ p', (p ≤ p' ∧ p' ≤ p + 3000) ∧ Blk w rb 88 [bv, .int .i64 p'] ∧ w0.grownBy w (some rb)) ∧ ∃ (u u' : Value) (a b : A), v = .tuple #[u, u'] ∧ RowsA w u a ∧ RowsA w u' b ∧ Small 400 a ∧ Small 400 b) := by
  have G := World.grownBy.refl w0 (some rb)
  have hlt := hR.lt
  refine Ret.of (args := [Value.pointer (some ⟨rb, 0, none⟩)]) Try.func73 rfl rfl rfl ?_
  rintro _ rfl
  show Cq _ _ _ _ [(0, Value.pointer (some ⟨rb, 0, none⟩))] _
  refine Cq.seq ?_
  refine Cq.region ?_
  refine Sq.alloc zero26 .plain rfl (fun b1 w2 e3 hB4 hlo5 => ?_)
  have hd6 := Nat.lt_of_lt_of_le hR.lt hlo5
  have hd7 := Nat.le_trans (World.grownBy.size G) hlo5
  have hs8 := Below.size e3
  replace hR := hR.ext e3
  replace G := grown_trans G (Ext.to_grown e3 _)
  refine Sq.alloc zero26 .plain rfl (fun b9 w10 e11 hB12 hlo13 => ?_)
  have hd14 := Nat.lt_of_lt_of_le hR.lt hlo13
  have hd15 := Nat.le_trans (World.grownBy.size G) hlo13
  have hd16 := Nat.lt_of_lt_of_le hB4.lt hlo13
  have hs17 := Below.size e11
  replace hR := hR.ext e11
  replace G := grown_trans G (Ext.to_grown e11 _)
  replace hB4 := hB4.ext e11
  refine Sq.nil ?_
  refine Eq.next ?_
  refine Cq.seq ?_
  refine Cq.region ?_
  refine Sq.move .plain rfl rfl ?_
  refine Sq.call fn42 .plain rfl rfl (l3Draw_c _ _ _ _ _ _ hR (hb.go G) hbl (by omega) ) ?_
  rintro _ w19 ⟨⟨p20, hp23, hB22, g21⟩, ⟨a24, ⟨nx25, ac26, rfl, hn27, ha28⟩, hv29, hal30⟩⟩
  have hs31 := World.grownBy.size g21
  have hs32 := World.grownBy.size G
  have hs33 := World.grownBy.size g21
  replace G := grown_trans G g21
  replace hB4 := hB4.grown g21 (by intro h; injection h with h; omega)
  replace hB12 := hB12.grown g21 (by intro h; injection h with h; omega)
  replace hR := hB22
  refine Sq.alloc zero26 .plain rfl (fun b34 w35 e36 hB37 hlo38 => ?_)
  have hd39 := Nat.lt_of_lt_of_le hR.lt hlo38
  have hd40 := Nat.le_trans (World.grownBy.size G) hlo38
  have hd41 := Nat.lt_of_lt_of_le hB4.lt hlo38
  have hd42 := Nat.lt_of_lt_of_le hB12.lt hlo38
  have hs43 := Below.size e36
  replace hR := hR.ext e36
  replace G := grown_trans G (Ext.to_grown e36 _)
  replace hB4 := hB4.ext e36
  replace hB12 := hB12.ext e36
  replace hn27 := hn27.ext e36
  replace ha28 := ha28.ext e36
  refine Sq.storeAgg agg26 .plain rfl rfl (one_cons rfl (one_cons (Rows.one hn27) (one_cons (Row.one ha28) one_nil))) hB37 rfl rfl (fun w44 g45 hB46 => ?_)
  have hs47 := World.grownBy.size g45
  replace hR := hR.grown g45 (by intro h; injection h with h; omega)
  replace G := grown_far G g45 (fun k hk => by injection hk with hk; subst hk; omega)
  replace hB4 := hB4.grown g45 (by intro h; injection h with h; omega)
  replace hB12 := hB12.grown g45 (by intro h; injection h with h; omega)
  replace hn27 := hn27.stored g45 hB37 (by decide) (by decide)
  replace ha28 := ha28.stored g45 hB37 (by decide)
  replace hB37 := hB46
  refine Sq.nil ?_
  refine Eq.next ?_
  refine Cq.seq ?_
  refine Cq.region ?_
  refine Sq.move .plain rfl rfl ?_
  refine Sq.move .plain rfl rfl ?_
  refine Sq.loadAgg agg26 .plain rfl rfl hB37 rfl ?_
  refine Sq.call fn44 .plain rfl rfl (l4Change_c _ _ _ _ _ _ hR (hb.go G) hbl (by omega) a24 _ _ hn27 ha28 _ (by omega) hv29) ?_
  rintro _ w49 ⟨⟨p50, hp53, hB52, g51⟩, ⟨a54, ⟨nx55, ac56, rfl, hn57, ha58⟩, hv59⟩⟩
  have hs60 := World.grownBy.size g51
  have hs61 := World.grownBy.size G
  have hs62 := World.grownBy.size g51
  replace G := grown_trans G g51
  replace hB4 := hB4.grown g51 (by intro h; injection h with h; omega)
  replace hB12 := hB12.grown g51 (by intro h; injection h with h; omega)
  replace hn27 := hn27.stored g51 hR (by decide) (by decide)
  replace ha28 := ha28.stored g51 hR (by decide)
  replace hB37 := hB37.grown g51 (by intro h; injection h with h; omega)
  replace hR := hB52
  refine Sq.call fn44 .plain rfl rfl (l4Change_c _ _ _ _ _ _ hR (hb.go G) hbl (by omega) a54 _ _ hn57 ha58 _ (by omega) hv59) ?_
  rintro _ w64 ⟨⟨p65, hp68, hB67, g66⟩, ⟨a69, ⟨nx70, ac71, rfl, hn72, ha73⟩, hv74⟩⟩
  have hs75 := World.grownBy.size g66
  have hs76 := World.grownBy.size G
  have hs77 := World.grownBy.size g66
  replace G := grown_trans G g66
  replace hB4 := hB4.grown g66 (by intro h; injection h with h; omega)
  replace hB12 := hB12.grown g66 (by intro h; injection h with h; omega)
  replace hn27 := hn27.stored g66 hR (by decide) (by decide)
  replace ha28 := ha28.stored g66 hR (by decide)
  replace hB37 := hB37.grown g66 (by intro h; injection h with h; omega)
  replace hR := hB67
  refine Sq.alloc zero26 .plain rfl (fun b78 w79 e80 hB81 hlo82 => ?_)
  have hd83 := Nat.lt_of_lt_of_le hR.lt hlo82
  have hd84 := Nat.le_trans (World.grownBy.size G) hlo82
  have hd85 := Nat.lt_of_lt_of_le hB4.lt hlo82
  have hd86 := Nat.lt_of_lt_of_le hB12.lt hlo82
  have hd87 := Nat.lt_of_lt_of_le hB37.lt hlo82
  have hs88 := Below.size e80
  replace hR := hR.ext e80
  replace G := grown_trans G (Ext.to_grown e80 _)
  replace hB4 := hB4.ext e80
  replace hB12 := hB12.ext e80
  replace hn27 := hn27.ext e80
  replace ha28 := ha28.ext e80
  replace hB37 := hB37.ext e80
  replace hn72 := hn72.ext e80
  replace ha73 := ha73.ext e80
  refine Sq.storeAgg agg26 .plain rfl rfl (one_cons rfl (one_cons (Rows.one hn72) (one_cons (Row.one ha73) one_nil))) hB81 rfl rfl (fun w89 g90 hB91 => ?_)
  have hs92 := World.grownBy.size g90
  replace hR := hR.grown g90 (by intro h; injection h with h; omega)
  replace G := grown_far G g90 (fun k hk => by injection hk with hk; subst hk; omega)
  replace hB4 := hB4.grown g90 (by intro h; injection h with h; omega)
  replace hB12 := hB12.grown g90 (by intro h; injection h with h; omega)
  replace hn27 := hn27.stored g90 hB81 (by decide) (by decide)
  replace ha28 := ha28.stored g90 hB81 (by decide)
  replace hB37 := hB37.grown g90 (by intro h; injection h with h; omega)
  replace hn72 := hn72.stored g90 hB81 (by decide) (by decide)
  replace ha73 := ha73.stored g90 hB81 (by decide)
  replace hB81 := hB91
  refine Sq.nil ?_
  refine Eq.next ?_
  refine Cq.seq ?_
  refine Cq.seq ?_
  refine Cq.region ?_
  refine Sq.move .plain rfl rfl ?_
  refine Sq.call fn43 .plain rfl rfl (pick_c _ _ _ _ _ _ hR (hb.go G) hbl (by omega) 4 (by omega)) ?_
  rintro _ w94 ⟨⟨p95, hp98, hB97, g96⟩, ⟨k99, rfl, hk100⟩⟩
  have hs101 := World.grownBy.size g96
  have hs102 := World.grownBy.size G
  have hs103 := World.grownBy.size g96
  replace G := grown_trans G g96
  replace hB4 := hB4.grown g96 (by intro h; injection h with h; omega)
  replace hB12 := hB12.grown g96 (by intro h; injection h with h; omega)
  replace hn27 := hn27.stored g96 hR (by decide) (by decide)
  replace ha28 := ha28.stored g96 hR (by decide)
  replace hB37 := hB37.grown g96 (by intro h; injection h with h; omega)
  replace hn72 := hn72.stored g96 hR (by decide) (by decide)
  replace ha73 := ha73.stored g96 hR (by decide)
  replace hB81 := hB81.grown g96 (by intro h; injection h with h; omega)
  replace hR := hB97
  refine Sq.nil ?_
  refine Eq.next ?_
  refine Cq.block ?_
  refine Cq.seq ?_
  refine Cq.region ?_
  refine Sq.eql .plain rfl rfl rfl ?_
  refine Sq.part (fun c104 => ?_) (fun c104 => ?_)
  · refine Sq.assign .plain rfl rfl ?_
    refine Sq.nil ?_
    refine Eq.next ?_
    refine Cq.thn rfl ?_
    refine Cq.region ?_
    refine Sq.move .plain rfl rfl ?_
    refine Sq.fieldAddr fld26_0 .plain rfl rfl ?_
    refine Sq.loadB one3 .plain rfl rfl hB37 rfl ?_
    refine Sq.call fn87 .plain rfl rfl (l3Over_c _ _ _ _ _ _ hR (hb.go G) hbl (by omega) a24.al (by omega)) ?_
    rintro _ w106 ⟨⟨p107, hp110, hB109, g108⟩, ⟨a111, ⟨nx112, ac113, rfl, hn114, ha115⟩, hv116, hal117⟩⟩
    have hs118 := World.grownBy.size g108
    have hs119 := World.grownBy.size G
    have hs120 := World.grownBy.size g108
    replace G := grown_trans G g108
    replace hB4 := hB4.grown g108 (by intro h; injection h with h; omega)
    replace hB12 := hB12.grown g108 (by intro h; injection h with h; omega)
    replace hn27 := hn27.stored g108 hR (by decide) (by decide)
    replace ha28 := ha28.stored g108 hR (by decide)
    replace hB37 := hB37.grown g108 (by intro h; injection h with h; omega)
    replace hB81 := hB81.grown g108 (by intro h; injection h with h; omega)
    replace hR := hB109
    refine Sq.storeAgg agg26 .plain rfl rfl (one_cons rfl (one_cons (Rows.one (OwnRows.rows hn114)) (one_cons (Row.one (Own.row ha115)) one_nil))) hB81 rfl rfl (fun w121 g122 hB123 => ?_)
    have hs124 := World.grownBy.size g122
    replace hR := hR.grown g122 (by intro h; injection h with h; omega)
    replace G := grown_far G g122 (fun k hk => by injection hk with hk; subst hk; omega)
    replace hB4 := hB4.grown g122 (by intro h; injection h with h; omega)
    replace hB12 := hB12.grown g122 (by intro h; injection h with h; omega)
    replace hn27 := hn27.stored g122 hB81 (by decide) (by decide)
    replace ha28 := ha28.stored g122 hB81 (by decide)
    replace hB37 := hB37.grown g122 (by intro h; injection h with h; omega)
    replace hn114 := hn114.stored g122 hB81 (by decide) (by decide)
    replace ha115 := ha115.stored g122 hB81 (by decide)
    replace hB81 := hB123
    refine Sq.nil ?_
    refine Eq.end ?_
    refine Eq.next ?_
    refine Cq.seq ?_
    refine Cq.seq ?_
    refine Cq.region ?_
    refine Sq.move .plain rfl rfl ?_
    refine Sq.call fn43 .plain rfl rfl (pick_c _ _ _ _ _ _ hR (hb.go G) hbl (by omega) 20 (by omega)) ?_
    rintro _ w126 ⟨⟨p127, hp130, hB129, g128⟩, ⟨k131, rfl, hk132⟩⟩
    have hs133 := World.grownBy.size g128
    have hs134 := World.grownBy.size G
    have hs135 := World.grownBy.size g128
    replace G := grown_trans G g128
    replace hB4 := hB4.grown g128 (by intro h; injection h with h; omega)
    replace hB12 := hB12.grown g128 (by intro h; injection h with h; omega)
    replace hn27 := hn27.stored g128 hR (by decide) (by decide)
    replace ha28 := ha28.stored g128 hR (by decide)
    replace hB37 := hB37.grown g128 (by intro h; injection h with h; omega)
    replace hB81 := hB81.grown g128 (by intro h; injection h with h; omega)
    replace hn114 := hn114.stored g128 hR (by decide) (by decide)
    replace ha115 := ha115.stored g128 hR (by decide)
    replace hR := hB129
    refine Sq.nil ?_
    refine Eq.next ?_
    refine Cq.block ?_
    refine Cq.seq ?_
    refine Cq.region ?_
    refine Sq.eql .plain rfl rfl rfl ?_
    refine Sq.part (fun c136 => ?_) (fun c136 => ?_)
    · refine Sq.assign .plain rfl rfl ?_
      refine Sq.nil ?_
      refine Eq.next ?_
      refine Cq.thn rfl ?_
      refine Cq.region ?_
      refine Sq.move .plain rfl rfl ?_
      refine Sq.move .plain rfl rfl ?_
      refine Sq.move .plain rfl rfl ?_
      refine Sq.loadAgg agg26 .plain rfl rfl hB37 rfl ?_
      refine Sq.call fn46 .plain rfl rfl (l3Wrong_c _ _ _ _ _ _ hR (hb.go G) hbl (by omega) a24 _ _ hn27 ha28 _ (by omega) hv29) ?_
      rintro _ w138 ⟨⟨p139, hp142, hB141, g140⟩, ⟨a143, ⟨nx144, ac145, rfl, hn146, ha147⟩, hv148⟩⟩
      have hs149 := World.grownBy.size g140
      have hs150 := World.grownBy.size G
      have hs151 := World.grownBy.size g140
      replace G := grown_trans G g140
      replace hB4 := hB4.grown g140 (by intro h; injection h with h; omega)
      replace hB12 := hB12.grown g140 (by intro h; injection h with h; omega)
      replace hB37 := hB37.grown g140 (by intro h; injection h with h; omega)
      replace hB81 := hB81.grown g140 (by intro h; injection h with h; omega)
      replace hn114 := hn114.stored g140 hR (by decide) (by decide)
      replace ha115 := ha115.stored g140 hR (by decide)
      replace hR := hB141
      refine Sq.call fn46 .plain rfl rfl (l3Wrong_c _ _ _ _ _ _ hR (hb.go G) hbl (by omega) a143 _ _ hn146 ha147 _ (by omega) hv148) ?_
      rintro _ w153 ⟨⟨p154, hp157, hB156, g155⟩, ⟨a158, ⟨nx159, ac160, rfl, hn161, ha162⟩, hv163⟩⟩
      have hs164 := World.grownBy.size g155
      have hs165 := World.grownBy.size G
      have hs166 := World.grownBy.size g155
      replace G := grown_trans G g155
      replace hB4 := hB4.grown g155 (by intro h; injection h with h; omega)
      replace hB12 := hB12.grown g155 (by intro h; injection h with h; omega)
      replace hB37 := hB37.grown g155 (by intro h; injection h with h; omega)
      replace hB81 := hB81.grown g155 (by intro h; injection h with h; omega)
      replace hn114 := hn114.stored g155 hR (by decide) (by decide)
      replace ha115 := ha115.stored g155 hR (by decide)
      replace hR := hB156
      refine Sq.call fn46 .plain rfl rfl (l3Wrong_c _ _ _ _ _ _ hR (hb.go G) hbl (by omega) a158 _ _ hn161 ha162 _ (by omega) hv163) ?_
      rintro _ w168 ⟨⟨p169, hp172, hB171, g170⟩, ⟨a173, ⟨nx174, ac175, rfl, hn176, ha177⟩, hv178⟩⟩
      have hs179 := World.grownBy.size g170
      have hs180 := World.grownBy.size G
      have hs181 := World.grownBy.size g170
      replace G := grown_trans G g170
      replace hB4 := hB4.grown g170 (by intro h; injection h with h; omega)
      replace hB12 := hB12.grown g170 (by intro h; injection h with h; omega)
      replace hB37 := hB37.grown g170 (by intro h; injection h with h; omega)
      replace hB81 := hB81.grown g170 (by intro h; injection h with h; omega)
      replace hn114 := hn114.stored g170 hR (by decide) (by decide)
      replace ha115 := ha115.stored g170 hR (by decide)
      replace hR := hB171
      refine Sq.storeAgg agg26 .plain rfl rfl (one_cons rfl (one_cons (Rows.one hn176) (one_cons (Row.one ha177) one_nil))) hB37 rfl rfl (fun w182 g183 hB184 => ?_)
      have hs185 := World.grownBy.size g183
      replace hR := hR.grown g183 (by intro h; injection h with h; omega)
      replace G := grown_far G g183 (fun k hk => by injection hk with hk; subst hk; omega)
      replace hB4 := hB4.grown g183 (by intro h; injection h with h; omega)
      replace hB12 := hB12.grown g183 (by intro h; injection h with h; omega)
      replace hB81 := hB81.grown g183 (by intro h; injection h with h; omega)
      replace hn114 := hn114.stored g183 hB37 (by decide) (by decide)
      replace ha115 := ha115.stored g183 hB37 (by decide)
      replace hn176 := hn176.stored g183 hB37 (by decide) (by decide)
      replace ha177 := ha177.stored g183 hB37 (by decide)
      replace hB37 := hB184
      refine Sq.nil ?_
      refine Eq.end ?_
      refine Eq.next ?_
      refine Cq.seq ?_
      refine Cq.drawS 3 (fun w' => Blk w' b34 26 [Value.int .i64 a173.al, nx174, ac175] ∧ Blk w' b78 26 [Value.int .i64 a111.al, nx112, ac113]) mixed (⟨hB37, hB81⟩) (fun w186 e187 hS => ?_)
      clear hS
      have hs188 := Below.size e187
      replace hR := hR.ext e187
      replace G := grown_trans G (Ext.to_grown e187 _)
      replace hB4 := hB4.ext e187
      replace hB12 := hB12.ext e187
      replace hB37 := hB37.ext e187
      replace hB81 := hB81.ext e187
      replace hn114 := hn114.ext e187
      replace ha115 := ha115.ext e187
      replace hn176 := hn176.ext e187
      replace ha177 := ha177.ext e187
      refine Gq.st 0 rfl (by kernel_rfl) rfl .plain rfl (fun _ _ _ h => h) ⟨hB37, hB81⟩ (fun w' x => Still.loadAgg agg26 rfl x.1 rfl) ?_
      refine Gq.st 1 rfl (by kernel_rfl) rfl .plain rfl (fun _ _ _ h => h) ⟨hB37, hB81⟩ (fun w' x => Still.loadAgg agg26 rfl x.2 rfl) ?_
      refine Gq.one 2 rfl (by kernel_rfl) ?_
      refine Sq.storeAgg agg26 .plain rfl rfl (one_cons rfl (one_cons (Rows.one hn176) (one_cons (Row.one ha177) one_nil))) hB4 rfl rfl (fun w189 g190 hB191 => ?_)
      have hs192 := World.grownBy.size g190
      replace hR := hR.grown g190 (by intro h; injection h with h; omega)
      replace G := grown_far G g190 (fun k hk => by injection hk with hk; subst hk; omega)
      replace hB12 := hB12.grown g190 (by intro h; injection h with h; omega)
      replace hB37 := hB37.grown g190 (by intro h; injection h with h; omega)
      replace hB81 := hB81.grown g190 (by intro h; injection h with h; omega)
      replace hn114 := hn114.stored g190 hB4 (by decide) (by decide)
      replace ha115 := ha115.stored g190 hB4 (by decide)
      replace hn176 := hn176.stored g190 hB4 (by decide) (by decide)
      replace ha177 := ha177.stored g190 hB4 (by decide)
      replace hB4 := hB191
      refine Sq.nil ?_
      refine Eq.goes (fun _ => ⟨hB37, hB81⟩) ?_
      refine Gq.one 3 rfl (by kernel_rfl) ?_
      refine Sq.storeAgg agg26 .plain rfl rfl (one_cons rfl (one_cons (Rows.one (OwnRows.rows hn114)) (one_cons (Row.one (Own.row ha115)) one_nil))) hB12 rfl rfl (fun w193 g194 hB195 => ?_)
      have hs196 := World.grownBy.size g194
      replace hR := hR.grown g194 (by intro h; injection h with h; omega)
      replace G := grown_far G g194 (fun k hk => by injection hk with hk; subst hk; omega)
      replace hB4 := hB4.grown g194 (by intro h; injection h with h; omega)
      replace hn114 := hn114.stored g194 hB12 (by decide) (by decide)
      replace ha115 := ha115.stored g194 hB12 (by decide)
      replace hn176 := hn176.stored g194 hB12 (by decide) (by decide)
      replace ha177 := ha177.stored g194 hB12 (by decide)
      replace hB12 := hB195
      refine Sq.nil ?_
      refine Eq.goes (fun h => absurd h (by decide)) ?_
      refine Gq.done (by kernel_rfl) ?_
      refine Eq.next ?_
      refine Cq.ret ?_
      refine Eq.retCC rfl rfl rfl agg26 agg26 hB4 hB12 rfl rfl ?_
      exact ⟨⟨_, by omega, hR, G⟩, _, _, _, _, rfl, ⟨_, _, rfl, hn176, ha177⟩, ⟨_, _, rfl, (OwnRows.rows hn114), (Own.row ha115)⟩, by first | exact (Small.of hv178).mono (by omega) | exact Small.mono hv178 (by omega) | exact (Small.of hv163).mono (by omega) | exact Small.mono hv163 (by omega) | exact (Small.of hv148).mono (by omega) | exact Small.mono hv148 (by omega) | exact (Small.of hv116).mono (by omega) | exact Small.mono hv116 (by omega) | exact (Small.of hv74).mono (by omega) | exact Small.mono hv74 (by omega) | exact (Small.of hv59).mono (by omega) | exact Small.mono hv59 (by omega) | exact (Small.of hv29).mono (by omega) | exact Small.mono hv29 (by omega), by first | exact (Small.of hv178).mono (by omega) | exact Small.mono hv178 (by omega) | exact (Small.of hv163).mono (by omega) | exact Small.mono hv163 (by omega) | exact (Small.of hv148).mono (by omega) | exact Small.mono hv148 (by omega) | exact (Small.of hv116).mono (by omega) | exact Small.mono hv116 (by omega) | exact (Small.of hv74).mono (by omega) | exact Small.mono hv74 (by omega) | exact (Small.of hv59).mono (by omega) | exact Small.mono hv59 (by omega) | exact (Small.of hv29).mono (by omega) | exact Small.mono hv29 (by omega)⟩
    refine Sq.assign .plain rfl rfl ?_
    refine Sq.nil ?_
    refine Eq.next ?_
    refine Cq.els rfl ?_
    refine Cq.seq ?_
    refine Cq.region ?_
    refine Sq.eql .plain rfl rfl rfl ?_
    refine Sq.part (fun c197 => ?_) (fun c197 => ?_)
    · refine Sq.assign .plain rfl rfl ?_
      refine Sq.nil ?_
      refine Eq.next ?_
      refine Cq.thn rfl ?_
      refine Cq.region ?_
      refine Sq.move .plain rfl rfl ?_
      refine Sq.move .plain rfl rfl ?_
      refine Sq.move .plain rfl rfl ?_
      refine Sq.loadAgg agg26 .plain rfl rfl hB81 rfl ?_
      refine Sq.call fn46 .plain rfl rfl (l3Wrong_c _ _ _ _ _ _ hR (hb.go G) hbl (by omega) a111 _ _ (OwnRows.rows hn114) (Own.row ha115) _ (by omega) (Small.of hv116)) ?_
      rintro _ w199 ⟨⟨p200, hp203, hB202, g201⟩, ⟨a204, ⟨nx205, ac206, rfl, hn207, ha208⟩, hv209⟩⟩
      have hs210 := World.grownBy.size g201
      have hs211 := World.grownBy.size G
      have hs212 := World.grownBy.size g201
      replace G := grown_trans G g201
      replace hB4 := hB4.grown g201 (by intro h; injection h with h; omega)
      replace hB12 := hB12.grown g201 (by intro h; injection h with h; omega)
      replace hn27 := hn27.stored g201 hR (by decide) (by decide)
      replace ha28 := ha28.stored g201 hR (by decide)
      replace hB37 := hB37.grown g201 (by intro h; injection h with h; omega)
      replace hB81 := hB81.grown g201 (by intro h; injection h with h; omega)
      replace hR := hB202
      refine Sq.call fn46 .plain rfl rfl (l3Wrong_c _ _ _ _ _ _ hR (hb.go G) hbl (by omega) a204 _ _ hn207 ha208 _ (by omega) hv209) ?_
      rintro _ w214 ⟨⟨p215, hp218, hB217, g216⟩, ⟨a219, ⟨nx220, ac221, rfl, hn222, ha223⟩, hv224⟩⟩
      have hs225 := World.grownBy.size g216
      have hs226 := World.grownBy.size G
      have hs227 := World.grownBy.size g216
      replace G := grown_trans G g216
      replace hB4 := hB4.grown g216 (by intro h; injection h with h; omega)
      replace hB12 := hB12.grown g216 (by intro h; injection h with h; omega)
      replace hn27 := hn27.stored g216 hR (by decide) (by decide)
      replace ha28 := ha28.stored g216 hR (by decide)
      replace hB37 := hB37.grown g216 (by intro h; injection h with h; omega)
      replace hB81 := hB81.grown g216 (by intro h; injection h with h; omega)
      replace hR := hB217
      refine Sq.call fn46 .plain rfl rfl (l3Wrong_c _ _ _ _ _ _ hR (hb.go G) hbl (by omega) a219 _ _ hn222 ha223 _ (by omega) hv224) ?_
      rintro _ w229 ⟨⟨p230, hp233, hB232, g231⟩, ⟨a234, ⟨nx235, ac236, rfl, hn237, ha238⟩, hv239⟩⟩
      have hs240 := World.grownBy.size g231
      have hs241 := World.grownBy.size G
      have hs242 := World.grownBy.size g231
      replace G := grown_trans G g231
      replace hB4 := hB4.grown g231 (by intro h; injection h with h; omega)
      replace hB12 := hB12.grown g231 (by intro h; injection h with h; omega)
      replace hn27 := hn27.stored g231 hR (by decide) (by decide)
      replace ha28 := ha28.stored g231 hR (by decide)
      replace hB37 := hB37.grown g231 (by intro h; injection h with h; omega)
      replace hB81 := hB81.grown g231 (by intro h; injection h with h; omega)
      replace hR := hB232
      refine Sq.storeAgg agg26 .plain rfl rfl (one_cons rfl (one_cons (Rows.one hn237) (one_cons (Row.one ha238) one_nil))) hB81 rfl rfl (fun w243 g244 hB245 => ?_)
      have hs246 := World.grownBy.size g244
      replace hR := hR.grown g244 (by intro h; injection h with h; omega)
      replace G := grown_far G g244 (fun k hk => by injection hk with hk; subst hk; omega)
      replace hB4 := hB4.grown g244 (by intro h; injection h with h; omega)
      replace hB12 := hB12.grown g244 (by intro h; injection h with h; omega)
      replace hn27 := hn27.stored g244 hB81 (by decide) (by decide)
      replace ha28 := ha28.stored g244 hB81 (by decide)
      replace hB37 := hB37.grown g244 (by intro h; injection h with h; omega)
      replace hn237 := hn237.stored g244 hB81 (by decide) (by decide)
      replace ha238 := ha238.stored g244 hB81 (by decide)
      replace hB81 := hB245
      refine Sq.nil ?_
      refine Eq.end ?_
      refine Eq.next ?_
      refine Cq.seq ?_
      refine Cq.drawS 3 (fun w' => Blk w' b34 26 [Value.int .i64 a24.al, nx25, ac26] ∧ Blk w' b78 26 [Value.int .i64 a234.al, nx235, ac236]) mixed (⟨hB37, hB81⟩) (fun w247 e248 hS => ?_)
      clear hS
      have hs249 := Below.size e248
      replace hR := hR.ext e248
      replace G := grown_trans G (Ext.to_grown e248 _)
      replace hB4 := hB4.ext e248
      replace hB12 := hB12.ext e248
      replace hn27 := hn27.ext e248
      replace ha28 := ha28.ext e248
      replace hB37 := hB37.ext e248
      replace hB81 := hB81.ext e248
      replace hn237 := hn237.ext e248
      replace ha238 := ha238.ext e248
      refine Gq.st 0 rfl (by kernel_rfl) rfl .plain rfl (fun _ _ _ h => h) ⟨hB37, hB81⟩ (fun w' x => Still.loadAgg agg26 rfl x.1 rfl) ?_
      refine Gq.st 1 rfl (by kernel_rfl) rfl .plain rfl (fun _ _ _ h => h) ⟨hB37, hB81⟩ (fun w' x => Still.loadAgg agg26 rfl x.2 rfl) ?_
      refine Gq.one 2 rfl (by kernel_rfl) ?_
      refine Sq.storeAgg agg26 .plain rfl rfl (one_cons rfl (one_cons (Rows.one hn27) (one_cons (Row.one ha28) one_nil))) hB4 rfl rfl (fun w250 g251 hB252 => ?_)
      have hs253 := World.grownBy.size g251
      replace hR := hR.grown g251 (by intro h; injection h with h; omega)
      replace G := grown_far G g251 (fun k hk => by injection hk with hk; subst hk; omega)
      replace hB12 := hB12.grown g251 (by intro h; injection h with h; omega)
      replace hn27 := hn27.stored g251 hB4 (by decide) (by decide)
      replace ha28 := ha28.stored g251 hB4 (by decide)
      replace hB37 := hB37.grown g251 (by intro h; injection h with h; omega)
      replace hB81 := hB81.grown g251 (by intro h; injection h with h; omega)
      replace hn237 := hn237.stored g251 hB4 (by decide) (by decide)
      replace ha238 := ha238.stored g251 hB4 (by decide)
      replace hB4 := hB252
      refine Sq.nil ?_
      refine Eq.goes (fun _ => ⟨hB37, hB81⟩) ?_
      refine Gq.one 3 rfl (by kernel_rfl) ?_
      refine Sq.storeAgg agg26 .plain rfl rfl (one_cons rfl (one_cons (Rows.one hn237) (one_cons (Row.one ha238) one_nil))) hB12 rfl rfl (fun w254 g255 hB256 => ?_)
      have hs257 := World.grownBy.size g255
      replace hR := hR.grown g255 (by intro h; injection h with h; omega)
      replace G := grown_far G g255 (fun k hk => by injection hk with hk; subst hk; omega)
      replace hB4 := hB4.grown g255 (by intro h; injection h with h; omega)
      replace hn27 := hn27.stored g255 hB12 (by decide) (by decide)
      replace ha28 := ha28.stored g255 hB12 (by decide)
      replace hn237 := hn237.stored g255 hB12 (by decide) (by decide)
      replace ha238 := ha238.stored g255 hB12 (by decide)
      replace hB12 := hB256
      refine Sq.nil ?_
      refine Eq.goes (fun h => absurd h (by decide)) ?_
      refine Gq.done (by kernel_rfl) ?_
      refine Eq.next ?_
      refine Cq.ret ?_
      refine Eq.retCC rfl rfl rfl agg26 agg26 hB4 hB12 rfl rfl ?_
      exact ⟨⟨_, by omega, hR, G⟩, _, _, _, _, rfl, ⟨_, _, rfl, hn27, ha28⟩, ⟨_, _, rfl, hn237, ha238⟩, by first | exact (Small.of hv239).mono (by omega) | exact Small.mono hv239 (by omega) | exact (Small.of hv224).mono (by omega) | exact Small.mono hv224 (by omega) | exact (Small.of hv209).mono (by omega) | exact Small.mono hv209 (by omega) | exact (Small.of hv178).mono (by omega) | exact Small.mono hv178 (by omega) | exact (Small.of hv163).mono (by omega) | exact Small.mono hv163 (by omega) | exact (Small.of hv148).mono (by omega) | exact Small.mono hv148 (by omega) | exact (Small.of hv116).mono (by omega) | exact Small.mono hv116 (by omega) | exact (Small.of hv74).mono (by omega) | exact Small.mono hv74 (by omega) | exact (Small.of hv59).mono (by omega) | exact Small.mono hv59 (by omega) | exact (Small.of hv29).mono (by omega) | exact Small.mono hv29 (by omega), by first | exact (Small.of hv239).mono (by omega) | exact Small.mono hv239 (by omega) | exact (Small.of hv224).mono (by omega) | exact Small.mono hv224 (by omega) | exact (Small.of hv209).mono (by omega) | exact Small.mono hv209 (by omega) | exact (Small.of hv178).mono (by omega) | exact Small.mono hv178 (by omega) | exact (Small.of hv163).mono (by omega) | exact Small.mono hv163 (by omega) | exact (Small.of hv148).mono (by omega) | exact Small.mono hv148 (by omega) | exact (Small.of hv116).mono (by omega) | exact Small.mono hv116 (by omega) | exact (Small.of hv74).mono (by omega) | exact Small.mono hv74 (by omega) | exact (Small.of hv59).mono (by omega) | exact Small.mono hv59 (by omega) | exact (Small.of hv29).mono (by omega) | exact Small.mono hv29 (by omega)⟩
    refine Sq.assign .plain rfl rfl ?_
    refine Sq.nil ?_
    refine Eq.next ?_
    refine Cq.els rfl ?_
    refine Cq.seq ?_
    refine Cq.region ?_
    refine Sq.eql .plain rfl rfl rfl ?_
    refine Sq.part (fun c258 => ?_) (fun c258 => ?_)
    · refine Sq.assign .plain rfl rfl ?_
      refine Sq.nil ?_
      refine Eq.next ?_
      refine Cq.thn rfl ?_
      refine Cq.region ?_
      refine Sq.move .plain rfl rfl ?_
      refine Sq.call fn42 .plain rfl rfl (l3Draw_c _ _ _ _ _ _ hR (hb.go G) hbl (by omega) ) ?_
      rintro _ w260 ⟨⟨p261, hp264, hB263, g262⟩, ⟨a265, ⟨nx266, ac267, rfl, hn268, ha269⟩, hv270, hal271⟩⟩
      have hs272 := World.grownBy.size g262
      have hs273 := World.grownBy.size G
      have hs274 := World.grownBy.size g262
      replace G := grown_trans G g262
      replace hB4 := hB4.grown g262 (by intro h; injection h with h; omega)
      replace hB12 := hB12.grown g262 (by intro h; injection h with h; omega)
      replace hn27 := hn27.stored g262 hR (by decide) (by decide)
      replace ha28 := ha28.stored g262 hR (by decide)
      replace hB37 := hB37.grown g262 (by intro h; injection h with h; omega)
      replace hB81 := hB81.grown g262 (by intro h; injection h with h; omega)
      replace hR := hB263
      refine Sq.storeAgg agg26 .plain rfl rfl (one_cons rfl (one_cons (Rows.one hn268) (one_cons (Row.one ha269) one_nil))) hB81 rfl rfl (fun w275 g276 hB277 => ?_)
      have hs278 := World.grownBy.size g276
      replace hR := hR.grown g276 (by intro h; injection h with h; omega)
      replace G := grown_far G g276 (fun k hk => by injection hk with hk; subst hk; omega)
      replace hB4 := hB4.grown g276 (by intro h; injection h with h; omega)
      replace hB12 := hB12.grown g276 (by intro h; injection h with h; omega)
      replace hn27 := hn27.stored g276 hB81 (by decide) (by decide)
      replace ha28 := ha28.stored g276 hB81 (by decide)
      replace hB37 := hB37.grown g276 (by intro h; injection h with h; omega)
      replace hn268 := hn268.stored g276 hB81 (by decide) (by decide)
      replace ha269 := ha269.stored g276 hB81 (by decide)
      replace hB81 := hB277
      refine Sq.nil ?_
      refine Eq.end ?_
      refine Eq.next ?_
      refine Cq.seq ?_
      refine Cq.drawS 3 (fun w' => Blk w' b34 26 [Value.int .i64 a24.al, nx25, ac26] ∧ Blk w' b78 26 [Value.int .i64 a265.al, nx266, ac267]) mixed (⟨hB37, hB81⟩) (fun w279 e280 hS => ?_)
      clear hS
      have hs281 := Below.size e280
      replace hR := hR.ext e280
      replace G := grown_trans G (Ext.to_grown e280 _)
      replace hB4 := hB4.ext e280
      replace hB12 := hB12.ext e280
      replace hn27 := hn27.ext e280
      replace ha28 := ha28.ext e280
      replace hB37 := hB37.ext e280
      replace hB81 := hB81.ext e280
      replace hn268 := hn268.ext e280
      replace ha269 := ha269.ext e280
      refine Gq.st 0 rfl (by kernel_rfl) rfl .plain rfl (fun _ _ _ h => h) ⟨hB37, hB81⟩ (fun w' x => Still.loadAgg agg26 rfl x.1 rfl) ?_
      refine Gq.st 1 rfl (by kernel_rfl) rfl .plain rfl (fun _ _ _ h => h) ⟨hB37, hB81⟩ (fun w' x => Still.loadAgg agg26 rfl x.2 rfl) ?_
      refine Gq.one 2 rfl (by kernel_rfl) ?_
      refine Sq.storeAgg agg26 .plain rfl rfl (one_cons rfl (one_cons (Rows.one hn27) (one_cons (Row.one ha28) one_nil))) hB4 rfl rfl (fun w282 g283 hB284 => ?_)
      have hs285 := World.grownBy.size g283
      replace hR := hR.grown g283 (by intro h; injection h with h; omega)
      replace G := grown_far G g283 (fun k hk => by injection hk with hk; subst hk; omega)
      replace hB12 := hB12.grown g283 (by intro h; injection h with h; omega)
      replace hn27 := hn27.stored g283 hB4 (by decide) (by decide)
      replace ha28 := ha28.stored g283 hB4 (by decide)
      replace hB37 := hB37.grown g283 (by intro h; injection h with h; omega)
      replace hB81 := hB81.grown g283 (by intro h; injection h with h; omega)
      replace hn268 := hn268.stored g283 hB4 (by decide) (by decide)
      replace ha269 := ha269.stored g283 hB4 (by decide)
      replace hB4 := hB284
      refine Sq.nil ?_
      refine Eq.goes (fun _ => ⟨hB37, hB81⟩) ?_
      refine Gq.one 3 rfl (by kernel_rfl) ?_
      refine Sq.storeAgg agg26 .plain rfl rfl (one_cons rfl (one_cons (Rows.one hn268) (one_cons (Row.one ha269) one_nil))) hB12 rfl rfl (fun w286 g287 hB288 => ?_)
      have hs289 := World.grownBy.size g287
      replace hR := hR.grown g287 (by intro h; injection h with h; omega)
      replace G := grown_far G g287 (fun k hk => by injection hk with hk; subst hk; omega)
      replace hB4 := hB4.grown g287 (by intro h; injection h with h; omega)
      replace hn27 := hn27.stored g287 hB12 (by decide) (by decide)
      replace ha28 := ha28.stored g287 hB12 (by decide)
      replace hn268 := hn268.stored g287 hB12 (by decide) (by decide)
      replace ha269 := ha269.stored g287 hB12 (by decide)
      replace hB12 := hB288
      refine Sq.nil ?_
      refine Eq.goes (fun h => absurd h (by decide)) ?_
      refine Gq.done (by kernel_rfl) ?_
      refine Eq.next ?_
      refine Cq.ret ?_
      refine Eq.retCC rfl rfl rfl agg26 agg26 hB4 hB12 rfl rfl ?_
      exact ⟨⟨_, by omega, hR, G⟩, _, _, _, _, rfl, ⟨_, _, rfl, hn27, ha28⟩, ⟨_, _, rfl, hn268, ha269⟩, by first | exact (Small.of hv270).mono (by omega) | exact Small.mono hv270 (by omega) | exact (Small.of hv239).mono (by omega) | exact Small.mono hv239 (by omega) | exact (Small.of hv224).mono (by omega) | exact Small.mono hv224 (by omega) | exact (Small.of hv209).mono (by omega) | exact Small.mono hv209 (by omega) | exact (Small.of hv178).mono (by omega) | exact Small.mono hv178 (by omega) | exact (Small.of hv163).mono (by omega) | exact Small.mono hv163 (by omega) | exact (Small.of hv148).mono (by omega) | exact Small.mono hv148 (by omega) | exact (Small.of hv116).mono (by omega) | exact Small.mono hv116 (by omega) | exact (Small.of hv74).mono (by omega) | exact Small.mono hv74 (by omega) | exact (Small.of hv59).mono (by omega) | exact Small.mono hv59 (by omega) | exact (Small.of hv29).mono (by omega) | exact Small.mono hv29 (by omega), by first | exact (Small.of hv270).mono (by omega) | exact Small.mono hv270 (by omega) | exact (Small.of hv239).mono (by omega) | exact Small.mono hv239 (by omega) | exact (Small.of hv224).mono (by omega) | exact Small.mono hv224 (by omega) | exact (Small.of hv209).mono (by omega) | exact Small.mono hv209 (by omega) | exact (Small.of hv178).mono (by omega) | exact Small.mono hv178 (by omega) | exact (Small.of hv163).mono (by omega) | exact Small.mono hv163 (by omega) | exact (Small.of hv148).mono (by omega) | exact Small.mono hv148 (by omega) | exact (Small.of hv116).mono (by omega) | exact Small.mono hv116 (by omega) | exact (Small.of hv74).mono (by omega) | exact Small.mono hv74 (by omega) | exact (Small.of hv59).mono (by omega) | exact Small.mono hv59 (by omega) | exact (Small.of hv29).mono (by omega) | exact Small.mono hv29 (by omega)⟩
    refine Sq.assign .plain rfl rfl ?_
    refine Sq.nil ?_
    refine Eq.next ?_
    refine Cq.els rfl ?_
    refine Cq.seq ?_
    refine Cq.region ?_
    refine Sq.eql .plain rfl rfl rfl ?_
    refine Sq.part (fun c290 => ?_) (fun c290 => ?_)
    · refine Sq.assign .plain rfl rfl ?_
      refine Sq.nil ?_
      refine Eq.next ?_
      refine Cq.thn rfl ?_
      refine Cq.seq ?_
      refine Cq.region ?_
      refine Sq.move .plain rfl rfl ?_
      refine Sq.call fn45 .plain rfl rfl (l3Big_c _ _ _ _ _ _ hR (hb.go G) hbl (by omega) ) ?_
      rintro _ w292 ⟨⟨p293, hp296, hB295, g294⟩, ⟨a297, ⟨nx298, ac299, rfl, hn300, ha301⟩, hv302⟩⟩
      have hs303 := World.grownBy.size g294
      have hs304 := World.grownBy.size G
      have hs305 := World.grownBy.size g294
      replace G := grown_trans G g294
      replace hB4 := hB4.grown g294 (by intro h; injection h with h; omega)
      replace hB12 := hB12.grown g294 (by intro h; injection h with h; omega)
      replace hB37 := hB37.grown g294 (by intro h; injection h with h; omega)
      replace hB81 := hB81.grown g294 (by intro h; injection h with h; omega)
      replace hR := hB295
      refine Sq.storeAgg agg26 .plain rfl rfl (one_cons rfl (one_cons (Rows.one (OwnRows.rows hn300)) (one_cons (Row.one (Own.row ha301)) one_nil))) hB37 rfl rfl (fun w306 g307 hB308 => ?_)
      have hs309 := World.grownBy.size g307
      replace hR := hR.grown g307 (by intro h; injection h with h; omega)
      replace G := grown_far G g307 (fun k hk => by injection hk with hk; subst hk; omega)
      replace hB4 := hB4.grown g307 (by intro h; injection h with h; omega)
      replace hB12 := hB12.grown g307 (by intro h; injection h with h; omega)
      replace hB81 := hB81.grown g307 (by intro h; injection h with h; omega)
      replace hn300 := hn300.stored g307 hB37 (by decide) (by decide)
      replace ha301 := ha301.stored g307 hB37 (by decide)
      replace hB37 := hB308
      refine Sq.nil ?_
      refine Eq.next ?_
      refine Cq.region ?_
      refine Sq.move .plain rfl rfl ?_
      refine Sq.loadAgg agg26 .plain rfl rfl hB37 rfl ?_
      refine Sq.call fn44 .plain rfl rfl (l4Change_c _ _ _ _ _ _ hR (hb.go G) hbl (by omega) a297 _ _ (OwnRows.rows hn300) (Own.row ha301) _ (by omega) (Small.of hv302)) ?_
      rintro _ w311 ⟨⟨p312, hp315, hB314, g313⟩, ⟨a316, ⟨nx317, ac318, rfl, hn319, ha320⟩, hv321⟩⟩
      have hs322 := World.grownBy.size g313
      have hs323 := World.grownBy.size G
      have hs324 := World.grownBy.size g313
      replace G := grown_trans G g313
      replace hB4 := hB4.grown g313 (by intro h; injection h with h; omega)
      replace hB12 := hB12.grown g313 (by intro h; injection h with h; omega)
      replace hB37 := hB37.grown g313 (by intro h; injection h with h; omega)
      replace hB81 := hB81.grown g313 (by intro h; injection h with h; omega)
      replace hn300 := hn300.stored g313 hR (by decide) (by decide)
      replace ha301 := ha301.stored g313 hR (by decide)
      replace hR := hB314
      refine Sq.storeAgg agg26 .plain rfl rfl (one_cons rfl (one_cons (Rows.one hn319) (one_cons (Row.one ha320) one_nil))) hB81 rfl rfl (fun w325 g326 hB327 => ?_)
      have hs328 := World.grownBy.size g326
      replace hR := hR.grown g326 (by intro h; injection h with h; omega)
      replace G := grown_far G g326 (fun k hk => by injection hk with hk; subst hk; omega)
      replace hB4 := hB4.grown g326 (by intro h; injection h with h; omega)
      replace hB12 := hB12.grown g326 (by intro h; injection h with h; omega)
      replace hB37 := hB37.grown g326 (by intro h; injection h with h; omega)
      replace hn300 := hn300.stored g326 hB81 (by decide) (by decide)
      replace ha301 := ha301.stored g326 hB81 (by decide)
      replace hn319 := hn319.stored g326 hB81 (by decide) (by decide)
      replace ha320 := ha320.stored g326 hB81 (by decide)
      replace hB81 := hB327
      refine Sq.nil ?_
      refine Eq.end ?_
      refine Eq.next ?_
      refine Cq.seq ?_
      refine Cq.drawS 3 (fun w' => Blk w' b34 26 [Value.int .i64 a297.al, nx298, ac299] ∧ Blk w' b78 26 [Value.int .i64 a316.al, nx317, ac318]) mixed (⟨hB37, hB81⟩) (fun w329 e330 hS => ?_)
      clear hS
      have hs331 := Below.size e330
      replace hR := hR.ext e330
      replace G := grown_trans G (Ext.to_grown e330 _)
      replace hB4 := hB4.ext e330
      replace hB12 := hB12.ext e330
      replace hB37 := hB37.ext e330
      replace hB81 := hB81.ext e330
      replace hn300 := hn300.ext e330
      replace ha301 := ha301.ext e330
      replace hn319 := hn319.ext e330
      replace ha320 := ha320.ext e330
      refine Gq.st 0 rfl (by kernel_rfl) rfl .plain rfl (fun _ _ _ h => h) ⟨hB37, hB81⟩ (fun w' x => Still.loadAgg agg26 rfl x.1 rfl) ?_
      refine Gq.st 1 rfl (by kernel_rfl) rfl .plain rfl (fun _ _ _ h => h) ⟨hB37, hB81⟩ (fun w' x => Still.loadAgg agg26 rfl x.2 rfl) ?_
      refine Gq.one 2 rfl (by kernel_rfl) ?_
      refine Sq.storeAgg agg26 .plain rfl rfl (one_cons rfl (one_cons (Rows.one (OwnRows.rows hn300)) (one_cons (Row.one (Own.row ha301)) one_nil))) hB4 rfl rfl (fun w332 g333 hB334 => ?_)
      have hs335 := World.grownBy.size g333
      replace hR := hR.grown g333 (by intro h; injection h with h; omega)
      replace G := grown_far G g333 (fun k hk => by injection hk with hk; subst hk; omega)
      replace hB12 := hB12.grown g333 (by intro h; injection h with h; omega)
      replace hB37 := hB37.grown g333 (by intro h; injection h with h; omega)
      replace hB81 := hB81.grown g333 (by intro h; injection h with h; omega)
      replace hn300 := hn300.stored g333 hB4 (by decide) (by decide)
      replace ha301 := ha301.stored g333 hB4 (by decide)
      replace hn319 := hn319.stored g333 hB4 (by decide) (by decide)
      replace ha320 := ha320.stored g333 hB4 (by decide)
      replace hB4 := hB334
      refine Sq.nil ?_
      refine Eq.goes (fun _ => ⟨hB37, hB81⟩) ?_
      refine Gq.one 3 rfl (by kernel_rfl) ?_
      refine Sq.storeAgg agg26 .plain rfl rfl (one_cons rfl (one_cons (Rows.one hn319) (one_cons (Row.one ha320) one_nil))) hB12 rfl rfl (fun w336 g337 hB338 => ?_)
      have hs339 := World.grownBy.size g337
      replace hR := hR.grown g337 (by intro h; injection h with h; omega)
      replace G := grown_far G g337 (fun k hk => by injection hk with hk; subst hk; omega)
      replace hB4 := hB4.grown g337 (by intro h; injection h with h; omega)
      replace hn300 := hn300.stored g337 hB12 (by decide) (by decide)
      replace ha301 := ha301.stored g337 hB12 (by decide)
      replace hn319 := hn319.stored g337 hB12 (by decide) (by decide)
      replace ha320 := ha320.stored g337 hB12 (by decide)
      replace hB12 := hB338
      refine Sq.nil ?_
      refine Eq.goes (fun h => absurd h (by decide)) ?_
      refine Gq.done (by kernel_rfl) ?_
      refine Eq.next ?_
      refine Cq.ret ?_
      refine Eq.retCC rfl rfl rfl agg26 agg26 hB4 hB12 rfl rfl ?_
      exact ⟨⟨_, by omega, hR, G⟩, _, _, _, _, rfl, ⟨_, _, rfl, (OwnRows.rows hn300), (Own.row ha301)⟩, ⟨_, _, rfl, hn319, ha320⟩, by first | exact (Small.of hv321).mono (by omega) | exact Small.mono hv321 (by omega) | exact (Small.of hv302).mono (by omega) | exact Small.mono hv302 (by omega) | exact (Small.of hv270).mono (by omega) | exact Small.mono hv270 (by omega) | exact (Small.of hv239).mono (by omega) | exact Small.mono hv239 (by omega) | exact (Small.of hv224).mono (by omega) | exact Small.mono hv224 (by omega) | exact (Small.of hv209).mono (by omega) | exact Small.mono hv209 (by omega) | exact (Small.of hv178).mono (by omega) | exact Small.mono hv178 (by omega) | exact (Small.of hv163).mono (by omega) | exact Small.mono hv163 (by omega) | exact (Small.of hv148).mono (by omega) | exact Small.mono hv148 (by omega) | exact (Small.of hv116).mono (by omega) | exact Small.mono hv116 (by omega) | exact (Small.of hv74).mono (by omega) | exact Small.mono hv74 (by omega) | exact (Small.of hv59).mono (by omega) | exact Small.mono hv59 (by omega) | exact (Small.of hv29).mono (by omega) | exact Small.mono hv29 (by omega), by first | exact (Small.of hv321).mono (by omega) | exact Small.mono hv321 (by omega) | exact (Small.of hv302).mono (by omega) | exact Small.mono hv302 (by omega) | exact (Small.of hv270).mono (by omega) | exact Small.mono hv270 (by omega) | exact (Small.of hv239).mono (by omega) | exact Small.mono hv239 (by omega) | exact (Small.of hv224).mono (by omega) | exact Small.mono hv224 (by omega) | exact (Small.of hv209).mono (by omega) | exact Small.mono hv209 (by omega) | exact (Small.of hv178).mono (by omega) | exact Small.mono hv178 (by omega) | exact (Small.of hv163).mono (by omega) | exact Small.mono hv163 (by omega) | exact (Small.of hv148).mono (by omega) | exact Small.mono hv148 (by omega) | exact (Small.of hv116).mono (by omega) | exact Small.mono hv116 (by omega) | exact (Small.of hv74).mono (by omega) | exact Small.mono hv74 (by omega) | exact (Small.of hv59).mono (by omega) | exact Small.mono hv59 (by omega) | exact (Small.of hv29).mono (by omega) | exact Small.mono hv29 (by omega)⟩
    refine Sq.assign .plain rfl rfl ?_
    refine Sq.nil ?_
    refine Eq.next ?_
    refine Cq.els rfl ?_
    refine Cq.skip ?_
    refine Eq.end ?_
    refine Eq.next ?_
    refine Cq.seq ?_
    refine Cq.drawS 3 (fun w' => Blk w' b34 26 [Value.int .i64 a24.al, nx25, ac26] ∧ Blk w' b78 26 [Value.int .i64 a111.al, nx112, ac113]) mixed (⟨hB37, hB81⟩) (fun w340 e341 hS => ?_)
    clear hS
    have hs342 := Below.size e341
    replace hR := hR.ext e341
    replace G := grown_trans G (Ext.to_grown e341 _)
    replace hB4 := hB4.ext e341
    replace hB12 := hB12.ext e341
    replace hn27 := hn27.ext e341
    replace ha28 := ha28.ext e341
    replace hB37 := hB37.ext e341
    replace hB81 := hB81.ext e341
    replace hn114 := hn114.ext e341
    replace ha115 := ha115.ext e341
    refine Gq.st 0 rfl (by kernel_rfl) rfl .plain rfl (fun _ _ _ h => h) ⟨hB37, hB81⟩ (fun w' x => Still.loadAgg agg26 rfl x.1 rfl) ?_
    refine Gq.st 1 rfl (by kernel_rfl) rfl .plain rfl (fun _ _ _ h => h) ⟨hB37, hB81⟩ (fun w' x => Still.loadAgg agg26 rfl x.2 rfl) ?_
    refine Gq.one 2 rfl (by kernel_rfl) ?_
    refine Sq.storeAgg agg26 .plain rfl rfl (one_cons rfl (one_cons (Rows.one hn27) (one_cons (Row.one ha28) one_nil))) hB4 rfl rfl (fun w343 g344 hB345 => ?_)
    have hs346 := World.grownBy.size g344
    replace hR := hR.grown g344 (by intro h; injection h with h; omega)
    replace G := grown_far G g344 (fun k hk => by injection hk with hk; subst hk; omega)
    replace hB12 := hB12.grown g344 (by intro h; injection h with h; omega)
    replace hn27 := hn27.stored g344 hB4 (by decide) (by decide)
    replace ha28 := ha28.stored g344 hB4 (by decide)
    replace hB37 := hB37.grown g344 (by intro h; injection h with h; omega)
    replace hB81 := hB81.grown g344 (by intro h; injection h with h; omega)
    replace hn114 := hn114.stored g344 hB4 (by decide) (by decide)
    replace ha115 := ha115.stored g344 hB4 (by decide)
    replace hB4 := hB345
    refine Sq.nil ?_
    refine Eq.goes (fun _ => ⟨hB37, hB81⟩) ?_
    refine Gq.one 3 rfl (by kernel_rfl) ?_
    refine Sq.storeAgg agg26 .plain rfl rfl (one_cons rfl (one_cons (Rows.one (OwnRows.rows hn114)) (one_cons (Row.one (Own.row ha115)) one_nil))) hB12 rfl rfl (fun w347 g348 hB349 => ?_)
    have hs350 := World.grownBy.size g348
    replace hR := hR.grown g348 (by intro h; injection h with h; omega)
    replace G := grown_far G g348 (fun k hk => by injection hk with hk; subst hk; omega)
    replace hB4 := hB4.grown g348 (by intro h; injection h with h; omega)
    replace hn27 := hn27.stored g348 hB12 (by decide) (by decide)
    replace ha28 := ha28.stored g348 hB12 (by decide)
    replace hn114 := hn114.stored g348 hB12 (by decide) (by decide)
    replace ha115 := ha115.stored g348 hB12 (by decide)
    replace hB12 := hB349
    refine Sq.nil ?_
    refine Eq.goes (fun h => absurd h (by decide)) ?_
    refine Gq.done (by kernel_rfl) ?_
    refine Eq.next ?_
    refine Cq.ret ?_
    refine Eq.retCC rfl rfl rfl agg26 agg26 hB4 hB12 rfl rfl ?_
    exact ⟨⟨_, by omega, hR, G⟩, _, _, _, _, rfl, ⟨_, _, rfl, hn27, ha28⟩, ⟨_, _, rfl, (OwnRows.rows hn114), (Own.row ha115)⟩, by first | exact (Small.of hv321).mono (by omega) | exact Small.mono hv321 (by omega) | exact (Small.of hv302).mono (by omega) | exact Small.mono hv302 (by omega) | exact (Small.of hv270).mono (by omega) | exact Small.mono hv270 (by omega) | exact (Small.of hv239).mono (by omega) | exact Small.mono hv239 (by omega) | exact (Small.of hv224).mono (by omega) | exact Small.mono hv224 (by omega) | exact (Small.of hv209).mono (by omega) | exact Small.mono hv209 (by omega) | exact (Small.of hv178).mono (by omega) | exact Small.mono hv178 (by omega) | exact (Small.of hv163).mono (by omega) | exact Small.mono hv163 (by omega) | exact (Small.of hv148).mono (by omega) | exact Small.mono hv148 (by omega) | exact (Small.of hv116).mono (by omega) | exact Small.mono hv116 (by omega) | exact (Small.of hv74).mono (by omega) | exact Small.mono hv74 (by omega) | exact (Small.of hv59).mono (by omega) | exact Small.mono hv59 (by omega) | exact (Small.of hv29).mono (by omega) | exact Small.mono hv29 (by omega), by first | exact (Small.of hv321).mono (by omega) | exact Small.mono hv321 (by omega) | exact (Small.of hv302).mono (by omega) | exact Small.mono hv302 (by omega) | exact (Small.of hv270).mono (by omega) | exact Small.mono hv270 (by omega) | exact (Small.of hv239).mono (by omega) | exact Small.mono hv239 (by omega) | exact (Small.of hv224).mono (by omega) | exact Small.mono hv224 (by omega) | exact (Small.of hv209).mono (by omega) | exact Small.mono hv209 (by omega) | exact (Small.of hv178).mono (by omega) | exact Small.mono hv178 (by omega) | exact (Small.of hv163).mono (by omega) | exact Small.mono hv163 (by omega) | exact (Small.of hv148).mono (by omega) | exact Small.mono hv148 (by omega) | exact (Small.of hv116).mono (by omega) | exact Small.mono hv116 (by omega) | exact (Small.of hv74).mono (by omega) | exact Small.mono hv74 (by omega) | exact (Small.of hv59).mono (by omega) | exact Small.mono hv59 (by omega) | exact (Small.of hv29).mono (by omega) | exact Small.mono hv29 (by omega)⟩
  refine Sq.assign .plain rfl rfl ?_
  refine Sq.nil ?_
  refine Eq.next ?_
  refine Cq.els rfl ?_
  refine Cq.seq ?_
  refine Cq.region ?_
  refine Sq.eql .plain rfl rfl rfl ?_
  refine Sq.part (fun c351 => ?_) (fun c351 => ?_)
  · refine Sq.assign .plain rfl rfl ?_
    refine Sq.nil ?_
    refine Eq.next ?_
    refine Cq.thn rfl ?_
    refine Cq.region ?_
    refine Sq.move .plain rfl rfl ?_
    refine Sq.loadAgg agg26 .plain rfl rfl hB37 rfl ?_
    refine Sq.call fn44 .plain rfl rfl (l4Change_c _ _ _ _ _ _ hR (hb.go G) hbl (by omega) a24 _ _ hn27 ha28 _ (by omega) hv29) ?_
    rintro _ w353 ⟨⟨p354, hp357, hB356, g355⟩, ⟨a358, ⟨nx359, ac360, rfl, hn361, ha362⟩, hv363⟩⟩
    have hs364 := World.grownBy.size g355
    have hs365 := World.grownBy.size G
    have hs366 := World.grownBy.size g355
    replace G := grown_trans G g355
    replace hB4 := hB4.grown g355 (by intro h; injection h with h; omega)
    replace hB12 := hB12.grown g355 (by intro h; injection h with h; omega)
    replace hn27 := hn27.stored g355 hR (by decide) (by decide)
    replace ha28 := ha28.stored g355 hR (by decide)
    replace hB37 := hB37.grown g355 (by intro h; injection h with h; omega)
    replace hB81 := hB81.grown g355 (by intro h; injection h with h; omega)
    replace hR := hB356
    refine Sq.storeAgg agg26 .plain rfl rfl (one_cons rfl (one_cons (Rows.one hn361) (one_cons (Row.one ha362) one_nil))) hB81 rfl rfl (fun w367 g368 hB369 => ?_)
    have hs370 := World.grownBy.size g368
    replace hR := hR.grown g368 (by intro h; injection h with h; omega)
    replace G := grown_far G g368 (fun k hk => by injection hk with hk; subst hk; omega)
    replace hB4 := hB4.grown g368 (by intro h; injection h with h; omega)
    replace hB12 := hB12.grown g368 (by intro h; injection h with h; omega)
    replace hn27 := hn27.stored g368 hB81 (by decide) (by decide)
    replace ha28 := ha28.stored g368 hB81 (by decide)
    replace hB37 := hB37.grown g368 (by intro h; injection h with h; omega)
    replace hn361 := hn361.stored g368 hB81 (by decide) (by decide)
    replace ha362 := ha362.stored g368 hB81 (by decide)
    replace hB81 := hB369
    refine Sq.nil ?_
    refine Eq.end ?_
    refine Eq.next ?_
    refine Cq.seq ?_
    refine Cq.seq ?_
    refine Cq.region ?_
    refine Sq.move .plain rfl rfl ?_
    refine Sq.call fn43 .plain rfl rfl (pick_c _ _ _ _ _ _ hR (hb.go G) hbl (by omega) 20 (by omega)) ?_
    rintro _ w372 ⟨⟨p373, hp376, hB375, g374⟩, ⟨k377, rfl, hk378⟩⟩
    have hs379 := World.grownBy.size g374
    have hs380 := World.grownBy.size G
    have hs381 := World.grownBy.size g374
    replace G := grown_trans G g374
    replace hB4 := hB4.grown g374 (by intro h; injection h with h; omega)
    replace hB12 := hB12.grown g374 (by intro h; injection h with h; omega)
    replace hn27 := hn27.stored g374 hR (by decide) (by decide)
    replace ha28 := ha28.stored g374 hR (by decide)
    replace hB37 := hB37.grown g374 (by intro h; injection h with h; omega)
    replace hB81 := hB81.grown g374 (by intro h; injection h with h; omega)
    replace hn361 := hn361.stored g374 hR (by decide) (by decide)
    replace ha362 := ha362.stored g374 hR (by decide)
    replace hR := hB375
    refine Sq.nil ?_
    refine Eq.next ?_
    refine Cq.block ?_
    refine Cq.seq ?_
    refine Cq.region ?_
    refine Sq.eql .plain rfl rfl rfl ?_
    refine Sq.part (fun c382 => ?_) (fun c382 => ?_)
    · refine Sq.assign .plain rfl rfl ?_
      refine Sq.nil ?_
      refine Eq.next ?_
      refine Cq.thn rfl ?_
      refine Cq.region ?_
      refine Sq.move .plain rfl rfl ?_
      refine Sq.move .plain rfl rfl ?_
      refine Sq.move .plain rfl rfl ?_
      refine Sq.loadAgg agg26 .plain rfl rfl hB37 rfl ?_
      refine Sq.call fn46 .plain rfl rfl (l3Wrong_c _ _ _ _ _ _ hR (hb.go G) hbl (by omega) a24 _ _ hn27 ha28 _ (by omega) hv29) ?_
      rintro _ w384 ⟨⟨p385, hp388, hB387, g386⟩, ⟨a389, ⟨nx390, ac391, rfl, hn392, ha393⟩, hv394⟩⟩
      have hs395 := World.grownBy.size g386
      have hs396 := World.grownBy.size G
      have hs397 := World.grownBy.size g386
      replace G := grown_trans G g386
      replace hB4 := hB4.grown g386 (by intro h; injection h with h; omega)
      replace hB12 := hB12.grown g386 (by intro h; injection h with h; omega)
      replace hB37 := hB37.grown g386 (by intro h; injection h with h; omega)
      replace hB81 := hB81.grown g386 (by intro h; injection h with h; omega)
      replace hn361 := hn361.stored g386 hR (by decide) (by decide)
      replace ha362 := ha362.stored g386 hR (by decide)
      replace hR := hB387
      refine Sq.call fn46 .plain rfl rfl (l3Wrong_c _ _ _ _ _ _ hR (hb.go G) hbl (by omega) a389 _ _ hn392 ha393 _ (by omega) hv394) ?_
      rintro _ w399 ⟨⟨p400, hp403, hB402, g401⟩, ⟨a404, ⟨nx405, ac406, rfl, hn407, ha408⟩, hv409⟩⟩
      have hs410 := World.grownBy.size g401
      have hs411 := World.grownBy.size G
      have hs412 := World.grownBy.size g401
      replace G := grown_trans G g401
      replace hB4 := hB4.grown g401 (by intro h; injection h with h; omega)
      replace hB12 := hB12.grown g401 (by intro h; injection h with h; omega)
      replace hB37 := hB37.grown g401 (by intro h; injection h with h; omega)
      replace hB81 := hB81.grown g401 (by intro h; injection h with h; omega)
      replace hn361 := hn361.stored g401 hR (by decide) (by decide)
      replace ha362 := ha362.stored g401 hR (by decide)
      replace hR := hB402
      refine Sq.call fn46 .plain rfl rfl (l3Wrong_c _ _ _ _ _ _ hR (hb.go G) hbl (by omega) a404 _ _ hn407 ha408 _ (by omega) hv409) ?_
      rintro _ w414 ⟨⟨p415, hp418, hB417, g416⟩, ⟨a419, ⟨nx420, ac421, rfl, hn422, ha423⟩, hv424⟩⟩
      have hs425 := World.grownBy.size g416
      have hs426 := World.grownBy.size G
      have hs427 := World.grownBy.size g416
      replace G := grown_trans G g416
      replace hB4 := hB4.grown g416 (by intro h; injection h with h; omega)
      replace hB12 := hB12.grown g416 (by intro h; injection h with h; omega)
      replace hB37 := hB37.grown g416 (by intro h; injection h with h; omega)
      replace hB81 := hB81.grown g416 (by intro h; injection h with h; omega)
      replace hn361 := hn361.stored g416 hR (by decide) (by decide)
      replace ha362 := ha362.stored g416 hR (by decide)
      replace hR := hB417
      refine Sq.storeAgg agg26 .plain rfl rfl (one_cons rfl (one_cons (Rows.one hn422) (one_cons (Row.one ha423) one_nil))) hB37 rfl rfl (fun w428 g429 hB430 => ?_)
      have hs431 := World.grownBy.size g429
      replace hR := hR.grown g429 (by intro h; injection h with h; omega)
      replace G := grown_far G g429 (fun k hk => by injection hk with hk; subst hk; omega)
      replace hB4 := hB4.grown g429 (by intro h; injection h with h; omega)
      replace hB12 := hB12.grown g429 (by intro h; injection h with h; omega)
      replace hB81 := hB81.grown g429 (by intro h; injection h with h; omega)
      replace hn361 := hn361.stored g429 hB37 (by decide) (by decide)
      replace ha362 := ha362.stored g429 hB37 (by decide)
      replace hn422 := hn422.stored g429 hB37 (by decide) (by decide)
      replace ha423 := ha423.stored g429 hB37 (by decide)
      replace hB37 := hB430
      refine Sq.nil ?_
      refine Eq.end ?_
      refine Eq.next ?_
      refine Cq.seq ?_
      refine Cq.drawS 3 (fun w' => Blk w' b34 26 [Value.int .i64 a419.al, nx420, ac421] ∧ Blk w' b78 26 [Value.int .i64 a358.al, nx359, ac360]) mixed (⟨hB37, hB81⟩) (fun w432 e433 hS => ?_)
      clear hS
      have hs434 := Below.size e433
      replace hR := hR.ext e433
      replace G := grown_trans G (Ext.to_grown e433 _)
      replace hB4 := hB4.ext e433
      replace hB12 := hB12.ext e433
      replace hB37 := hB37.ext e433
      replace hB81 := hB81.ext e433
      replace hn361 := hn361.ext e433
      replace ha362 := ha362.ext e433
      replace hn422 := hn422.ext e433
      replace ha423 := ha423.ext e433
      refine Gq.st 0 rfl (by kernel_rfl) rfl .plain rfl (fun _ _ _ h => h) ⟨hB37, hB81⟩ (fun w' x => Still.loadAgg agg26 rfl x.1 rfl) ?_
      refine Gq.st 1 rfl (by kernel_rfl) rfl .plain rfl (fun _ _ _ h => h) ⟨hB37, hB81⟩ (fun w' x => Still.loadAgg agg26 rfl x.2 rfl) ?_
      refine Gq.one 2 rfl (by kernel_rfl) ?_
      refine Sq.storeAgg agg26 .plain rfl rfl (one_cons rfl (one_cons (Rows.one hn422) (one_cons (Row.one ha423) one_nil))) hB4 rfl rfl (fun w435 g436 hB437 => ?_)
      have hs438 := World.grownBy.size g436
      replace hR := hR.grown g436 (by intro h; injection h with h; omega)
      replace G := grown_far G g436 (fun k hk => by injection hk with hk; subst hk; omega)
      replace hB12 := hB12.grown g436 (by intro h; injection h with h; omega)
      replace hB37 := hB37.grown g436 (by intro h; injection h with h; omega)
      replace hB81 := hB81.grown g436 (by intro h; injection h with h; omega)
      replace hn361 := hn361.stored g436 hB4 (by decide) (by decide)
      replace ha362 := ha362.stored g436 hB4 (by decide)
      replace hn422 := hn422.stored g436 hB4 (by decide) (by decide)
      replace ha423 := ha423.stored g436 hB4 (by decide)
      replace hB4 := hB437
      refine Sq.nil ?_
      refine Eq.goes (fun _ => ⟨hB37, hB81⟩) ?_
      refine Gq.one 3 rfl (by kernel_rfl) ?_
      refine Sq.storeAgg agg26 .plain rfl rfl (one_cons rfl (one_cons (Rows.one hn361) (one_cons (Row.one ha362) one_nil))) hB12 rfl rfl (fun w439 g440 hB441 => ?_)
      have hs442 := World.grownBy.size g440
      replace hR := hR.grown g440 (by intro h; injection h with h; omega)
      replace G := grown_far G g440 (fun k hk => by injection hk with hk; subst hk; omega)
      replace hB4 := hB4.grown g440 (by intro h; injection h with h; omega)
      replace hn361 := hn361.stored g440 hB12 (by decide) (by decide)
      replace ha362 := ha362.stored g440 hB12 (by decide)
      replace hn422 := hn422.stored g440 hB12 (by decide) (by decide)
      replace ha423 := ha423.stored g440 hB12 (by decide)
      replace hB12 := hB441
      refine Sq.nil ?_
      refine Eq.goes (fun h => absurd h (by decide)) ?_
      refine Gq.done (by kernel_rfl) ?_
      refine Eq.next ?_
      refine Cq.ret ?_
      refine Eq.retCC rfl rfl rfl agg26 agg26 hB4 hB12 rfl rfl ?_
      exact ⟨⟨_, by omega, hR, G⟩, _, _, _, _, rfl, ⟨_, _, rfl, hn422, ha423⟩, ⟨_, _, rfl, hn361, ha362⟩, by first | exact (Small.of hv424).mono (by omega) | exact Small.mono hv424 (by omega) | exact (Small.of hv409).mono (by omega) | exact Small.mono hv409 (by omega) | exact (Small.of hv394).mono (by omega) | exact Small.mono hv394 (by omega) | exact (Small.of hv363).mono (by omega) | exact Small.mono hv363 (by omega) | exact (Small.of hv321).mono (by omega) | exact Small.mono hv321 (by omega) | exact (Small.of hv302).mono (by omega) | exact Small.mono hv302 (by omega) | exact (Small.of hv270).mono (by omega) | exact Small.mono hv270 (by omega) | exact (Small.of hv239).mono (by omega) | exact Small.mono hv239 (by omega) | exact (Small.of hv224).mono (by omega) | exact Small.mono hv224 (by omega) | exact (Small.of hv209).mono (by omega) | exact Small.mono hv209 (by omega) | exact (Small.of hv178).mono (by omega) | exact Small.mono hv178 (by omega) | exact (Small.of hv163).mono (by omega) | exact Small.mono hv163 (by omega) | exact (Small.of hv148).mono (by omega) | exact Small.mono hv148 (by omega) | exact (Small.of hv116).mono (by omega) | exact Small.mono hv116 (by omega) | exact (Small.of hv74).mono (by omega) | exact Small.mono hv74 (by omega) | exact (Small.of hv59).mono (by omega) | exact Small.mono hv59 (by omega) | exact (Small.of hv29).mono (by omega) | exact Small.mono hv29 (by omega), by first | exact (Small.of hv424).mono (by omega) | exact Small.mono hv424 (by omega) | exact (Small.of hv409).mono (by omega) | exact Small.mono hv409 (by omega) | exact (Small.of hv394).mono (by omega) | exact Small.mono hv394 (by omega) | exact (Small.of hv363).mono (by omega) | exact Small.mono hv363 (by omega) | exact (Small.of hv321).mono (by omega) | exact Small.mono hv321 (by omega) | exact (Small.of hv302).mono (by omega) | exact Small.mono hv302 (by omega) | exact (Small.of hv270).mono (by omega) | exact Small.mono hv270 (by omega) | exact (Small.of hv239).mono (by omega) | exact Small.mono hv239 (by omega) | exact (Small.of hv224).mono (by omega) | exact Small.mono hv224 (by omega) | exact (Small.of hv209).mono (by omega) | exact Small.mono hv209 (by omega) | exact (Small.of hv178).mono (by omega) | exact Small.mono hv178 (by omega) | exact (Small.of hv163).mono (by omega) | exact Small.mono hv163 (by omega) | exact (Small.of hv148).mono (by omega) | exact Small.mono hv148 (by omega) | exact (Small.of hv116).mono (by omega) | exact Small.mono hv116 (by omega) | exact (Small.of hv74).mono (by omega) | exact Small.mono hv74 (by omega) | exact (Small.of hv59).mono (by omega) | exact Small.mono hv59 (by omega) | exact (Small.of hv29).mono (by omega) | exact Small.mono hv29 (by omega)⟩
    refine Sq.assign .plain rfl rfl ?_
    refine Sq.nil ?_
    refine Eq.next ?_
    refine Cq.els rfl ?_
    refine Cq.seq ?_
    refine Cq.region ?_
    refine Sq.eql .plain rfl rfl rfl ?_
    refine Sq.part (fun c443 => ?_) (fun c443 => ?_)
    · refine Sq.assign .plain rfl rfl ?_
      refine Sq.nil ?_
      refine Eq.next ?_
      refine Cq.thn rfl ?_
      refine Cq.region ?_
      refine Sq.move .plain rfl rfl ?_
      refine Sq.move .plain rfl rfl ?_
      refine Sq.move .plain rfl rfl ?_
      refine Sq.loadAgg agg26 .plain rfl rfl hB81 rfl ?_
      refine Sq.call fn46 .plain rfl rfl (l3Wrong_c _ _ _ _ _ _ hR (hb.go G) hbl (by omega) a358 _ _ hn361 ha362 _ (by omega) hv363) ?_
      rintro _ w445 ⟨⟨p446, hp449, hB448, g447⟩, ⟨a450, ⟨nx451, ac452, rfl, hn453, ha454⟩, hv455⟩⟩
      have hs456 := World.grownBy.size g447
      have hs457 := World.grownBy.size G
      have hs458 := World.grownBy.size g447
      replace G := grown_trans G g447
      replace hB4 := hB4.grown g447 (by intro h; injection h with h; omega)
      replace hB12 := hB12.grown g447 (by intro h; injection h with h; omega)
      replace hn27 := hn27.stored g447 hR (by decide) (by decide)
      replace ha28 := ha28.stored g447 hR (by decide)
      replace hB37 := hB37.grown g447 (by intro h; injection h with h; omega)
      replace hB81 := hB81.grown g447 (by intro h; injection h with h; omega)
      replace hR := hB448
      refine Sq.call fn46 .plain rfl rfl (l3Wrong_c _ _ _ _ _ _ hR (hb.go G) hbl (by omega) a450 _ _ hn453 ha454 _ (by omega) hv455) ?_
      rintro _ w460 ⟨⟨p461, hp464, hB463, g462⟩, ⟨a465, ⟨nx466, ac467, rfl, hn468, ha469⟩, hv470⟩⟩
      have hs471 := World.grownBy.size g462
      have hs472 := World.grownBy.size G
      have hs473 := World.grownBy.size g462
      replace G := grown_trans G g462
      replace hB4 := hB4.grown g462 (by intro h; injection h with h; omega)
      replace hB12 := hB12.grown g462 (by intro h; injection h with h; omega)
      replace hn27 := hn27.stored g462 hR (by decide) (by decide)
      replace ha28 := ha28.stored g462 hR (by decide)
      replace hB37 := hB37.grown g462 (by intro h; injection h with h; omega)
      replace hB81 := hB81.grown g462 (by intro h; injection h with h; omega)
      replace hR := hB463
      refine Sq.call fn46 .plain rfl rfl (l3Wrong_c _ _ _ _ _ _ hR (hb.go G) hbl (by omega) a465 _ _ hn468 ha469 _ (by omega) hv470) ?_
      rintro _ w475 ⟨⟨p476, hp479, hB478, g477⟩, ⟨a480, ⟨nx481, ac482, rfl, hn483, ha484⟩, hv485⟩⟩
      have hs486 := World.grownBy.size g477
      have hs487 := World.grownBy.size G
      have hs488 := World.grownBy.size g477
      replace G := grown_trans G g477
      replace hB4 := hB4.grown g477 (by intro h; injection h with h; omega)
      replace hB12 := hB12.grown g477 (by intro h; injection h with h; omega)
      replace hn27 := hn27.stored g477 hR (by decide) (by decide)
      replace ha28 := ha28.stored g477 hR (by decide)
      replace hB37 := hB37.grown g477 (by intro h; injection h with h; omega)
      replace hB81 := hB81.grown g477 (by intro h; injection h with h; omega)
      replace hR := hB478
      refine Sq.storeAgg agg26 .plain rfl rfl (one_cons rfl (one_cons (Rows.one hn483) (one_cons (Row.one ha484) one_nil))) hB81 rfl rfl (fun w489 g490 hB491 => ?_)
      have hs492 := World.grownBy.size g490
      replace hR := hR.grown g490 (by intro h; injection h with h; omega)
      replace G := grown_far G g490 (fun k hk => by injection hk with hk; subst hk; omega)
      replace hB4 := hB4.grown g490 (by intro h; injection h with h; omega)
      replace hB12 := hB12.grown g490 (by intro h; injection h with h; omega)
      replace hn27 := hn27.stored g490 hB81 (by decide) (by decide)
      replace ha28 := ha28.stored g490 hB81 (by decide)
      replace hB37 := hB37.grown g490 (by intro h; injection h with h; omega)
      replace hn483 := hn483.stored g490 hB81 (by decide) (by decide)
      replace ha484 := ha484.stored g490 hB81 (by decide)
      replace hB81 := hB491
      refine Sq.nil ?_
      refine Eq.end ?_
      refine Eq.next ?_
      refine Cq.seq ?_
      refine Cq.drawS 3 (fun w' => Blk w' b34 26 [Value.int .i64 a24.al, nx25, ac26] ∧ Blk w' b78 26 [Value.int .i64 a480.al, nx481, ac482]) mixed (⟨hB37, hB81⟩) (fun w493 e494 hS => ?_)
      clear hS
      have hs495 := Below.size e494
      replace hR := hR.ext e494
      replace G := grown_trans G (Ext.to_grown e494 _)
      replace hB4 := hB4.ext e494
      replace hB12 := hB12.ext e494
      replace hn27 := hn27.ext e494
      replace ha28 := ha28.ext e494
      replace hB37 := hB37.ext e494
      replace hB81 := hB81.ext e494
      replace hn483 := hn483.ext e494
      replace ha484 := ha484.ext e494
      refine Gq.st 0 rfl (by kernel_rfl) rfl .plain rfl (fun _ _ _ h => h) ⟨hB37, hB81⟩ (fun w' x => Still.loadAgg agg26 rfl x.1 rfl) ?_
      refine Gq.st 1 rfl (by kernel_rfl) rfl .plain rfl (fun _ _ _ h => h) ⟨hB37, hB81⟩ (fun w' x => Still.loadAgg agg26 rfl x.2 rfl) ?_
      refine Gq.one 2 rfl (by kernel_rfl) ?_
      refine Sq.storeAgg agg26 .plain rfl rfl (one_cons rfl (one_cons (Rows.one hn27) (one_cons (Row.one ha28) one_nil))) hB4 rfl rfl (fun w496 g497 hB498 => ?_)
      have hs499 := World.grownBy.size g497
      replace hR := hR.grown g497 (by intro h; injection h with h; omega)
      replace G := grown_far G g497 (fun k hk => by injection hk with hk; subst hk; omega)
      replace hB12 := hB12.grown g497 (by intro h; injection h with h; omega)
      replace hn27 := hn27.stored g497 hB4 (by decide) (by decide)
      replace ha28 := ha28.stored g497 hB4 (by decide)
      replace hB37 := hB37.grown g497 (by intro h; injection h with h; omega)
      replace hB81 := hB81.grown g497 (by intro h; injection h with h; omega)
      replace hn483 := hn483.stored g497 hB4 (by decide) (by decide)
      replace ha484 := ha484.stored g497 hB4 (by decide)
      replace hB4 := hB498
      refine Sq.nil ?_
      refine Eq.goes (fun _ => ⟨hB37, hB81⟩) ?_
      refine Gq.one 3 rfl (by kernel_rfl) ?_
      refine Sq.storeAgg agg26 .plain rfl rfl (one_cons rfl (one_cons (Rows.one hn483) (one_cons (Row.one ha484) one_nil))) hB12 rfl rfl (fun w500 g501 hB502 => ?_)
      have hs503 := World.grownBy.size g501
      replace hR := hR.grown g501 (by intro h; injection h with h; omega)
      replace G := grown_far G g501 (fun k hk => by injection hk with hk; subst hk; omega)
      replace hB4 := hB4.grown g501 (by intro h; injection h with h; omega)
      replace hn27 := hn27.stored g501 hB12 (by decide) (by decide)
      replace ha28 := ha28.stored g501 hB12 (by decide)
      replace hn483 := hn483.stored g501 hB12 (by decide) (by decide)
      replace ha484 := ha484.stored g501 hB12 (by decide)
      replace hB12 := hB502
      refine Sq.nil ?_
      refine Eq.goes (fun h => absurd h (by decide)) ?_
      refine Gq.done (by kernel_rfl) ?_
      refine Eq.next ?_
      refine Cq.ret ?_
      refine Eq.retCC rfl rfl rfl agg26 agg26 hB4 hB12 rfl rfl ?_
      exact ⟨⟨_, by omega, hR, G⟩, _, _, _, _, rfl, ⟨_, _, rfl, hn27, ha28⟩, ⟨_, _, rfl, hn483, ha484⟩, by first | exact (Small.of hv485).mono (by omega) | exact Small.mono hv485 (by omega) | exact (Small.of hv470).mono (by omega) | exact Small.mono hv470 (by omega) | exact (Small.of hv455).mono (by omega) | exact Small.mono hv455 (by omega) | exact (Small.of hv424).mono (by omega) | exact Small.mono hv424 (by omega) | exact (Small.of hv409).mono (by omega) | exact Small.mono hv409 (by omega) | exact (Small.of hv394).mono (by omega) | exact Small.mono hv394 (by omega) | exact (Small.of hv363).mono (by omega) | exact Small.mono hv363 (by omega) | exact (Small.of hv321).mono (by omega) | exact Small.mono hv321 (by omega) | exact (Small.of hv302).mono (by omega) | exact Small.mono hv302 (by omega) | exact (Small.of hv270).mono (by omega) | exact Small.mono hv270 (by omega) | exact (Small.of hv239).mono (by omega) | exact Small.mono hv239 (by omega) | exact (Small.of hv224).mono (by omega) | exact Small.mono hv224 (by omega) | exact (Small.of hv209).mono (by omega) | exact Small.mono hv209 (by omega) | exact (Small.of hv178).mono (by omega) | exact Small.mono hv178 (by omega) | exact (Small.of hv163).mono (by omega) | exact Small.mono hv163 (by omega) | exact (Small.of hv148).mono (by omega) | exact Small.mono hv148 (by omega) | exact (Small.of hv116).mono (by omega) | exact Small.mono hv116 (by omega) | exact (Small.of hv74).mono (by omega) | exact Small.mono hv74 (by omega) | exact (Small.of hv59).mono (by omega) | exact Small.mono hv59 (by omega) | exact (Small.of hv29).mono (by omega) | exact Small.mono hv29 (by omega), by first | exact (Small.of hv485).mono (by omega) | exact Small.mono hv485 (by omega) | exact (Small.of hv470).mono (by omega) | exact Small.mono hv470 (by omega) | exact (Small.of hv455).mono (by omega) | exact Small.mono hv455 (by omega) | exact (Small.of hv424).mono (by omega) | exact Small.mono hv424 (by omega) | exact (Small.of hv409).mono (by omega) | exact Small.mono hv409 (by omega) | exact (Small.of hv394).mono (by omega) | exact Small.mono hv394 (by omega) | exact (Small.of hv363).mono (by omega) | exact Small.mono hv363 (by omega) | exact (Small.of hv321).mono (by omega) | exact Small.mono hv321 (by omega) | exact (Small.of hv302).mono (by omega) | exact Small.mono hv302 (by omega) | exact (Small.of hv270).mono (by omega) | exact Small.mono hv270 (by omega) | exact (Small.of hv239).mono (by omega) | exact Small.mono hv239 (by omega) | exact (Small.of hv224).mono (by omega) | exact Small.mono hv224 (by omega) | exact (Small.of hv209).mono (by omega) | exact Small.mono hv209 (by omega) | exact (Small.of hv178).mono (by omega) | exact Small.mono hv178 (by omega) | exact (Small.of hv163).mono (by omega) | exact Small.mono hv163 (by omega) | exact (Small.of hv148).mono (by omega) | exact Small.mono hv148 (by omega) | exact (Small.of hv116).mono (by omega) | exact Small.mono hv116 (by omega) | exact (Small.of hv74).mono (by omega) | exact Small.mono hv74 (by omega) | exact (Small.of hv59).mono (by omega) | exact Small.mono hv59 (by omega) | exact (Small.of hv29).mono (by omega) | exact Small.mono hv29 (by omega)⟩
    refine Sq.assign .plain rfl rfl ?_
    refine Sq.nil ?_
    refine Eq.next ?_
    refine Cq.els rfl ?_
    refine Cq.seq ?_
    refine Cq.region ?_
    refine Sq.eql .plain rfl rfl rfl ?_
    refine Sq.part (fun c504 => ?_) (fun c504 => ?_)
    · refine Sq.assign .plain rfl rfl ?_
      refine Sq.nil ?_
      refine Eq.next ?_
      refine Cq.thn rfl ?_
      refine Cq.region ?_
      refine Sq.move .plain rfl rfl ?_
      refine Sq.call fn42 .plain rfl rfl (l3Draw_c _ _ _ _ _ _ hR (hb.go G) hbl (by omega) ) ?_
      rintro _ w506 ⟨⟨p507, hp510, hB509, g508⟩, ⟨a511, ⟨nx512, ac513, rfl, hn514, ha515⟩, hv516, hal517⟩⟩
      have hs518 := World.grownBy.size g508
      have hs519 := World.grownBy.size G
      have hs520 := World.grownBy.size g508
      replace G := grown_trans G g508
      replace hB4 := hB4.grown g508 (by intro h; injection h with h; omega)
      replace hB12 := hB12.grown g508 (by intro h; injection h with h; omega)
      replace hn27 := hn27.stored g508 hR (by decide) (by decide)
      replace ha28 := ha28.stored g508 hR (by decide)
      replace hB37 := hB37.grown g508 (by intro h; injection h with h; omega)
      replace hB81 := hB81.grown g508 (by intro h; injection h with h; omega)
      replace hR := hB509
      refine Sq.storeAgg agg26 .plain rfl rfl (one_cons rfl (one_cons (Rows.one hn514) (one_cons (Row.one ha515) one_nil))) hB81 rfl rfl (fun w521 g522 hB523 => ?_)
      have hs524 := World.grownBy.size g522
      replace hR := hR.grown g522 (by intro h; injection h with h; omega)
      replace G := grown_far G g522 (fun k hk => by injection hk with hk; subst hk; omega)
      replace hB4 := hB4.grown g522 (by intro h; injection h with h; omega)
      replace hB12 := hB12.grown g522 (by intro h; injection h with h; omega)
      replace hn27 := hn27.stored g522 hB81 (by decide) (by decide)
      replace ha28 := ha28.stored g522 hB81 (by decide)
      replace hB37 := hB37.grown g522 (by intro h; injection h with h; omega)
      replace hn514 := hn514.stored g522 hB81 (by decide) (by decide)
      replace ha515 := ha515.stored g522 hB81 (by decide)
      replace hB81 := hB523
      refine Sq.nil ?_
      refine Eq.end ?_
      refine Eq.next ?_
      refine Cq.seq ?_
      refine Cq.drawS 3 (fun w' => Blk w' b34 26 [Value.int .i64 a24.al, nx25, ac26] ∧ Blk w' b78 26 [Value.int .i64 a511.al, nx512, ac513]) mixed (⟨hB37, hB81⟩) (fun w525 e526 hS => ?_)
      clear hS
      have hs527 := Below.size e526
      replace hR := hR.ext e526
      replace G := grown_trans G (Ext.to_grown e526 _)
      replace hB4 := hB4.ext e526
      replace hB12 := hB12.ext e526
      replace hn27 := hn27.ext e526
      replace ha28 := ha28.ext e526
      replace hB37 := hB37.ext e526
      replace hB81 := hB81.ext e526
      replace hn514 := hn514.ext e526
      replace ha515 := ha515.ext e526
      refine Gq.st 0 rfl (by kernel_rfl) rfl .plain rfl (fun _ _ _ h => h) ⟨hB37, hB81⟩ (fun w' x => Still.loadAgg agg26 rfl x.1 rfl) ?_
      refine Gq.st 1 rfl (by kernel_rfl) rfl .plain rfl (fun _ _ _ h => h) ⟨hB37, hB81⟩ (fun w' x => Still.loadAgg agg26 rfl x.2 rfl) ?_
      refine Gq.one 2 rfl (by kernel_rfl) ?_
      refine Sq.storeAgg agg26 .plain rfl rfl (one_cons rfl (one_cons (Rows.one hn27) (one_cons (Row.one ha28) one_nil))) hB4 rfl rfl (fun w528 g529 hB530 => ?_)
      have hs531 := World.grownBy.size g529
      replace hR := hR.grown g529 (by intro h; injection h with h; omega)
      replace G := grown_far G g529 (fun k hk => by injection hk with hk; subst hk; omega)
      replace hB12 := hB12.grown g529 (by intro h; injection h with h; omega)
      replace hn27 := hn27.stored g529 hB4 (by decide) (by decide)
      replace ha28 := ha28.stored g529 hB4 (by decide)
      replace hB37 := hB37.grown g529 (by intro h; injection h with h; omega)
      replace hB81 := hB81.grown g529 (by intro h; injection h with h; omega)
      replace hn514 := hn514.stored g529 hB4 (by decide) (by decide)
      replace ha515 := ha515.stored g529 hB4 (by decide)
      replace hB4 := hB530
      refine Sq.nil ?_
      refine Eq.goes (fun _ => ⟨hB37, hB81⟩) ?_
      refine Gq.one 3 rfl (by kernel_rfl) ?_
      refine Sq.storeAgg agg26 .plain rfl rfl (one_cons rfl (one_cons (Rows.one hn514) (one_cons (Row.one ha515) one_nil))) hB12 rfl rfl (fun w532 g533 hB534 => ?_)
      have hs535 := World.grownBy.size g533
      replace hR := hR.grown g533 (by intro h; injection h with h; omega)
      replace G := grown_far G g533 (fun k hk => by injection hk with hk; subst hk; omega)
      replace hB4 := hB4.grown g533 (by intro h; injection h with h; omega)
      replace hn27 := hn27.stored g533 hB12 (by decide) (by decide)
      replace ha28 := ha28.stored g533 hB12 (by decide)
      replace hn514 := hn514.stored g533 hB12 (by decide) (by decide)
      replace ha515 := ha515.stored g533 hB12 (by decide)
      replace hB12 := hB534
      refine Sq.nil ?_
      refine Eq.goes (fun h => absurd h (by decide)) ?_
      refine Gq.done (by kernel_rfl) ?_
      refine Eq.next ?_
      refine Cq.ret ?_
      refine Eq.retCC rfl rfl rfl agg26 agg26 hB4 hB12 rfl rfl ?_
      exact ⟨⟨_, by omega, hR, G⟩, _, _, _, _, rfl, ⟨_, _, rfl, hn27, ha28⟩, ⟨_, _, rfl, hn514, ha515⟩, by first | exact (Small.of hv516).mono (by omega) | exact Small.mono hv516 (by omega) | exact (Small.of hv485).mono (by omega) | exact Small.mono hv485 (by omega) | exact (Small.of hv470).mono (by omega) | exact Small.mono hv470 (by omega) | exact (Small.of hv455).mono (by omega) | exact Small.mono hv455 (by omega) | exact (Small.of hv424).mono (by omega) | exact Small.mono hv424 (by omega) | exact (Small.of hv409).mono (by omega) | exact Small.mono hv409 (by omega) | exact (Small.of hv394).mono (by omega) | exact Small.mono hv394 (by omega) | exact (Small.of hv363).mono (by omega) | exact Small.mono hv363 (by omega) | exact (Small.of hv321).mono (by omega) | exact Small.mono hv321 (by omega) | exact (Small.of hv302).mono (by omega) | exact Small.mono hv302 (by omega) | exact (Small.of hv270).mono (by omega) | exact Small.mono hv270 (by omega) | exact (Small.of hv239).mono (by omega) | exact Small.mono hv239 (by omega) | exact (Small.of hv224).mono (by omega) | exact Small.mono hv224 (by omega) | exact (Small.of hv209).mono (by omega) | exact Small.mono hv209 (by omega) | exact (Small.of hv178).mono (by omega) | exact Small.mono hv178 (by omega) | exact (Small.of hv163).mono (by omega) | exact Small.mono hv163 (by omega) | exact (Small.of hv148).mono (by omega) | exact Small.mono hv148 (by omega) | exact (Small.of hv116).mono (by omega) | exact Small.mono hv116 (by omega) | exact (Small.of hv74).mono (by omega) | exact Small.mono hv74 (by omega) | exact (Small.of hv59).mono (by omega) | exact Small.mono hv59 (by omega) | exact (Small.of hv29).mono (by omega) | exact Small.mono hv29 (by omega), by first | exact (Small.of hv516).mono (by omega) | exact Small.mono hv516 (by omega) | exact (Small.of hv485).mono (by omega) | exact Small.mono hv485 (by omega) | exact (Small.of hv470).mono (by omega) | exact Small.mono hv470 (by omega) | exact (Small.of hv455).mono (by omega) | exact Small.mono hv455 (by omega) | exact (Small.of hv424).mono (by omega) | exact Small.mono hv424 (by omega) | exact (Small.of hv409).mono (by omega) | exact Small.mono hv409 (by omega) | exact (Small.of hv394).mono (by omega) | exact Small.mono hv394 (by omega) | exact (Small.of hv363).mono (by omega) | exact Small.mono hv363 (by omega) | exact (Small.of hv321).mono (by omega) | exact Small.mono hv321 (by omega) | exact (Small.of hv302).mono (by omega) | exact Small.mono hv302 (by omega) | exact (Small.of hv270).mono (by omega) | exact Small.mono hv270 (by omega) | exact (Small.of hv239).mono (by omega) | exact Small.mono hv239 (by omega) | exact (Small.of hv224).mono (by omega) | exact Small.mono hv224 (by omega) | exact (Small.of hv209).mono (by omega) | exact Small.mono hv209 (by omega) | exact (Small.of hv178).mono (by omega) | exact Small.mono hv178 (by omega) | exact (Small.of hv163).mono (by omega) | exact Small.mono hv163 (by omega) | exact (Small.of hv148).mono (by omega) | exact Small.mono hv148 (by omega) | exact (Small.of hv116).mono (by omega) | exact Small.mono hv116 (by omega) | exact (Small.of hv74).mono (by omega) | exact Small.mono hv74 (by omega) | exact (Small.of hv59).mono (by omega) | exact Small.mono hv59 (by omega) | exact (Small.of hv29).mono (by omega) | exact Small.mono hv29 (by omega)⟩
    refine Sq.assign .plain rfl rfl ?_
    refine Sq.nil ?_
    refine Eq.next ?_
    refine Cq.els rfl ?_
    refine Cq.seq ?_
    refine Cq.region ?_
    refine Sq.eql .plain rfl rfl rfl ?_
    refine Sq.part (fun c536 => ?_) (fun c536 => ?_)
    · refine Sq.assign .plain rfl rfl ?_
      refine Sq.nil ?_
      refine Eq.next ?_
      refine Cq.thn rfl ?_
      refine Cq.seq ?_
      refine Cq.region ?_
      refine Sq.move .plain rfl rfl ?_
      refine Sq.call fn45 .plain rfl rfl (l3Big_c _ _ _ _ _ _ hR (hb.go G) hbl (by omega) ) ?_
      rintro _ w538 ⟨⟨p539, hp542, hB541, g540⟩, ⟨a543, ⟨nx544, ac545, rfl, hn546, ha547⟩, hv548⟩⟩
      have hs549 := World.grownBy.size g540
      have hs550 := World.grownBy.size G
      have hs551 := World.grownBy.size g540
      replace G := grown_trans G g540
      replace hB4 := hB4.grown g540 (by intro h; injection h with h; omega)
      replace hB12 := hB12.grown g540 (by intro h; injection h with h; omega)
      replace hB37 := hB37.grown g540 (by intro h; injection h with h; omega)
      replace hB81 := hB81.grown g540 (by intro h; injection h with h; omega)
      replace hR := hB541
      refine Sq.storeAgg agg26 .plain rfl rfl (one_cons rfl (one_cons (Rows.one (OwnRows.rows hn546)) (one_cons (Row.one (Own.row ha547)) one_nil))) hB37 rfl rfl (fun w552 g553 hB554 => ?_)
      have hs555 := World.grownBy.size g553
      replace hR := hR.grown g553 (by intro h; injection h with h; omega)
      replace G := grown_far G g553 (fun k hk => by injection hk with hk; subst hk; omega)
      replace hB4 := hB4.grown g553 (by intro h; injection h with h; omega)
      replace hB12 := hB12.grown g553 (by intro h; injection h with h; omega)
      replace hB81 := hB81.grown g553 (by intro h; injection h with h; omega)
      replace hn546 := hn546.stored g553 hB37 (by decide) (by decide)
      replace ha547 := ha547.stored g553 hB37 (by decide)
      replace hB37 := hB554
      refine Sq.nil ?_
      refine Eq.next ?_
      refine Cq.region ?_
      refine Sq.move .plain rfl rfl ?_
      refine Sq.loadAgg agg26 .plain rfl rfl hB37 rfl ?_
      refine Sq.call fn44 .plain rfl rfl (l4Change_c _ _ _ _ _ _ hR (hb.go G) hbl (by omega) a543 _ _ (OwnRows.rows hn546) (Own.row ha547) _ (by omega) (Small.of hv548)) ?_
      rintro _ w557 ⟨⟨p558, hp561, hB560, g559⟩, ⟨a562, ⟨nx563, ac564, rfl, hn565, ha566⟩, hv567⟩⟩
      have hs568 := World.grownBy.size g559
      have hs569 := World.grownBy.size G
      have hs570 := World.grownBy.size g559
      replace G := grown_trans G g559
      replace hB4 := hB4.grown g559 (by intro h; injection h with h; omega)
      replace hB12 := hB12.grown g559 (by intro h; injection h with h; omega)
      replace hB37 := hB37.grown g559 (by intro h; injection h with h; omega)
      replace hB81 := hB81.grown g559 (by intro h; injection h with h; omega)
      replace hn546 := hn546.stored g559 hR (by decide) (by decide)
      replace ha547 := ha547.stored g559 hR (by decide)
      replace hR := hB560
      refine Sq.storeAgg agg26 .plain rfl rfl (one_cons rfl (one_cons (Rows.one hn565) (one_cons (Row.one ha566) one_nil))) hB81 rfl rfl (fun w571 g572 hB573 => ?_)
      have hs574 := World.grownBy.size g572
      replace hR := hR.grown g572 (by intro h; injection h with h; omega)
      replace G := grown_far G g572 (fun k hk => by injection hk with hk; subst hk; omega)
      replace hB4 := hB4.grown g572 (by intro h; injection h with h; omega)
      replace hB12 := hB12.grown g572 (by intro h; injection h with h; omega)
      replace hB37 := hB37.grown g572 (by intro h; injection h with h; omega)
      replace hn546 := hn546.stored g572 hB81 (by decide) (by decide)
      replace ha547 := ha547.stored g572 hB81 (by decide)
      replace hn565 := hn565.stored g572 hB81 (by decide) (by decide)
      replace ha566 := ha566.stored g572 hB81 (by decide)
      replace hB81 := hB573
      refine Sq.nil ?_
      refine Eq.end ?_
      refine Eq.next ?_
      refine Cq.seq ?_
      refine Cq.drawS 3 (fun w' => Blk w' b34 26 [Value.int .i64 a543.al, nx544, ac545] ∧ Blk w' b78 26 [Value.int .i64 a562.al, nx563, ac564]) mixed (⟨hB37, hB81⟩) (fun w575 e576 hS => ?_)
      clear hS
      have hs577 := Below.size e576
      replace hR := hR.ext e576
      replace G := grown_trans G (Ext.to_grown e576 _)
      replace hB4 := hB4.ext e576
      replace hB12 := hB12.ext e576
      replace hB37 := hB37.ext e576
      replace hB81 := hB81.ext e576
      replace hn546 := hn546.ext e576
      replace ha547 := ha547.ext e576
      replace hn565 := hn565.ext e576
      replace ha566 := ha566.ext e576
      refine Gq.st 0 rfl (by kernel_rfl) rfl .plain rfl (fun _ _ _ h => h) ⟨hB37, hB81⟩ (fun w' x => Still.loadAgg agg26 rfl x.1 rfl) ?_
      refine Gq.st 1 rfl (by kernel_rfl) rfl .plain rfl (fun _ _ _ h => h) ⟨hB37, hB81⟩ (fun w' x => Still.loadAgg agg26 rfl x.2 rfl) ?_
      refine Gq.one 2 rfl (by kernel_rfl) ?_
      refine Sq.storeAgg agg26 .plain rfl rfl (one_cons rfl (one_cons (Rows.one (OwnRows.rows hn546)) (one_cons (Row.one (Own.row ha547)) one_nil))) hB4 rfl rfl (fun w578 g579 hB580 => ?_)
      have hs581 := World.grownBy.size g579
      replace hR := hR.grown g579 (by intro h; injection h with h; omega)
      replace G := grown_far G g579 (fun k hk => by injection hk with hk; subst hk; omega)
      replace hB12 := hB12.grown g579 (by intro h; injection h with h; omega)
      replace hB37 := hB37.grown g579 (by intro h; injection h with h; omega)
      replace hB81 := hB81.grown g579 (by intro h; injection h with h; omega)
      replace hn546 := hn546.stored g579 hB4 (by decide) (by decide)
      replace ha547 := ha547.stored g579 hB4 (by decide)
      replace hn565 := hn565.stored g579 hB4 (by decide) (by decide)
      replace ha566 := ha566.stored g579 hB4 (by decide)
      replace hB4 := hB580
      refine Sq.nil ?_
      refine Eq.goes (fun _ => ⟨hB37, hB81⟩) ?_
      refine Gq.one 3 rfl (by kernel_rfl) ?_
      refine Sq.storeAgg agg26 .plain rfl rfl (one_cons rfl (one_cons (Rows.one hn565) (one_cons (Row.one ha566) one_nil))) hB12 rfl rfl (fun w582 g583 hB584 => ?_)
      have hs585 := World.grownBy.size g583
      replace hR := hR.grown g583 (by intro h; injection h with h; omega)
      replace G := grown_far G g583 (fun k hk => by injection hk with hk; subst hk; omega)
      replace hB4 := hB4.grown g583 (by intro h; injection h with h; omega)
      replace hn546 := hn546.stored g583 hB12 (by decide) (by decide)
      replace ha547 := ha547.stored g583 hB12 (by decide)
      replace hn565 := hn565.stored g583 hB12 (by decide) (by decide)
      replace ha566 := ha566.stored g583 hB12 (by decide)
      replace hB12 := hB584
      refine Sq.nil ?_
      refine Eq.goes (fun h => absurd h (by decide)) ?_
      refine Gq.done (by kernel_rfl) ?_
      refine Eq.next ?_
      refine Cq.ret ?_
      refine Eq.retCC rfl rfl rfl agg26 agg26 hB4 hB12 rfl rfl ?_
      exact ⟨⟨_, by omega, hR, G⟩, _, _, _, _, rfl, ⟨_, _, rfl, (OwnRows.rows hn546), (Own.row ha547)⟩, ⟨_, _, rfl, hn565, ha566⟩, by first | exact (Small.of hv567).mono (by omega) | exact Small.mono hv567 (by omega) | exact (Small.of hv548).mono (by omega) | exact Small.mono hv548 (by omega) | exact (Small.of hv516).mono (by omega) | exact Small.mono hv516 (by omega) | exact (Small.of hv485).mono (by omega) | exact Small.mono hv485 (by omega) | exact (Small.of hv470).mono (by omega) | exact Small.mono hv470 (by omega) | exact (Small.of hv455).mono (by omega) | exact Small.mono hv455 (by omega) | exact (Small.of hv424).mono (by omega) | exact Small.mono hv424 (by omega) | exact (Small.of hv409).mono (by omega) | exact Small.mono hv409 (by omega) | exact (Small.of hv394).mono (by omega) | exact Small.mono hv394 (by omega) | exact (Small.of hv363).mono (by omega) | exact Small.mono hv363 (by omega) | exact (Small.of hv321).mono (by omega) | exact Small.mono hv321 (by omega) | exact (Small.of hv302).mono (by omega) | exact Small.mono hv302 (by omega) | exact (Small.of hv270).mono (by omega) | exact Small.mono hv270 (by omega) | exact (Small.of hv239).mono (by omega) | exact Small.mono hv239 (by omega) | exact (Small.of hv224).mono (by omega) | exact Small.mono hv224 (by omega) | exact (Small.of hv209).mono (by omega) | exact Small.mono hv209 (by omega) | exact (Small.of hv178).mono (by omega) | exact Small.mono hv178 (by omega) | exact (Small.of hv163).mono (by omega) | exact Small.mono hv163 (by omega) | exact (Small.of hv148).mono (by omega) | exact Small.mono hv148 (by omega) | exact (Small.of hv116).mono (by omega) | exact Small.mono hv116 (by omega) | exact (Small.of hv74).mono (by omega) | exact Small.mono hv74 (by omega) | exact (Small.of hv59).mono (by omega) | exact Small.mono hv59 (by omega) | exact (Small.of hv29).mono (by omega) | exact Small.mono hv29 (by omega), by first | exact (Small.of hv567).mono (by omega) | exact Small.mono hv567 (by omega) | exact (Small.of hv548).mono (by omega) | exact Small.mono hv548 (by omega) | exact (Small.of hv516).mono (by omega) | exact Small.mono hv516 (by omega) | exact (Small.of hv485).mono (by omega) | exact Small.mono hv485 (by omega) | exact (Small.of hv470).mono (by omega) | exact Small.mono hv470 (by omega) | exact (Small.of hv455).mono (by omega) | exact Small.mono hv455 (by omega) | exact (Small.of hv424).mono (by omega) | exact Small.mono hv424 (by omega) | exact (Small.of hv409).mono (by omega) | exact Small.mono hv409 (by omega) | exact (Small.of hv394).mono (by omega) | exact Small.mono hv394 (by omega) | exact (Small.of hv363).mono (by omega) | exact Small.mono hv363 (by omega) | exact (Small.of hv321).mono (by omega) | exact Small.mono hv321 (by omega) | exact (Small.of hv302).mono (by omega) | exact Small.mono hv302 (by omega) | exact (Small.of hv270).mono (by omega) | exact Small.mono hv270 (by omega) | exact (Small.of hv239).mono (by omega) | exact Small.mono hv239 (by omega) | exact (Small.of hv224).mono (by omega) | exact Small.mono hv224 (by omega) | exact (Small.of hv209).mono (by omega) | exact Small.mono hv209 (by omega) | exact (Small.of hv178).mono (by omega) | exact Small.mono hv178 (by omega) | exact (Small.of hv163).mono (by omega) | exact Small.mono hv163 (by omega) | exact (Small.of hv148).mono (by omega) | exact Small.mono hv148 (by omega) | exact (Small.of hv116).mono (by omega) | exact Small.mono hv116 (by omega) | exact (Small.of hv74).mono (by omega) | exact Small.mono hv74 (by omega) | exact (Small.of hv59).mono (by omega) | exact Small.mono hv59 (by omega) | exact (Small.of hv29).mono (by omega) | exact Small.mono hv29 (by omega)⟩
    refine Sq.assign .plain rfl rfl ?_
    refine Sq.nil ?_
    refine Eq.next ?_
    refine Cq.els rfl ?_
    refine Cq.skip ?_
    refine Eq.end ?_
    refine Eq.next ?_
    refine Cq.seq ?_
    refine Cq.drawS 3 (fun w' => Blk w' b34 26 [Value.int .i64 a24.al, nx25, ac26] ∧ Blk w' b78 26 [Value.int .i64 a358.al, nx359, ac360]) mixed (⟨hB37, hB81⟩) (fun w586 e587 hS => ?_)
    clear hS
    have hs588 := Below.size e587
    replace hR := hR.ext e587
    replace G := grown_trans G (Ext.to_grown e587 _)
    replace hB4 := hB4.ext e587
    replace hB12 := hB12.ext e587
    replace hn27 := hn27.ext e587
    replace ha28 := ha28.ext e587
    replace hB37 := hB37.ext e587
    replace hB81 := hB81.ext e587
    replace hn361 := hn361.ext e587
    replace ha362 := ha362.ext e587
    refine Gq.st 0 rfl (by kernel_rfl) rfl .plain rfl (fun _ _ _ h => h) ⟨hB37, hB81⟩ (fun w' x => Still.loadAgg agg26 rfl x.1 rfl) ?_
    refine Gq.st 1 rfl (by kernel_rfl) rfl .plain rfl (fun _ _ _ h => h) ⟨hB37, hB81⟩ (fun w' x => Still.loadAgg agg26 rfl x.2 rfl) ?_
    refine Gq.one 2 rfl (by kernel_rfl) ?_
    refine Sq.storeAgg agg26 .plain rfl rfl (one_cons rfl (one_cons (Rows.one hn27) (one_cons (Row.one ha28) one_nil))) hB4 rfl rfl (fun w589 g590 hB591 => ?_)
    have hs592 := World.grownBy.size g590
    replace hR := hR.grown g590 (by intro h; injection h with h; omega)
    replace G := grown_far G g590 (fun k hk => by injection hk with hk; subst hk; omega)
    replace hB12 := hB12.grown g590 (by intro h; injection h with h; omega)
    replace hn27 := hn27.stored g590 hB4 (by decide) (by decide)
    replace ha28 := ha28.stored g590 hB4 (by decide)
    replace hB37 := hB37.grown g590 (by intro h; injection h with h; omega)
    replace hB81 := hB81.grown g590 (by intro h; injection h with h; omega)
    replace hn361 := hn361.stored g590 hB4 (by decide) (by decide)
    replace ha362 := ha362.stored g590 hB4 (by decide)
    replace hB4 := hB591
    refine Sq.nil ?_
    refine Eq.goes (fun _ => ⟨hB37, hB81⟩) ?_
    refine Gq.one 3 rfl (by kernel_rfl) ?_
    refine Sq.storeAgg agg26 .plain rfl rfl (one_cons rfl (one_cons (Rows.one hn361) (one_cons (Row.one ha362) one_nil))) hB12 rfl rfl (fun w593 g594 hB595 => ?_)
    have hs596 := World.grownBy.size g594
    replace hR := hR.grown g594 (by intro h; injection h with h; omega)
    replace G := grown_far G g594 (fun k hk => by injection hk with hk; subst hk; omega)
    replace hB4 := hB4.grown g594 (by intro h; injection h with h; omega)
    replace hn27 := hn27.stored g594 hB12 (by decide) (by decide)
    replace ha28 := ha28.stored g594 hB12 (by decide)
    replace hn361 := hn361.stored g594 hB12 (by decide) (by decide)
    replace ha362 := ha362.stored g594 hB12 (by decide)
    replace hB12 := hB595
    refine Sq.nil ?_
    refine Eq.goes (fun h => absurd h (by decide)) ?_
    refine Gq.done (by kernel_rfl) ?_
    refine Eq.next ?_
    refine Cq.ret ?_
    refine Eq.retCC rfl rfl rfl agg26 agg26 hB4 hB12 rfl rfl ?_
    exact ⟨⟨_, by omega, hR, G⟩, _, _, _, _, rfl, ⟨_, _, rfl, hn27, ha28⟩, ⟨_, _, rfl, hn361, ha362⟩, by first | exact (Small.of hv567).mono (by omega) | exact Small.mono hv567 (by omega) | exact (Small.of hv548).mono (by omega) | exact Small.mono hv548 (by omega) | exact (Small.of hv516).mono (by omega) | exact Small.mono hv516 (by omega) | exact (Small.of hv485).mono (by omega) | exact Small.mono hv485 (by omega) | exact (Small.of hv470).mono (by omega) | exact Small.mono hv470 (by omega) | exact (Small.of hv455).mono (by omega) | exact Small.mono hv455 (by omega) | exact (Small.of hv424).mono (by omega) | exact Small.mono hv424 (by omega) | exact (Small.of hv409).mono (by omega) | exact Small.mono hv409 (by omega) | exact (Small.of hv394).mono (by omega) | exact Small.mono hv394 (by omega) | exact (Small.of hv363).mono (by omega) | exact Small.mono hv363 (by omega) | exact (Small.of hv321).mono (by omega) | exact Small.mono hv321 (by omega) | exact (Small.of hv302).mono (by omega) | exact Small.mono hv302 (by omega) | exact (Small.of hv270).mono (by omega) | exact Small.mono hv270 (by omega) | exact (Small.of hv239).mono (by omega) | exact Small.mono hv239 (by omega) | exact (Small.of hv224).mono (by omega) | exact Small.mono hv224 (by omega) | exact (Small.of hv209).mono (by omega) | exact Small.mono hv209 (by omega) | exact (Small.of hv178).mono (by omega) | exact Small.mono hv178 (by omega) | exact (Small.of hv163).mono (by omega) | exact Small.mono hv163 (by omega) | exact (Small.of hv148).mono (by omega) | exact Small.mono hv148 (by omega) | exact (Small.of hv116).mono (by omega) | exact Small.mono hv116 (by omega) | exact (Small.of hv74).mono (by omega) | exact Small.mono hv74 (by omega) | exact (Small.of hv59).mono (by omega) | exact Small.mono hv59 (by omega) | exact (Small.of hv29).mono (by omega) | exact Small.mono hv29 (by omega), by first | exact (Small.of hv567).mono (by omega) | exact Small.mono hv567 (by omega) | exact (Small.of hv548).mono (by omega) | exact Small.mono hv548 (by omega) | exact (Small.of hv516).mono (by omega) | exact Small.mono hv516 (by omega) | exact (Small.of hv485).mono (by omega) | exact Small.mono hv485 (by omega) | exact (Small.of hv470).mono (by omega) | exact Small.mono hv470 (by omega) | exact (Small.of hv455).mono (by omega) | exact Small.mono hv455 (by omega) | exact (Small.of hv424).mono (by omega) | exact Small.mono hv424 (by omega) | exact (Small.of hv409).mono (by omega) | exact Small.mono hv409 (by omega) | exact (Small.of hv394).mono (by omega) | exact Small.mono hv394 (by omega) | exact (Small.of hv363).mono (by omega) | exact Small.mono hv363 (by omega) | exact (Small.of hv321).mono (by omega) | exact Small.mono hv321 (by omega) | exact (Small.of hv302).mono (by omega) | exact Small.mono hv302 (by omega) | exact (Small.of hv270).mono (by omega) | exact Small.mono hv270 (by omega) | exact (Small.of hv239).mono (by omega) | exact Small.mono hv239 (by omega) | exact (Small.of hv224).mono (by omega) | exact Small.mono hv224 (by omega) | exact (Small.of hv209).mono (by omega) | exact Small.mono hv209 (by omega) | exact (Small.of hv178).mono (by omega) | exact Small.mono hv178 (by omega) | exact (Small.of hv163).mono (by omega) | exact Small.mono hv163 (by omega) | exact (Small.of hv148).mono (by omega) | exact Small.mono hv148 (by omega) | exact (Small.of hv116).mono (by omega) | exact Small.mono hv116 (by omega) | exact (Small.of hv74).mono (by omega) | exact Small.mono hv74 (by omega) | exact (Small.of hv59).mono (by omega) | exact Small.mono hv59 (by omega) | exact (Small.of hv29).mono (by omega) | exact Small.mono hv29 (by omega)⟩
  refine Sq.assign .plain rfl rfl ?_
  refine Sq.nil ?_
  refine Eq.next ?_
  refine Cq.els rfl ?_
  refine Cq.skip ?_
  refine Eq.end ?_
  refine Eq.next ?_
  refine Cq.seq ?_
  refine Cq.seq ?_
  refine Cq.region ?_
  refine Sq.move .plain rfl rfl ?_
  refine Sq.call fn43 .plain rfl rfl (pick_c _ _ _ _ _ _ hR (hb.go G) hbl (by omega) 20 (by omega)) ?_
  rintro _ w598 ⟨⟨p599, hp602, hB601, g600⟩, ⟨k603, rfl, hk604⟩⟩
  have hs605 := World.grownBy.size g600
  have hs606 := World.grownBy.size G
  have hs607 := World.grownBy.size g600
  replace G := grown_trans G g600
  replace hB4 := hB4.grown g600 (by intro h; injection h with h; omega)
  replace hB12 := hB12.grown g600 (by intro h; injection h with h; omega)
  replace hn27 := hn27.stored g600 hR (by decide) (by decide)
  replace ha28 := ha28.stored g600 hR (by decide)
  replace hB37 := hB37.grown g600 (by intro h; injection h with h; omega)
  replace hn72 := hn72.stored g600 hR (by decide) (by decide)
  replace ha73 := ha73.stored g600 hR (by decide)
  replace hB81 := hB81.grown g600 (by intro h; injection h with h; omega)
  replace hR := hB601
  refine Sq.nil ?_
  refine Eq.next ?_
  refine Cq.block ?_
  refine Cq.seq ?_
  refine Cq.region ?_
  refine Sq.eql .plain rfl rfl rfl ?_
  refine Sq.part (fun c608 => ?_) (fun c608 => ?_)
  · refine Sq.assign .plain rfl rfl ?_
    refine Sq.nil ?_
    refine Eq.next ?_
    refine Cq.thn rfl ?_
    refine Cq.region ?_
    refine Sq.move .plain rfl rfl ?_
    refine Sq.move .plain rfl rfl ?_
    refine Sq.move .plain rfl rfl ?_
    refine Sq.loadAgg agg26 .plain rfl rfl hB37 rfl ?_
    refine Sq.call fn46 .plain rfl rfl (l3Wrong_c _ _ _ _ _ _ hR (hb.go G) hbl (by omega) a24 _ _ hn27 ha28 _ (by omega) hv29) ?_
    rintro _ w610 ⟨⟨p611, hp614, hB613, g612⟩, ⟨a615, ⟨nx616, ac617, rfl, hn618, ha619⟩, hv620⟩⟩
    have hs621 := World.grownBy.size g612
    have hs622 := World.grownBy.size G
    have hs623 := World.grownBy.size g612
    replace G := grown_trans G g612
    replace hB4 := hB4.grown g612 (by intro h; injection h with h; omega)
    replace hB12 := hB12.grown g612 (by intro h; injection h with h; omega)
    replace hB37 := hB37.grown g612 (by intro h; injection h with h; omega)
    replace hn72 := hn72.stored g612 hR (by decide) (by decide)
    replace ha73 := ha73.stored g612 hR (by decide)
    replace hB81 := hB81.grown g612 (by intro h; injection h with h; omega)
    replace hR := hB613
    refine Sq.call fn46 .plain rfl rfl (l3Wrong_c _ _ _ _ _ _ hR (hb.go G) hbl (by omega) a615 _ _ hn618 ha619 _ (by omega) hv620) ?_
    rintro _ w625 ⟨⟨p626, hp629, hB628, g627⟩, ⟨a630, ⟨nx631, ac632, rfl, hn633, ha634⟩, hv635⟩⟩
    have hs636 := World.grownBy.size g627
    have hs637 := World.grownBy.size G
    have hs638 := World.grownBy.size g627
    replace G := grown_trans G g627
    replace hB4 := hB4.grown g627 (by intro h; injection h with h; omega)
    replace hB12 := hB12.grown g627 (by intro h; injection h with h; omega)
    replace hB37 := hB37.grown g627 (by intro h; injection h with h; omega)
    replace hn72 := hn72.stored g627 hR (by decide) (by decide)
    replace ha73 := ha73.stored g627 hR (by decide)
    replace hB81 := hB81.grown g627 (by intro h; injection h with h; omega)
    replace hR := hB628
    refine Sq.call fn46 .plain rfl rfl (l3Wrong_c _ _ _ _ _ _ hR (hb.go G) hbl (by omega) a630 _ _ hn633 ha634 _ (by omega) hv635) ?_
    rintro _ w640 ⟨⟨p641, hp644, hB643, g642⟩, ⟨a645, ⟨nx646, ac647, rfl, hn648, ha649⟩, hv650⟩⟩
    have hs651 := World.grownBy.size g642
    have hs652 := World.grownBy.size G
    have hs653 := World.grownBy.size g642
    replace G := grown_trans G g642
    replace hB4 := hB4.grown g642 (by intro h; injection h with h; omega)
    replace hB12 := hB12.grown g642 (by intro h; injection h with h; omega)
    replace hB37 := hB37.grown g642 (by intro h; injection h with h; omega)
    replace hn72 := hn72.stored g642 hR (by decide) (by decide)
    replace ha73 := ha73.stored g642 hR (by decide)
    replace hB81 := hB81.grown g642 (by intro h; injection h with h; omega)
    replace hR := hB643
    refine Sq.storeAgg agg26 .plain rfl rfl (one_cons rfl (one_cons (Rows.one hn648) (one_cons (Row.one ha649) one_nil))) hB37 rfl rfl (fun w654 g655 hB656 => ?_)
    have hs657 := World.grownBy.size g655
    replace hR := hR.grown g655 (by intro h; injection h with h; omega)
    replace G := grown_far G g655 (fun k hk => by injection hk with hk; subst hk; omega)
    replace hB4 := hB4.grown g655 (by intro h; injection h with h; omega)
    replace hB12 := hB12.grown g655 (by intro h; injection h with h; omega)
    replace hn72 := hn72.stored g655 hB37 (by decide) (by decide)
    replace ha73 := ha73.stored g655 hB37 (by decide)
    replace hB81 := hB81.grown g655 (by intro h; injection h with h; omega)
    replace hn648 := hn648.stored g655 hB37 (by decide) (by decide)
    replace ha649 := ha649.stored g655 hB37 (by decide)
    replace hB37 := hB656
    refine Sq.nil ?_
    refine Eq.end ?_
    refine Eq.next ?_
    refine Cq.seq ?_
    refine Cq.drawS 3 (fun w' => Blk w' b34 26 [Value.int .i64 a645.al, nx646, ac647] ∧ Blk w' b78 26 [Value.int .i64 a69.al, nx70, ac71]) mixed (⟨hB37, hB81⟩) (fun w658 e659 hS => ?_)
    clear hS
    have hs660 := Below.size e659
    replace hR := hR.ext e659
    replace G := grown_trans G (Ext.to_grown e659 _)
    replace hB4 := hB4.ext e659
    replace hB12 := hB12.ext e659
    replace hB37 := hB37.ext e659
    replace hn72 := hn72.ext e659
    replace ha73 := ha73.ext e659
    replace hB81 := hB81.ext e659
    replace hn648 := hn648.ext e659
    replace ha649 := ha649.ext e659
    refine Gq.st 0 rfl (by kernel_rfl) rfl .plain rfl (fun _ _ _ h => h) ⟨hB37, hB81⟩ (fun w' x => Still.loadAgg agg26 rfl x.1 rfl) ?_
    refine Gq.st 1 rfl (by kernel_rfl) rfl .plain rfl (fun _ _ _ h => h) ⟨hB37, hB81⟩ (fun w' x => Still.loadAgg agg26 rfl x.2 rfl) ?_
    refine Gq.one 2 rfl (by kernel_rfl) ?_
    refine Sq.storeAgg agg26 .plain rfl rfl (one_cons rfl (one_cons (Rows.one hn648) (one_cons (Row.one ha649) one_nil))) hB4 rfl rfl (fun w661 g662 hB663 => ?_)
    have hs664 := World.grownBy.size g662
    replace hR := hR.grown g662 (by intro h; injection h with h; omega)
    replace G := grown_far G g662 (fun k hk => by injection hk with hk; subst hk; omega)
    replace hB12 := hB12.grown g662 (by intro h; injection h with h; omega)
    replace hB37 := hB37.grown g662 (by intro h; injection h with h; omega)
    replace hn72 := hn72.stored g662 hB4 (by decide) (by decide)
    replace ha73 := ha73.stored g662 hB4 (by decide)
    replace hB81 := hB81.grown g662 (by intro h; injection h with h; omega)
    replace hn648 := hn648.stored g662 hB4 (by decide) (by decide)
    replace ha649 := ha649.stored g662 hB4 (by decide)
    replace hB4 := hB663
    refine Sq.nil ?_
    refine Eq.goes (fun _ => ⟨hB37, hB81⟩) ?_
    refine Gq.one 3 rfl (by kernel_rfl) ?_
    refine Sq.storeAgg agg26 .plain rfl rfl (one_cons rfl (one_cons (Rows.one hn72) (one_cons (Row.one ha73) one_nil))) hB12 rfl rfl (fun w665 g666 hB667 => ?_)
    have hs668 := World.grownBy.size g666
    replace hR := hR.grown g666 (by intro h; injection h with h; omega)
    replace G := grown_far G g666 (fun k hk => by injection hk with hk; subst hk; omega)
    replace hB4 := hB4.grown g666 (by intro h; injection h with h; omega)
    replace hn72 := hn72.stored g666 hB12 (by decide) (by decide)
    replace ha73 := ha73.stored g666 hB12 (by decide)
    replace hn648 := hn648.stored g666 hB12 (by decide) (by decide)
    replace ha649 := ha649.stored g666 hB12 (by decide)
    replace hB12 := hB667
    refine Sq.nil ?_
    refine Eq.goes (fun h => absurd h (by decide)) ?_
    refine Gq.done (by kernel_rfl) ?_
    refine Eq.next ?_
    refine Cq.ret ?_
    refine Eq.retCC rfl rfl rfl agg26 agg26 hB4 hB12 rfl rfl ?_
    exact ⟨⟨_, by omega, hR, G⟩, _, _, _, _, rfl, ⟨_, _, rfl, hn648, ha649⟩, ⟨_, _, rfl, hn72, ha73⟩, by first | exact (Small.of hv650).mono (by omega) | exact Small.mono hv650 (by omega) | exact (Small.of hv635).mono (by omega) | exact Small.mono hv635 (by omega) | exact (Small.of hv620).mono (by omega) | exact Small.mono hv620 (by omega) | exact (Small.of hv567).mono (by omega) | exact Small.mono hv567 (by omega) | exact (Small.of hv548).mono (by omega) | exact Small.mono hv548 (by omega) | exact (Small.of hv516).mono (by omega) | exact Small.mono hv516 (by omega) | exact (Small.of hv485).mono (by omega) | exact Small.mono hv485 (by omega) | exact (Small.of hv470).mono (by omega) | exact Small.mono hv470 (by omega) | exact (Small.of hv455).mono (by omega) | exact Small.mono hv455 (by omega) | exact (Small.of hv424).mono (by omega) | exact Small.mono hv424 (by omega) | exact (Small.of hv409).mono (by omega) | exact Small.mono hv409 (by omega) | exact (Small.of hv394).mono (by omega) | exact Small.mono hv394 (by omega) | exact (Small.of hv363).mono (by omega) | exact Small.mono hv363 (by omega) | exact (Small.of hv321).mono (by omega) | exact Small.mono hv321 (by omega) | exact (Small.of hv302).mono (by omega) | exact Small.mono hv302 (by omega) | exact (Small.of hv270).mono (by omega) | exact Small.mono hv270 (by omega) | exact (Small.of hv239).mono (by omega) | exact Small.mono hv239 (by omega) | exact (Small.of hv224).mono (by omega) | exact Small.mono hv224 (by omega) | exact (Small.of hv209).mono (by omega) | exact Small.mono hv209 (by omega) | exact (Small.of hv178).mono (by omega) | exact Small.mono hv178 (by omega) | exact (Small.of hv163).mono (by omega) | exact Small.mono hv163 (by omega) | exact (Small.of hv148).mono (by omega) | exact Small.mono hv148 (by omega) | exact (Small.of hv116).mono (by omega) | exact Small.mono hv116 (by omega) | exact (Small.of hv74).mono (by omega) | exact Small.mono hv74 (by omega) | exact (Small.of hv59).mono (by omega) | exact Small.mono hv59 (by omega) | exact (Small.of hv29).mono (by omega) | exact Small.mono hv29 (by omega), by first | exact (Small.of hv650).mono (by omega) | exact Small.mono hv650 (by omega) | exact (Small.of hv635).mono (by omega) | exact Small.mono hv635 (by omega) | exact (Small.of hv620).mono (by omega) | exact Small.mono hv620 (by omega) | exact (Small.of hv567).mono (by omega) | exact Small.mono hv567 (by omega) | exact (Small.of hv548).mono (by omega) | exact Small.mono hv548 (by omega) | exact (Small.of hv516).mono (by omega) | exact Small.mono hv516 (by omega) | exact (Small.of hv485).mono (by omega) | exact Small.mono hv485 (by omega) | exact (Small.of hv470).mono (by omega) | exact Small.mono hv470 (by omega) | exact (Small.of hv455).mono (by omega) | exact Small.mono hv455 (by omega) | exact (Small.of hv424).mono (by omega) | exact Small.mono hv424 (by omega) | exact (Small.of hv409).mono (by omega) | exact Small.mono hv409 (by omega) | exact (Small.of hv394).mono (by omega) | exact Small.mono hv394 (by omega) | exact (Small.of hv363).mono (by omega) | exact Small.mono hv363 (by omega) | exact (Small.of hv321).mono (by omega) | exact Small.mono hv321 (by omega) | exact (Small.of hv302).mono (by omega) | exact Small.mono hv302 (by omega) | exact (Small.of hv270).mono (by omega) | exact Small.mono hv270 (by omega) | exact (Small.of hv239).mono (by omega) | exact Small.mono hv239 (by omega) | exact (Small.of hv224).mono (by omega) | exact Small.mono hv224 (by omega) | exact (Small.of hv209).mono (by omega) | exact Small.mono hv209 (by omega) | exact (Small.of hv178).mono (by omega) | exact Small.mono hv178 (by omega) | exact (Small.of hv163).mono (by omega) | exact Small.mono hv163 (by omega) | exact (Small.of hv148).mono (by omega) | exact Small.mono hv148 (by omega) | exact (Small.of hv116).mono (by omega) | exact Small.mono hv116 (by omega) | exact (Small.of hv74).mono (by omega) | exact Small.mono hv74 (by omega) | exact (Small.of hv59).mono (by omega) | exact Small.mono hv59 (by omega) | exact (Small.of hv29).mono (by omega) | exact Small.mono hv29 (by omega)⟩
  refine Sq.assign .plain rfl rfl ?_
  refine Sq.nil ?_
  refine Eq.next ?_
  refine Cq.els rfl ?_
  refine Cq.seq ?_
  refine Cq.region ?_
  refine Sq.eql .plain rfl rfl rfl ?_
  refine Sq.part (fun c669 => ?_) (fun c669 => ?_)
  · refine Sq.assign .plain rfl rfl ?_
    refine Sq.nil ?_
    refine Eq.next ?_
    refine Cq.thn rfl ?_
    refine Cq.region ?_
    refine Sq.move .plain rfl rfl ?_
    refine Sq.move .plain rfl rfl ?_
    refine Sq.move .plain rfl rfl ?_
    refine Sq.loadAgg agg26 .plain rfl rfl hB81 rfl ?_
    refine Sq.call fn46 .plain rfl rfl (l3Wrong_c _ _ _ _ _ _ hR (hb.go G) hbl (by omega) a69 _ _ hn72 ha73 _ (by omega) hv74) ?_
    rintro _ w671 ⟨⟨p672, hp675, hB674, g673⟩, ⟨a676, ⟨nx677, ac678, rfl, hn679, ha680⟩, hv681⟩⟩
    have hs682 := World.grownBy.size g673
    have hs683 := World.grownBy.size G
    have hs684 := World.grownBy.size g673
    replace G := grown_trans G g673
    replace hB4 := hB4.grown g673 (by intro h; injection h with h; omega)
    replace hB12 := hB12.grown g673 (by intro h; injection h with h; omega)
    replace hn27 := hn27.stored g673 hR (by decide) (by decide)
    replace ha28 := ha28.stored g673 hR (by decide)
    replace hB37 := hB37.grown g673 (by intro h; injection h with h; omega)
    replace hB81 := hB81.grown g673 (by intro h; injection h with h; omega)
    replace hR := hB674
    refine Sq.call fn46 .plain rfl rfl (l3Wrong_c _ _ _ _ _ _ hR (hb.go G) hbl (by omega) a676 _ _ hn679 ha680 _ (by omega) hv681) ?_
    rintro _ w686 ⟨⟨p687, hp690, hB689, g688⟩, ⟨a691, ⟨nx692, ac693, rfl, hn694, ha695⟩, hv696⟩⟩
    have hs697 := World.grownBy.size g688
    have hs698 := World.grownBy.size G
    have hs699 := World.grownBy.size g688
    replace G := grown_trans G g688
    replace hB4 := hB4.grown g688 (by intro h; injection h with h; omega)
    replace hB12 := hB12.grown g688 (by intro h; injection h with h; omega)
    replace hn27 := hn27.stored g688 hR (by decide) (by decide)
    replace ha28 := ha28.stored g688 hR (by decide)
    replace hB37 := hB37.grown g688 (by intro h; injection h with h; omega)
    replace hB81 := hB81.grown g688 (by intro h; injection h with h; omega)
    replace hR := hB689
    refine Sq.call fn46 .plain rfl rfl (l3Wrong_c _ _ _ _ _ _ hR (hb.go G) hbl (by omega) a691 _ _ hn694 ha695 _ (by omega) hv696) ?_
    rintro _ w701 ⟨⟨p702, hp705, hB704, g703⟩, ⟨a706, ⟨nx707, ac708, rfl, hn709, ha710⟩, hv711⟩⟩
    have hs712 := World.grownBy.size g703
    have hs713 := World.grownBy.size G
    have hs714 := World.grownBy.size g703
    replace G := grown_trans G g703
    replace hB4 := hB4.grown g703 (by intro h; injection h with h; omega)
    replace hB12 := hB12.grown g703 (by intro h; injection h with h; omega)
    replace hn27 := hn27.stored g703 hR (by decide) (by decide)
    replace ha28 := ha28.stored g703 hR (by decide)
    replace hB37 := hB37.grown g703 (by intro h; injection h with h; omega)
    replace hB81 := hB81.grown g703 (by intro h; injection h with h; omega)
    replace hR := hB704
    refine Sq.storeAgg agg26 .plain rfl rfl (one_cons rfl (one_cons (Rows.one hn709) (one_cons (Row.one ha710) one_nil))) hB81 rfl rfl (fun w715 g716 hB717 => ?_)
    have hs718 := World.grownBy.size g716
    replace hR := hR.grown g716 (by intro h; injection h with h; omega)
    replace G := grown_far G g716 (fun k hk => by injection hk with hk; subst hk; omega)
    replace hB4 := hB4.grown g716 (by intro h; injection h with h; omega)
    replace hB12 := hB12.grown g716 (by intro h; injection h with h; omega)
    replace hn27 := hn27.stored g716 hB81 (by decide) (by decide)
    replace ha28 := ha28.stored g716 hB81 (by decide)
    replace hB37 := hB37.grown g716 (by intro h; injection h with h; omega)
    replace hn709 := hn709.stored g716 hB81 (by decide) (by decide)
    replace ha710 := ha710.stored g716 hB81 (by decide)
    replace hB81 := hB717
    refine Sq.nil ?_
    refine Eq.end ?_
    refine Eq.next ?_
    refine Cq.seq ?_
    refine Cq.drawS 3 (fun w' => Blk w' b34 26 [Value.int .i64 a24.al, nx25, ac26] ∧ Blk w' b78 26 [Value.int .i64 a706.al, nx707, ac708]) mixed (⟨hB37, hB81⟩) (fun w719 e720 hS => ?_)
    clear hS
    have hs721 := Below.size e720
    replace hR := hR.ext e720
    replace G := grown_trans G (Ext.to_grown e720 _)
    replace hB4 := hB4.ext e720
    replace hB12 := hB12.ext e720
    replace hn27 := hn27.ext e720
    replace ha28 := ha28.ext e720
    replace hB37 := hB37.ext e720
    replace hB81 := hB81.ext e720
    replace hn709 := hn709.ext e720
    replace ha710 := ha710.ext e720
    refine Gq.st 0 rfl (by kernel_rfl) rfl .plain rfl (fun _ _ _ h => h) ⟨hB37, hB81⟩ (fun w' x => Still.loadAgg agg26 rfl x.1 rfl) ?_
    refine Gq.st 1 rfl (by kernel_rfl) rfl .plain rfl (fun _ _ _ h => h) ⟨hB37, hB81⟩ (fun w' x => Still.loadAgg agg26 rfl x.2 rfl) ?_
    refine Gq.one 2 rfl (by kernel_rfl) ?_
    refine Sq.storeAgg agg26 .plain rfl rfl (one_cons rfl (one_cons (Rows.one hn27) (one_cons (Row.one ha28) one_nil))) hB4 rfl rfl (fun w722 g723 hB724 => ?_)
    have hs725 := World.grownBy.size g723
    replace hR := hR.grown g723 (by intro h; injection h with h; omega)
    replace G := grown_far G g723 (fun k hk => by injection hk with hk; subst hk; omega)
    replace hB12 := hB12.grown g723 (by intro h; injection h with h; omega)
    replace hn27 := hn27.stored g723 hB4 (by decide) (by decide)
    replace ha28 := ha28.stored g723 hB4 (by decide)
    replace hB37 := hB37.grown g723 (by intro h; injection h with h; omega)
    replace hB81 := hB81.grown g723 (by intro h; injection h with h; omega)
    replace hn709 := hn709.stored g723 hB4 (by decide) (by decide)
    replace ha710 := ha710.stored g723 hB4 (by decide)
    replace hB4 := hB724
    refine Sq.nil ?_
    refine Eq.goes (fun _ => ⟨hB37, hB81⟩) ?_
    refine Gq.one 3 rfl (by kernel_rfl) ?_
    refine Sq.storeAgg agg26 .plain rfl rfl (one_cons rfl (one_cons (Rows.one hn709) (one_cons (Row.one ha710) one_nil))) hB12 rfl rfl (fun w726 g727 hB728 => ?_)
    have hs729 := World.grownBy.size g727
    replace hR := hR.grown g727 (by intro h; injection h with h; omega)
    replace G := grown_far G g727 (fun k hk => by injection hk with hk; subst hk; omega)
    replace hB4 := hB4.grown g727 (by intro h; injection h with h; omega)
    replace hn27 := hn27.stored g727 hB12 (by decide) (by decide)
    replace ha28 := ha28.stored g727 hB12 (by decide)
    replace hn709 := hn709.stored g727 hB12 (by decide) (by decide)
    replace ha710 := ha710.stored g727 hB12 (by decide)
    replace hB12 := hB728
    refine Sq.nil ?_
    refine Eq.goes (fun h => absurd h (by decide)) ?_
    refine Gq.done (by kernel_rfl) ?_
    refine Eq.next ?_
    refine Cq.ret ?_
    refine Eq.retCC rfl rfl rfl agg26 agg26 hB4 hB12 rfl rfl ?_
    exact ⟨⟨_, by omega, hR, G⟩, _, _, _, _, rfl, ⟨_, _, rfl, hn27, ha28⟩, ⟨_, _, rfl, hn709, ha710⟩, by first | exact (Small.of hv711).mono (by omega) | exact Small.mono hv711 (by omega) | exact (Small.of hv696).mono (by omega) | exact Small.mono hv696 (by omega) | exact (Small.of hv681).mono (by omega) | exact Small.mono hv681 (by omega) | exact (Small.of hv650).mono (by omega) | exact Small.mono hv650 (by omega) | exact (Small.of hv635).mono (by omega) | exact Small.mono hv635 (by omega) | exact (Small.of hv620).mono (by omega) | exact Small.mono hv620 (by omega) | exact (Small.of hv567).mono (by omega) | exact Small.mono hv567 (by omega) | exact (Small.of hv548).mono (by omega) | exact Small.mono hv548 (by omega) | exact (Small.of hv516).mono (by omega) | exact Small.mono hv516 (by omega) | exact (Small.of hv485).mono (by omega) | exact Small.mono hv485 (by omega) | exact (Small.of hv470).mono (by omega) | exact Small.mono hv470 (by omega) | exact (Small.of hv455).mono (by omega) | exact Small.mono hv455 (by omega) | exact (Small.of hv424).mono (by omega) | exact Small.mono hv424 (by omega) | exact (Small.of hv409).mono (by omega) | exact Small.mono hv409 (by omega) | exact (Small.of hv394).mono (by omega) | exact Small.mono hv394 (by omega) | exact (Small.of hv363).mono (by omega) | exact Small.mono hv363 (by omega) | exact (Small.of hv321).mono (by omega) | exact Small.mono hv321 (by omega) | exact (Small.of hv302).mono (by omega) | exact Small.mono hv302 (by omega) | exact (Small.of hv270).mono (by omega) | exact Small.mono hv270 (by omega) | exact (Small.of hv239).mono (by omega) | exact Small.mono hv239 (by omega) | exact (Small.of hv224).mono (by omega) | exact Small.mono hv224 (by omega) | exact (Small.of hv209).mono (by omega) | exact Small.mono hv209 (by omega) | exact (Small.of hv178).mono (by omega) | exact Small.mono hv178 (by omega) | exact (Small.of hv163).mono (by omega) | exact Small.mono hv163 (by omega) | exact (Small.of hv148).mono (by omega) | exact Small.mono hv148 (by omega) | exact (Small.of hv116).mono (by omega) | exact Small.mono hv116 (by omega) | exact (Small.of hv74).mono (by omega) | exact Small.mono hv74 (by omega) | exact (Small.of hv59).mono (by omega) | exact Small.mono hv59 (by omega) | exact (Small.of hv29).mono (by omega) | exact Small.mono hv29 (by omega), by first | exact (Small.of hv711).mono (by omega) | exact Small.mono hv711 (by omega) | exact (Small.of hv696).mono (by omega) | exact Small.mono hv696 (by omega) | exact (Small.of hv681).mono (by omega) | exact Small.mono hv681 (by omega) | exact (Small.of hv650).mono (by omega) | exact Small.mono hv650 (by omega) | exact (Small.of hv635).mono (by omega) | exact Small.mono hv635 (by omega) | exact (Small.of hv620).mono (by omega) | exact Small.mono hv620 (by omega) | exact (Small.of hv567).mono (by omega) | exact Small.mono hv567 (by omega) | exact (Small.of hv548).mono (by omega) | exact Small.mono hv548 (by omega) | exact (Small.of hv516).mono (by omega) | exact Small.mono hv516 (by omega) | exact (Small.of hv485).mono (by omega) | exact Small.mono hv485 (by omega) | exact (Small.of hv470).mono (by omega) | exact Small.mono hv470 (by omega) | exact (Small.of hv455).mono (by omega) | exact Small.mono hv455 (by omega) | exact (Small.of hv424).mono (by omega) | exact Small.mono hv424 (by omega) | exact (Small.of hv409).mono (by omega) | exact Small.mono hv409 (by omega) | exact (Small.of hv394).mono (by omega) | exact Small.mono hv394 (by omega) | exact (Small.of hv363).mono (by omega) | exact Small.mono hv363 (by omega) | exact (Small.of hv321).mono (by omega) | exact Small.mono hv321 (by omega) | exact (Small.of hv302).mono (by omega) | exact Small.mono hv302 (by omega) | exact (Small.of hv270).mono (by omega) | exact Small.mono hv270 (by omega) | exact (Small.of hv239).mono (by omega) | exact Small.mono hv239 (by omega) | exact (Small.of hv224).mono (by omega) | exact Small.mono hv224 (by omega) | exact (Small.of hv209).mono (by omega) | exact Small.mono hv209 (by omega) | exact (Small.of hv178).mono (by omega) | exact Small.mono hv178 (by omega) | exact (Small.of hv163).mono (by omega) | exact Small.mono hv163 (by omega) | exact (Small.of hv148).mono (by omega) | exact Small.mono hv148 (by omega) | exact (Small.of hv116).mono (by omega) | exact Small.mono hv116 (by omega) | exact (Small.of hv74).mono (by omega) | exact Small.mono hv74 (by omega) | exact (Small.of hv59).mono (by omega) | exact Small.mono hv59 (by omega) | exact (Small.of hv29).mono (by omega) | exact Small.mono hv29 (by omega)⟩
  refine Sq.assign .plain rfl rfl ?_
  refine Sq.nil ?_
  refine Eq.next ?_
  refine Cq.els rfl ?_
  refine Cq.seq ?_
  refine Cq.region ?_
  refine Sq.eql .plain rfl rfl rfl ?_
  refine Sq.part (fun c730 => ?_) (fun c730 => ?_)
  · refine Sq.assign .plain rfl rfl ?_
    refine Sq.nil ?_
    refine Eq.next ?_
    refine Cq.thn rfl ?_
    refine Cq.region ?_
    refine Sq.move .plain rfl rfl ?_
    refine Sq.call fn42 .plain rfl rfl (l3Draw_c _ _ _ _ _ _ hR (hb.go G) hbl (by omega) ) ?_
    rintro _ w732 ⟨⟨p733, hp736, hB735, g734⟩, ⟨a737, ⟨nx738, ac739, rfl, hn740, ha741⟩, hv742, hal743⟩⟩
    have hs744 := World.grownBy.size g734
    have hs745 := World.grownBy.size G
    have hs746 := World.grownBy.size g734
    replace G := grown_trans G g734
    replace hB4 := hB4.grown g734 (by intro h; injection h with h; omega)
    replace hB12 := hB12.grown g734 (by intro h; injection h with h; omega)
    replace hn27 := hn27.stored g734 hR (by decide) (by decide)
    replace ha28 := ha28.stored g734 hR (by decide)
    replace hB37 := hB37.grown g734 (by intro h; injection h with h; omega)
    replace hB81 := hB81.grown g734 (by intro h; injection h with h; omega)
    replace hR := hB735
    refine Sq.storeAgg agg26 .plain rfl rfl (one_cons rfl (one_cons (Rows.one hn740) (one_cons (Row.one ha741) one_nil))) hB81 rfl rfl (fun w747 g748 hB749 => ?_)
    have hs750 := World.grownBy.size g748
    replace hR := hR.grown g748 (by intro h; injection h with h; omega)
    replace G := grown_far G g748 (fun k hk => by injection hk with hk; subst hk; omega)
    replace hB4 := hB4.grown g748 (by intro h; injection h with h; omega)
    replace hB12 := hB12.grown g748 (by intro h; injection h with h; omega)
    replace hn27 := hn27.stored g748 hB81 (by decide) (by decide)
    replace ha28 := ha28.stored g748 hB81 (by decide)
    replace hB37 := hB37.grown g748 (by intro h; injection h with h; omega)
    replace hn740 := hn740.stored g748 hB81 (by decide) (by decide)
    replace ha741 := ha741.stored g748 hB81 (by decide)
    replace hB81 := hB749
    refine Sq.nil ?_
    refine Eq.end ?_
    refine Eq.next ?_
    refine Cq.seq ?_
    refine Cq.drawS 3 (fun w' => Blk w' b34 26 [Value.int .i64 a24.al, nx25, ac26] ∧ Blk w' b78 26 [Value.int .i64 a737.al, nx738, ac739]) mixed (⟨hB37, hB81⟩) (fun w751 e752 hS => ?_)
    clear hS
    have hs753 := Below.size e752
    replace hR := hR.ext e752
    replace G := grown_trans G (Ext.to_grown e752 _)
    replace hB4 := hB4.ext e752
    replace hB12 := hB12.ext e752
    replace hn27 := hn27.ext e752
    replace ha28 := ha28.ext e752
    replace hB37 := hB37.ext e752
    replace hB81 := hB81.ext e752
    replace hn740 := hn740.ext e752
    replace ha741 := ha741.ext e752
    refine Gq.st 0 rfl (by kernel_rfl) rfl .plain rfl (fun _ _ _ h => h) ⟨hB37, hB81⟩ (fun w' x => Still.loadAgg agg26 rfl x.1 rfl) ?_
    refine Gq.st 1 rfl (by kernel_rfl) rfl .plain rfl (fun _ _ _ h => h) ⟨hB37, hB81⟩ (fun w' x => Still.loadAgg agg26 rfl x.2 rfl) ?_
    refine Gq.one 2 rfl (by kernel_rfl) ?_
    refine Sq.storeAgg agg26 .plain rfl rfl (one_cons rfl (one_cons (Rows.one hn27) (one_cons (Row.one ha28) one_nil))) hB4 rfl rfl (fun w754 g755 hB756 => ?_)
    have hs757 := World.grownBy.size g755
    replace hR := hR.grown g755 (by intro h; injection h with h; omega)
    replace G := grown_far G g755 (fun k hk => by injection hk with hk; subst hk; omega)
    replace hB12 := hB12.grown g755 (by intro h; injection h with h; omega)
    replace hn27 := hn27.stored g755 hB4 (by decide) (by decide)
    replace ha28 := ha28.stored g755 hB4 (by decide)
    replace hB37 := hB37.grown g755 (by intro h; injection h with h; omega)
    replace hB81 := hB81.grown g755 (by intro h; injection h with h; omega)
    replace hn740 := hn740.stored g755 hB4 (by decide) (by decide)
    replace ha741 := ha741.stored g755 hB4 (by decide)
    replace hB4 := hB756
    refine Sq.nil ?_
    refine Eq.goes (fun _ => ⟨hB37, hB81⟩) ?_
    refine Gq.one 3 rfl (by kernel_rfl) ?_
    refine Sq.storeAgg agg26 .plain rfl rfl (one_cons rfl (one_cons (Rows.one hn740) (one_cons (Row.one ha741) one_nil))) hB12 rfl rfl (fun w758 g759 hB760 => ?_)
    have hs761 := World.grownBy.size g759
    replace hR := hR.grown g759 (by intro h; injection h with h; omega)
    replace G := grown_far G g759 (fun k hk => by injection hk with hk; subst hk; omega)
    replace hB4 := hB4.grown g759 (by intro h; injection h with h; omega)
    replace hn27 := hn27.stored g759 hB12 (by decide) (by decide)
    replace ha28 := ha28.stored g759 hB12 (by decide)
    replace hn740 := hn740.stored g759 hB12 (by decide) (by decide)
    replace ha741 := ha741.stored g759 hB12 (by decide)
    replace hB12 := hB760
    refine Sq.nil ?_
    refine Eq.goes (fun h => absurd h (by decide)) ?_
    refine Gq.done (by kernel_rfl) ?_
    refine Eq.next ?_
    refine Cq.ret ?_
    refine Eq.retCC rfl rfl rfl agg26 agg26 hB4 hB12 rfl rfl ?_
    exact ⟨⟨_, by omega, hR, G⟩, _, _, _, _, rfl, ⟨_, _, rfl, hn27, ha28⟩, ⟨_, _, rfl, hn740, ha741⟩, by first | exact (Small.of hv742).mono (by omega) | exact Small.mono hv742 (by omega) | exact (Small.of hv711).mono (by omega) | exact Small.mono hv711 (by omega) | exact (Small.of hv696).mono (by omega) | exact Small.mono hv696 (by omega) | exact (Small.of hv681).mono (by omega) | exact Small.mono hv681 (by omega) | exact (Small.of hv650).mono (by omega) | exact Small.mono hv650 (by omega) | exact (Small.of hv635).mono (by omega) | exact Small.mono hv635 (by omega) | exact (Small.of hv620).mono (by omega) | exact Small.mono hv620 (by omega) | exact (Small.of hv567).mono (by omega) | exact Small.mono hv567 (by omega) | exact (Small.of hv548).mono (by omega) | exact Small.mono hv548 (by omega) | exact (Small.of hv516).mono (by omega) | exact Small.mono hv516 (by omega) | exact (Small.of hv485).mono (by omega) | exact Small.mono hv485 (by omega) | exact (Small.of hv470).mono (by omega) | exact Small.mono hv470 (by omega) | exact (Small.of hv455).mono (by omega) | exact Small.mono hv455 (by omega) | exact (Small.of hv424).mono (by omega) | exact Small.mono hv424 (by omega) | exact (Small.of hv409).mono (by omega) | exact Small.mono hv409 (by omega) | exact (Small.of hv394).mono (by omega) | exact Small.mono hv394 (by omega) | exact (Small.of hv363).mono (by omega) | exact Small.mono hv363 (by omega) | exact (Small.of hv321).mono (by omega) | exact Small.mono hv321 (by omega) | exact (Small.of hv302).mono (by omega) | exact Small.mono hv302 (by omega) | exact (Small.of hv270).mono (by omega) | exact Small.mono hv270 (by omega) | exact (Small.of hv239).mono (by omega) | exact Small.mono hv239 (by omega) | exact (Small.of hv224).mono (by omega) | exact Small.mono hv224 (by omega) | exact (Small.of hv209).mono (by omega) | exact Small.mono hv209 (by omega) | exact (Small.of hv178).mono (by omega) | exact Small.mono hv178 (by omega) | exact (Small.of hv163).mono (by omega) | exact Small.mono hv163 (by omega) | exact (Small.of hv148).mono (by omega) | exact Small.mono hv148 (by omega) | exact (Small.of hv116).mono (by omega) | exact Small.mono hv116 (by omega) | exact (Small.of hv74).mono (by omega) | exact Small.mono hv74 (by omega) | exact (Small.of hv59).mono (by omega) | exact Small.mono hv59 (by omega) | exact (Small.of hv29).mono (by omega) | exact Small.mono hv29 (by omega), by first | exact (Small.of hv742).mono (by omega) | exact Small.mono hv742 (by omega) | exact (Small.of hv711).mono (by omega) | exact Small.mono hv711 (by omega) | exact (Small.of hv696).mono (by omega) | exact Small.mono hv696 (by omega) | exact (Small.of hv681).mono (by omega) | exact Small.mono hv681 (by omega) | exact (Small.of hv650).mono (by omega) | exact Small.mono hv650 (by omega) | exact (Small.of hv635).mono (by omega) | exact Small.mono hv635 (by omega) | exact (Small.of hv620).mono (by omega) | exact Small.mono hv620 (by omega) | exact (Small.of hv567).mono (by omega) | exact Small.mono hv567 (by omega) | exact (Small.of hv548).mono (by omega) | exact Small.mono hv548 (by omega) | exact (Small.of hv516).mono (by omega) | exact Small.mono hv516 (by omega) | exact (Small.of hv485).mono (by omega) | exact Small.mono hv485 (by omega) | exact (Small.of hv470).mono (by omega) | exact Small.mono hv470 (by omega) | exact (Small.of hv455).mono (by omega) | exact Small.mono hv455 (by omega) | exact (Small.of hv424).mono (by omega) | exact Small.mono hv424 (by omega) | exact (Small.of hv409).mono (by omega) | exact Small.mono hv409 (by omega) | exact (Small.of hv394).mono (by omega) | exact Small.mono hv394 (by omega) | exact (Small.of hv363).mono (by omega) | exact Small.mono hv363 (by omega) | exact (Small.of hv321).mono (by omega) | exact Small.mono hv321 (by omega) | exact (Small.of hv302).mono (by omega) | exact Small.mono hv302 (by omega) | exact (Small.of hv270).mono (by omega) | exact Small.mono hv270 (by omega) | exact (Small.of hv239).mono (by omega) | exact Small.mono hv239 (by omega) | exact (Small.of hv224).mono (by omega) | exact Small.mono hv224 (by omega) | exact (Small.of hv209).mono (by omega) | exact Small.mono hv209 (by omega) | exact (Small.of hv178).mono (by omega) | exact Small.mono hv178 (by omega) | exact (Small.of hv163).mono (by omega) | exact Small.mono hv163 (by omega) | exact (Small.of hv148).mono (by omega) | exact Small.mono hv148 (by omega) | exact (Small.of hv116).mono (by omega) | exact Small.mono hv116 (by omega) | exact (Small.of hv74).mono (by omega) | exact Small.mono hv74 (by omega) | exact (Small.of hv59).mono (by omega) | exact Small.mono hv59 (by omega) | exact (Small.of hv29).mono (by omega) | exact Small.mono hv29 (by omega)⟩
  refine Sq.assign .plain rfl rfl ?_
  refine Sq.nil ?_
  refine Eq.next ?_
  refine Cq.els rfl ?_
  refine Cq.seq ?_
  refine Cq.region ?_
  refine Sq.eql .plain rfl rfl rfl ?_
  refine Sq.part (fun c762 => ?_) (fun c762 => ?_)
  · refine Sq.assign .plain rfl rfl ?_
    refine Sq.nil ?_
    refine Eq.next ?_
    refine Cq.thn rfl ?_
    refine Cq.seq ?_
    refine Cq.region ?_
    refine Sq.move .plain rfl rfl ?_
    refine Sq.call fn45 .plain rfl rfl (l3Big_c _ _ _ _ _ _ hR (hb.go G) hbl (by omega) ) ?_
    rintro _ w764 ⟨⟨p765, hp768, hB767, g766⟩, ⟨a769, ⟨nx770, ac771, rfl, hn772, ha773⟩, hv774⟩⟩
    have hs775 := World.grownBy.size g766
    have hs776 := World.grownBy.size G
    have hs777 := World.grownBy.size g766
    replace G := grown_trans G g766
    replace hB4 := hB4.grown g766 (by intro h; injection h with h; omega)
    replace hB12 := hB12.grown g766 (by intro h; injection h with h; omega)
    replace hB37 := hB37.grown g766 (by intro h; injection h with h; omega)
    replace hB81 := hB81.grown g766 (by intro h; injection h with h; omega)
    replace hR := hB767
    refine Sq.storeAgg agg26 .plain rfl rfl (one_cons rfl (one_cons (Rows.one (OwnRows.rows hn772)) (one_cons (Row.one (Own.row ha773)) one_nil))) hB37 rfl rfl (fun w778 g779 hB780 => ?_)
    have hs781 := World.grownBy.size g779
    replace hR := hR.grown g779 (by intro h; injection h with h; omega)
    replace G := grown_far G g779 (fun k hk => by injection hk with hk; subst hk; omega)
    replace hB4 := hB4.grown g779 (by intro h; injection h with h; omega)
    replace hB12 := hB12.grown g779 (by intro h; injection h with h; omega)
    replace hB81 := hB81.grown g779 (by intro h; injection h with h; omega)
    replace hn772 := hn772.stored g779 hB37 (by decide) (by decide)
    replace ha773 := ha773.stored g779 hB37 (by decide)
    replace hB37 := hB780
    refine Sq.nil ?_
    refine Eq.next ?_
    refine Cq.region ?_
    refine Sq.move .plain rfl rfl ?_
    refine Sq.loadAgg agg26 .plain rfl rfl hB37 rfl ?_
    refine Sq.call fn44 .plain rfl rfl (l4Change_c _ _ _ _ _ _ hR (hb.go G) hbl (by omega) a769 _ _ (OwnRows.rows hn772) (Own.row ha773) _ (by omega) (Small.of hv774)) ?_
    rintro _ w783 ⟨⟨p784, hp787, hB786, g785⟩, ⟨a788, ⟨nx789, ac790, rfl, hn791, ha792⟩, hv793⟩⟩
    have hs794 := World.grownBy.size g785
    have hs795 := World.grownBy.size G
    have hs796 := World.grownBy.size g785
    replace G := grown_trans G g785
    replace hB4 := hB4.grown g785 (by intro h; injection h with h; omega)
    replace hB12 := hB12.grown g785 (by intro h; injection h with h; omega)
    replace hB37 := hB37.grown g785 (by intro h; injection h with h; omega)
    replace hB81 := hB81.grown g785 (by intro h; injection h with h; omega)
    replace hn772 := hn772.stored g785 hR (by decide) (by decide)
    replace ha773 := ha773.stored g785 hR (by decide)
    replace hR := hB786
    refine Sq.storeAgg agg26 .plain rfl rfl (one_cons rfl (one_cons (Rows.one hn791) (one_cons (Row.one ha792) one_nil))) hB81 rfl rfl (fun w797 g798 hB799 => ?_)
    have hs800 := World.grownBy.size g798
    replace hR := hR.grown g798 (by intro h; injection h with h; omega)
    replace G := grown_far G g798 (fun k hk => by injection hk with hk; subst hk; omega)
    replace hB4 := hB4.grown g798 (by intro h; injection h with h; omega)
    replace hB12 := hB12.grown g798 (by intro h; injection h with h; omega)
    replace hB37 := hB37.grown g798 (by intro h; injection h with h; omega)
    replace hn772 := hn772.stored g798 hB81 (by decide) (by decide)
    replace ha773 := ha773.stored g798 hB81 (by decide)
    replace hn791 := hn791.stored g798 hB81 (by decide) (by decide)
    replace ha792 := ha792.stored g798 hB81 (by decide)
    replace hB81 := hB799
    refine Sq.nil ?_
    refine Eq.end ?_
    refine Eq.next ?_
    refine Cq.seq ?_
    refine Cq.drawS 3 (fun w' => Blk w' b34 26 [Value.int .i64 a769.al, nx770, ac771] ∧ Blk w' b78 26 [Value.int .i64 a788.al, nx789, ac790]) mixed (⟨hB37, hB81⟩) (fun w801 e802 hS => ?_)
    clear hS
    have hs803 := Below.size e802
    replace hR := hR.ext e802
    replace G := grown_trans G (Ext.to_grown e802 _)
    replace hB4 := hB4.ext e802
    replace hB12 := hB12.ext e802
    replace hB37 := hB37.ext e802
    replace hB81 := hB81.ext e802
    replace hn772 := hn772.ext e802
    replace ha773 := ha773.ext e802
    replace hn791 := hn791.ext e802
    replace ha792 := ha792.ext e802
    refine Gq.st 0 rfl (by kernel_rfl) rfl .plain rfl (fun _ _ _ h => h) ⟨hB37, hB81⟩ (fun w' x => Still.loadAgg agg26 rfl x.1 rfl) ?_
    refine Gq.st 1 rfl (by kernel_rfl) rfl .plain rfl (fun _ _ _ h => h) ⟨hB37, hB81⟩ (fun w' x => Still.loadAgg agg26 rfl x.2 rfl) ?_
    refine Gq.one 2 rfl (by kernel_rfl) ?_
    refine Sq.storeAgg agg26 .plain rfl rfl (one_cons rfl (one_cons (Rows.one (OwnRows.rows hn772)) (one_cons (Row.one (Own.row ha773)) one_nil))) hB4 rfl rfl (fun w804 g805 hB806 => ?_)
    have hs807 := World.grownBy.size g805
    replace hR := hR.grown g805 (by intro h; injection h with h; omega)
    replace G := grown_far G g805 (fun k hk => by injection hk with hk; subst hk; omega)
    replace hB12 := hB12.grown g805 (by intro h; injection h with h; omega)
    replace hB37 := hB37.grown g805 (by intro h; injection h with h; omega)
    replace hB81 := hB81.grown g805 (by intro h; injection h with h; omega)
    replace hn772 := hn772.stored g805 hB4 (by decide) (by decide)
    replace ha773 := ha773.stored g805 hB4 (by decide)
    replace hn791 := hn791.stored g805 hB4 (by decide) (by decide)
    replace ha792 := ha792.stored g805 hB4 (by decide)
    replace hB4 := hB806
    refine Sq.nil ?_
    refine Eq.goes (fun _ => ⟨hB37, hB81⟩) ?_
    refine Gq.one 3 rfl (by kernel_rfl) ?_
    refine Sq.storeAgg agg26 .plain rfl rfl (one_cons rfl (one_cons (Rows.one hn791) (one_cons (Row.one ha792) one_nil))) hB12 rfl rfl (fun w808 g809 hB810 => ?_)
    have hs811 := World.grownBy.size g809
    replace hR := hR.grown g809 (by intro h; injection h with h; omega)
    replace G := grown_far G g809 (fun k hk => by injection hk with hk; subst hk; omega)
    replace hB4 := hB4.grown g809 (by intro h; injection h with h; omega)
    replace hn772 := hn772.stored g809 hB12 (by decide) (by decide)
    replace ha773 := ha773.stored g809 hB12 (by decide)
    replace hn791 := hn791.stored g809 hB12 (by decide) (by decide)
    replace ha792 := ha792.stored g809 hB12 (by decide)
    replace hB12 := hB810
    refine Sq.nil ?_
    refine Eq.goes (fun h => absurd h (by decide)) ?_
    refine Gq.done (by kernel_rfl) ?_
    refine Eq.next ?_
    refine Cq.ret ?_
    refine Eq.retCC rfl rfl rfl agg26 agg26 hB4 hB12 rfl rfl ?_
    exact ⟨⟨_, by omega, hR, G⟩, _, _, _, _, rfl, ⟨_, _, rfl, (OwnRows.rows hn772), (Own.row ha773)⟩, ⟨_, _, rfl, hn791, ha792⟩, by first | exact (Small.of hv793).mono (by omega) | exact Small.mono hv793 (by omega) | exact (Small.of hv774).mono (by omega) | exact Small.mono hv774 (by omega) | exact (Small.of hv742).mono (by omega) | exact Small.mono hv742 (by omega) | exact (Small.of hv711).mono (by omega) | exact Small.mono hv711 (by omega) | exact (Small.of hv696).mono (by omega) | exact Small.mono hv696 (by omega) | exact (Small.of hv681).mono (by omega) | exact Small.mono hv681 (by omega) | exact (Small.of hv650).mono (by omega) | exact Small.mono hv650 (by omega) | exact (Small.of hv635).mono (by omega) | exact Small.mono hv635 (by omega) | exact (Small.of hv620).mono (by omega) | exact Small.mono hv620 (by omega) | exact (Small.of hv567).mono (by omega) | exact Small.mono hv567 (by omega) | exact (Small.of hv548).mono (by omega) | exact Small.mono hv548 (by omega) | exact (Small.of hv516).mono (by omega) | exact Small.mono hv516 (by omega) | exact (Small.of hv485).mono (by omega) | exact Small.mono hv485 (by omega) | exact (Small.of hv470).mono (by omega) | exact Small.mono hv470 (by omega) | exact (Small.of hv455).mono (by omega) | exact Small.mono hv455 (by omega) | exact (Small.of hv424).mono (by omega) | exact Small.mono hv424 (by omega) | exact (Small.of hv409).mono (by omega) | exact Small.mono hv409 (by omega) | exact (Small.of hv394).mono (by omega) | exact Small.mono hv394 (by omega) | exact (Small.of hv363).mono (by omega) | exact Small.mono hv363 (by omega) | exact (Small.of hv321).mono (by omega) | exact Small.mono hv321 (by omega) | exact (Small.of hv302).mono (by omega) | exact Small.mono hv302 (by omega) | exact (Small.of hv270).mono (by omega) | exact Small.mono hv270 (by omega) | exact (Small.of hv239).mono (by omega) | exact Small.mono hv239 (by omega) | exact (Small.of hv224).mono (by omega) | exact Small.mono hv224 (by omega) | exact (Small.of hv209).mono (by omega) | exact Small.mono hv209 (by omega) | exact (Small.of hv178).mono (by omega) | exact Small.mono hv178 (by omega) | exact (Small.of hv163).mono (by omega) | exact Small.mono hv163 (by omega) | exact (Small.of hv148).mono (by omega) | exact Small.mono hv148 (by omega) | exact (Small.of hv116).mono (by omega) | exact Small.mono hv116 (by omega) | exact (Small.of hv74).mono (by omega) | exact Small.mono hv74 (by omega) | exact (Small.of hv59).mono (by omega) | exact Small.mono hv59 (by omega) | exact (Small.of hv29).mono (by omega) | exact Small.mono hv29 (by omega), by first | exact (Small.of hv793).mono (by omega) | exact Small.mono hv793 (by omega) | exact (Small.of hv774).mono (by omega) | exact Small.mono hv774 (by omega) | exact (Small.of hv742).mono (by omega) | exact Small.mono hv742 (by omega) | exact (Small.of hv711).mono (by omega) | exact Small.mono hv711 (by omega) | exact (Small.of hv696).mono (by omega) | exact Small.mono hv696 (by omega) | exact (Small.of hv681).mono (by omega) | exact Small.mono hv681 (by omega) | exact (Small.of hv650).mono (by omega) | exact Small.mono hv650 (by omega) | exact (Small.of hv635).mono (by omega) | exact Small.mono hv635 (by omega) | exact (Small.of hv620).mono (by omega) | exact Small.mono hv620 (by omega) | exact (Small.of hv567).mono (by omega) | exact Small.mono hv567 (by omega) | exact (Small.of hv548).mono (by omega) | exact Small.mono hv548 (by omega) | exact (Small.of hv516).mono (by omega) | exact Small.mono hv516 (by omega) | exact (Small.of hv485).mono (by omega) | exact Small.mono hv485 (by omega) | exact (Small.of hv470).mono (by omega) | exact Small.mono hv470 (by omega) | exact (Small.of hv455).mono (by omega) | exact Small.mono hv455 (by omega) | exact (Small.of hv424).mono (by omega) | exact Small.mono hv424 (by omega) | exact (Small.of hv409).mono (by omega) | exact Small.mono hv409 (by omega) | exact (Small.of hv394).mono (by omega) | exact Small.mono hv394 (by omega) | exact (Small.of hv363).mono (by omega) | exact Small.mono hv363 (by omega) | exact (Small.of hv321).mono (by omega) | exact Small.mono hv321 (by omega) | exact (Small.of hv302).mono (by omega) | exact Small.mono hv302 (by omega) | exact (Small.of hv270).mono (by omega) | exact Small.mono hv270 (by omega) | exact (Small.of hv239).mono (by omega) | exact Small.mono hv239 (by omega) | exact (Small.of hv224).mono (by omega) | exact Small.mono hv224 (by omega) | exact (Small.of hv209).mono (by omega) | exact Small.mono hv209 (by omega) | exact (Small.of hv178).mono (by omega) | exact Small.mono hv178 (by omega) | exact (Small.of hv163).mono (by omega) | exact Small.mono hv163 (by omega) | exact (Small.of hv148).mono (by omega) | exact Small.mono hv148 (by omega) | exact (Small.of hv116).mono (by omega) | exact Small.mono hv116 (by omega) | exact (Small.of hv74).mono (by omega) | exact Small.mono hv74 (by omega) | exact (Small.of hv59).mono (by omega) | exact Small.mono hv59 (by omega) | exact (Small.of hv29).mono (by omega) | exact Small.mono hv29 (by omega)⟩
  refine Sq.assign .plain rfl rfl ?_
  refine Sq.nil ?_
  refine Eq.next ?_
  refine Cq.els rfl ?_
  refine Cq.skip ?_
  refine Eq.end ?_
  refine Eq.next ?_
  refine Cq.seq ?_
  refine Cq.drawS 3 (fun w' => Blk w' b34 26 [Value.int .i64 a24.al, nx25, ac26] ∧ Blk w' b78 26 [Value.int .i64 a69.al, nx70, ac71]) mixed (⟨hB37, hB81⟩) (fun w812 e813 hS => ?_)
  clear hS
  have hs814 := Below.size e813
  replace hR := hR.ext e813
  replace G := grown_trans G (Ext.to_grown e813 _)
  replace hB4 := hB4.ext e813
  replace hB12 := hB12.ext e813
  replace hn27 := hn27.ext e813
  replace ha28 := ha28.ext e813
  replace hB37 := hB37.ext e813
  replace hn72 := hn72.ext e813
  replace ha73 := ha73.ext e813
  replace hB81 := hB81.ext e813
  refine Gq.st 0 rfl (by kernel_rfl) rfl .plain rfl (fun _ _ _ h => h) ⟨hB37, hB81⟩ (fun w' x => Still.loadAgg agg26 rfl x.1 rfl) ?_
  refine Gq.st 1 rfl (by kernel_rfl) rfl .plain rfl (fun _ _ _ h => h) ⟨hB37, hB81⟩ (fun w' x => Still.loadAgg agg26 rfl x.2 rfl) ?_
  refine Gq.one 2 rfl (by kernel_rfl) ?_
  refine Sq.storeAgg agg26 .plain rfl rfl (one_cons rfl (one_cons (Rows.one hn27) (one_cons (Row.one ha28) one_nil))) hB4 rfl rfl (fun w815 g816 hB817 => ?_)
  have hs818 := World.grownBy.size g816
  replace hR := hR.grown g816 (by intro h; injection h with h; omega)
  replace G := grown_far G g816 (fun k hk => by injection hk with hk; subst hk; omega)
  replace hB12 := hB12.grown g816 (by intro h; injection h with h; omega)
  replace hn27 := hn27.stored g816 hB4 (by decide) (by decide)
  replace ha28 := ha28.stored g816 hB4 (by decide)
  replace hB37 := hB37.grown g816 (by intro h; injection h with h; omega)
  replace hn72 := hn72.stored g816 hB4 (by decide) (by decide)
  replace ha73 := ha73.stored g816 hB4 (by decide)
  replace hB81 := hB81.grown g816 (by intro h; injection h with h; omega)
  replace hB4 := hB817
  refine Sq.nil ?_
  refine Eq.goes (fun _ => ⟨hB37, hB81⟩) ?_
  refine Gq.one 3 rfl (by kernel_rfl) ?_
  refine Sq.storeAgg agg26 .plain rfl rfl (one_cons rfl (one_cons (Rows.one hn72) (one_cons (Row.one ha73) one_nil))) hB12 rfl rfl (fun w819 g820 hB821 => ?_)
  have hs822 := World.grownBy.size g820
  replace hR := hR.grown g820 (by intro h; injection h with h; omega)
  replace G := grown_far G g820 (fun k hk => by injection hk with hk; subst hk; omega)
  replace hB4 := hB4.grown g820 (by intro h; injection h with h; omega)
  replace hn27 := hn27.stored g820 hB12 (by decide) (by decide)
  replace ha28 := ha28.stored g820 hB12 (by decide)
  replace hn72 := hn72.stored g820 hB12 (by decide) (by decide)
  replace ha73 := ha73.stored g820 hB12 (by decide)
  replace hB12 := hB821
  refine Sq.nil ?_
  refine Eq.goes (fun h => absurd h (by decide)) ?_
  refine Gq.done (by kernel_rfl) ?_
  refine Eq.next ?_
  refine Cq.ret ?_
  refine Eq.retCC rfl rfl rfl agg26 agg26 hB4 hB12 rfl rfl ?_
  exact ⟨⟨_, by omega, hR, G⟩, _, _, _, _, rfl, ⟨_, _, rfl, hn27, ha28⟩, ⟨_, _, rfl, hn72, ha73⟩, by first | exact (Small.of hv793).mono (by omega) | exact Small.mono hv793 (by omega) | exact (Small.of hv774).mono (by omega) | exact Small.mono hv774 (by omega) | exact (Small.of hv742).mono (by omega) | exact Small.mono hv742 (by omega) | exact (Small.of hv711).mono (by omega) | exact Small.mono hv711 (by omega) | exact (Small.of hv696).mono (by omega) | exact Small.mono hv696 (by omega) | exact (Small.of hv681).mono (by omega) | exact Small.mono hv681 (by omega) | exact (Small.of hv650).mono (by omega) | exact Small.mono hv650 (by omega) | exact (Small.of hv635).mono (by omega) | exact Small.mono hv635 (by omega) | exact (Small.of hv620).mono (by omega) | exact Small.mono hv620 (by omega) | exact (Small.of hv567).mono (by omega) | exact Small.mono hv567 (by omega) | exact (Small.of hv548).mono (by omega) | exact Small.mono hv548 (by omega) | exact (Small.of hv516).mono (by omega) | exact Small.mono hv516 (by omega) | exact (Small.of hv485).mono (by omega) | exact Small.mono hv485 (by omega) | exact (Small.of hv470).mono (by omega) | exact Small.mono hv470 (by omega) | exact (Small.of hv455).mono (by omega) | exact Small.mono hv455 (by omega) | exact (Small.of hv424).mono (by omega) | exact Small.mono hv424 (by omega) | exact (Small.of hv409).mono (by omega) | exact Small.mono hv409 (by omega) | exact (Small.of hv394).mono (by omega) | exact Small.mono hv394 (by omega) | exact (Small.of hv363).mono (by omega) | exact Small.mono hv363 (by omega) | exact (Small.of hv321).mono (by omega) | exact Small.mono hv321 (by omega) | exact (Small.of hv302).mono (by omega) | exact Small.mono hv302 (by omega) | exact (Small.of hv270).mono (by omega) | exact Small.mono hv270 (by omega) | exact (Small.of hv239).mono (by omega) | exact Small.mono hv239 (by omega) | exact (Small.of hv224).mono (by omega) | exact Small.mono hv224 (by omega) | exact (Small.of hv209).mono (by omega) | exact Small.mono hv209 (by omega) | exact (Small.of hv178).mono (by omega) | exact Small.mono hv178 (by omega) | exact (Small.of hv163).mono (by omega) | exact Small.mono hv163 (by omega) | exact (Small.of hv148).mono (by omega) | exact Small.mono hv148 (by omega) | exact (Small.of hv116).mono (by omega) | exact Small.mono hv116 (by omega) | exact (Small.of hv74).mono (by omega) | exact Small.mono hv74 (by omega) | exact (Small.of hv59).mono (by omega) | exact Small.mono hv59 (by omega) | exact (Small.of hv29).mono (by omega) | exact Small.mono hv29 (by omega), by first | exact (Small.of hv793).mono (by omega) | exact Small.mono hv793 (by omega) | exact (Small.of hv774).mono (by omega) | exact Small.mono hv774 (by omega) | exact (Small.of hv742).mono (by omega) | exact Small.mono hv742 (by omega) | exact (Small.of hv711).mono (by omega) | exact Small.mono hv711 (by omega) | exact (Small.of hv696).mono (by omega) | exact Small.mono hv696 (by omega) | exact (Small.of hv681).mono (by omega) | exact Small.mono hv681 (by omega) | exact (Small.of hv650).mono (by omega) | exact Small.mono hv650 (by omega) | exact (Small.of hv635).mono (by omega) | exact Small.mono hv635 (by omega) | exact (Small.of hv620).mono (by omega) | exact Small.mono hv620 (by omega) | exact (Small.of hv567).mono (by omega) | exact Small.mono hv567 (by omega) | exact (Small.of hv548).mono (by omega) | exact Small.mono hv548 (by omega) | exact (Small.of hv516).mono (by omega) | exact Small.mono hv516 (by omega) | exact (Small.of hv485).mono (by omega) | exact Small.mono hv485 (by omega) | exact (Small.of hv470).mono (by omega) | exact Small.mono hv470 (by omega) | exact (Small.of hv455).mono (by omega) | exact Small.mono hv455 (by omega) | exact (Small.of hv424).mono (by omega) | exact Small.mono hv424 (by omega) | exact (Small.of hv409).mono (by omega) | exact Small.mono hv409 (by omega) | exact (Small.of hv394).mono (by omega) | exact Small.mono hv394 (by omega) | exact (Small.of hv363).mono (by omega) | exact Small.mono hv363 (by omega) | exact (Small.of hv321).mono (by omega) | exact Small.mono hv321 (by omega) | exact (Small.of hv302).mono (by omega) | exact Small.mono hv302 (by omega) | exact (Small.of hv270).mono (by omega) | exact Small.mono hv270 (by omega) | exact (Small.of hv239).mono (by omega) | exact Small.mono hv239 (by omega) | exact (Small.of hv224).mono (by omega) | exact Small.mono hv224 (by omega) | exact (Small.of hv209).mono (by omega) | exact Small.mono hv209 (by omega) | exact (Small.of hv178).mono (by omega) | exact Small.mono hv178 (by omega) | exact (Small.of hv163).mono (by omega) | exact Small.mono hv163 (by omega) | exact (Small.of hv148).mono (by omega) | exact Small.mono hv148 (by omega) | exact (Small.of hv116).mono (by omega) | exact Small.mono hv116 (by omega) | exact (Small.of hv74).mono (by omega) | exact Small.mono hv74 (by omega) | exact (Small.of hv59).mono (by omega) | exact Small.mono hv59 (by omega) | exact (Small.of hv29).mono (by omega) | exact Small.mono hv29 (by omega)⟩
set_option maxRecDepth 100000 in
theorem drawWithin_c (w0 : World) (e : TypeId) (a0 : Option Addr) (c0 : Nat) (cs : List UInt8) (hc : Bytes w0 e (.slice a0 cs.length c0) cs) (hcap : cs.length ≤ c0) : Ret Try.prog 30 #[Value.slice a0 cs.length c0] w0 (fun v w => (∃ (u u' : Value) (a b : A), v = .tuple #[u, u'] ∧ RowsA w u a ∧ RowsA w u' b ∧ Small 400 a ∧ Small 400 b) ∧ Ext w0 w) := by
  have E := Ext.refl w0
  refine Ret.of (args := [Value.slice a0 cs.length c0]) Try.func30 rfl rfl rfl ?_
  rintro _ rfl
  show Cq _ _ _ _ [(0, Value.slice a0 cs.length c0)] _
  refine Cq.seq ?_
  refine Cq.region ?_
  refine Sq.alloc zero26 .plain rfl (fun b1 w2 e3 hB4 hlo5 => ?_)
  have hd6 := Nat.le_trans (Below.size E) hlo5
  have hs7 := Below.size e3
  replace E := E.trans e3
  refine Sq.alloc zero26 .plain rfl (fun b8 w9 e10 hB11 hlo12 => ?_)
  have hd13 := Nat.le_trans (Below.size E) hlo12
  have hd14 := Nat.lt_of_lt_of_le hB4.lt hlo12
  have hs15 := Below.size e10
  replace E := E.trans e10
  replace hB4 := hB4.ext e10
  refine Sq.nil ?_
  refine Eq.next ?_
  refine Cq.seq ?_
  refine Cq.region ?_
  refine Sq.move .plain rfl rfl ?_
  refine Sq.call fn41 .plain rfl rfl (open_c _ _ _ _ _ (hc.ext E) hcap) ?_
  rintro _ w16 ⟨⟨rb, bv, bs, rfl, hrb, hR, hb, hbl⟩, e17⟩
  have hrlt := hR.lt
  have hd18 := Nat.le_trans (Below.size E) hrb
  have hd19 := Nat.lt_of_lt_of_le hB4.lt hrb
  have hd20 := Nat.lt_of_lt_of_le hB11.lt hrb
  have hs21 := Below.size e17
  replace E := E.trans e17
  replace hB4 := hB4.ext e17
  replace hB11 := hB11.ext e17
  have G := World.grownBy.refl w16 (some rb)
  refine Sq.call fn73 .plain rfl rfl (l4Pair_c _ _ _ _ _ _ hR (hb.go G) hbl (by omega) ) ?_
  rintro _ w23 ⟨⟨p24, hp27, hB26, g25⟩, ⟨u28, v29, aX30, aY31, rfl, ⟨nxX32, acX33, rfl, hnX34, haX35⟩, ⟨nxY36, acY37, rfl, hnY38, haY39⟩, hsmX40, hsmY41⟩⟩
  have hs42 := World.grownBy.size g25
  have hs43 := Below.size E
  have hs44 := World.grownBy.size G
  have hs45 := World.grownBy.size g25
  replace E := E.grown g25 (fun k hk => by injection hk with hk; subst hk; omega)
  replace hB4 := hB4.grown g25 (by intro h; injection h with h; omega)
  replace hB11 := hB11.grown g25 (by intro h; injection h with h; omega)
  refine Sq.extract .plain rfl rfl rfl ?_
  refine Sq.extract .plain rfl rfl rfl ?_
  refine Sq.storeAgg agg26 .plain rfl rfl (one_cons rfl (one_cons (Rows.one hnX34) (one_cons (Row.one haX35) one_nil))) hB4 rfl rfl (fun w46 g47 hB48 => ?_)
  have hs49 := World.grownBy.size g47
  replace E := E.grown g47 (fun k hk => by injection hk with hk; subst hk; omega)
  replace hB11 := hB11.grown g47 (by intro h; injection h with h; omega)
  replace hnX34 := hnX34.stored g47 hB4 (by decide) (by decide)
  replace haX35 := haX35.stored g47 hB4 (by decide)
  replace hnY38 := hnY38.stored g47 hB4 (by decide) (by decide)
  replace haY39 := haY39.stored g47 hB4 (by decide)
  replace hB4 := hB48
  refine Sq.storeAgg agg26 .plain rfl rfl (one_cons rfl (one_cons (Rows.one hnY38) (one_cons (Row.one haY39) one_nil))) hB11 rfl rfl (fun w50 g51 hB52 => ?_)
  have hs53 := World.grownBy.size g51
  replace E := E.grown g51 (fun k hk => by injection hk with hk; subst hk; omega)
  replace hB4 := hB4.grown g51 (by intro h; injection h with h; omega)
  replace hnX34 := hnX34.stored g51 hB11 (by decide) (by decide)
  replace haX35 := haX35.stored g51 hB11 (by decide)
  replace hnY38 := hnY38.stored g51 hB11 (by decide) (by decide)
  replace haY39 := haY39.stored g51 hB11 (by decide)
  replace hB11 := hB52
  refine Sq.nil ?_
  refine Eq.next ?_
  refine Cq.ret ?_
  refine Eq.retCC rfl rfl rfl agg26 agg26 hB4 hB11 rfl rfl ?_
  exact ⟨⟨_, _, _, _, rfl, ⟨_, _, rfl, hnX34, haX35⟩, ⟨_, _, rfl, hnY38, haY39⟩, by first | exact (Small.of hsmY41).mono (by omega) | exact Small.mono hsmY41 (by omega) | exact (Small.of hsmX40).mono (by omega) | exact Small.mono hsmX40 (by omega), by first | exact (Small.of hsmY41).mono (by omega) | exact Small.mono hsmY41 (by omega) | exact (Small.of hsmX40).mono (by omega) | exact Small.mono hsmX40 (by omega)⟩, E⟩
set_option maxRecDepth 100000 in
theorem agTwo_c (w0 : World) (a b : A) (nx ac nx' ac' : Value) (hnx : Rows w0 56 3 nx a.next) (hac : Bools w0 4 ac a.acc) (hnx' : Rows w0 56 3 nx' b.next) (hac' : Bools w0 4 ac' b.acc) : Ret Try.prog 33 #[Value.agg #[Value.int .i64 a.al, nx, ac], Value.agg #[Value.int .i64 b.al, nx', ac']] w0 (fun v w => v = .bool (cmp2 a b) ∧ Ext w0 w) := by
  have E := Ext.refl w0
  refine Ret.of (args := [Value.agg #[Value.int .i64 a.al, nx, ac], Value.agg #[Value.int .i64 b.al, nx', ac']]) Try.func33 rfl rfl rfl ?_
  rintro _ rfl
  show Cq _ _ _ _ [(0, Value.agg #[Value.int .i64 a.al, nx, ac]), (1, Value.agg #[Value.int .i64 b.al, nx', ac'])] _
  refine Cq.seq ?_
  refine Cq.region ?_
  refine Sq.box .plain rfl rfl (fun b1 w2 e3 hB4 hlo5 => ?_)
  have hd6 := Nat.le_trans (Below.size E) hlo5
  have hs7 := Below.size e3
  replace E := E.trans e3
  refine Sq.box .plain rfl rfl (fun b8 w9 e10 hB11 hlo12 => ?_)
  have hd13 := Nat.le_trans (Below.size E) hlo12
  have hd14 := Nat.lt_of_lt_of_le hB4.lt hlo12
  have hs15 := Below.size e10
  replace E := E.trans e10
  replace hB4 := hB4.ext e10
  refine Sq.assign .plain rfl rfl ?_
  refine Sq.nil ?_
  refine Eq.next ?_
  refine Cq.seq ?_
  refine Cq.region ?_
  refine Sq.loadAgg agg26 .plain rfl rfl hB4 rfl ?_
  have hd19 := hB4.lt
  have hd20 := hB11.lt
  refine Sq.call fn22 .plain rfl rfl (valid_c _ a _ _ (hnx.ext E) (hac.ext E)) ?_
  rintro _ w17 ⟨rfl, e18⟩
  have hs21 := Below.size E
  have hs22 := Below.size e18
  replace E := E.trans e18
  replace hB4 := hB4.ext e18
  replace hB11 := hB11.ext e18
  refine Sq.partB (fun hva => ?_) (fun hva => ?_)
  · refine Sq.move .plain rfl rfl ?_
    refine Sq.loadAgg agg26 (.met rfl rfl rfl) rfl rfl hB11 rfl ?_
    have hd26 := hB4.lt
    have hd27 := hB11.lt
    refine Sq.call fn22 (.met rfl rfl rfl) rfl rfl (valid_c _ b _ _ (hnx'.ext E) (hac'.ext E)) ?_
    rintro _ w24 ⟨rfl, e25⟩
    have hs28 := Below.size E
    have hs29 := Below.size e25
    replace E := E.trans e25
    replace hB4 := hB4.ext e25
    replace hB11 := hB11.ext e25
    refine Sq.partB (fun hvb => ?_) (fun hvb => ?_)
    · refine Sq.pickT .plain rfl rfl rfl ?_
      refine Sq.move .plain rfl rfl ?_
      refine Sq.fieldAddr fld26_0 (.met rfl rfl rfl) rfl rfl ?_
      refine Sq.loadB one3 (.met rfl rfl rfl) rfl rfl hB4 rfl ?_
      refine Sq.fieldAddr fld26_0 (.met rfl rfl rfl) rfl rfl ?_
      refine Sq.loadB one3 (.met rfl rfl rfl) rfl rfl hB11 rfl ?_
      refine Sq.eql (.met rfl rfl rfl) rfl rfl rfl ?_
      refine Sq.pickT .plain rfl rfl rfl ?_
      refine Sq.assign .plain rfl rfl ?_
      refine Sq.nil ?_
      refine Eq.next ?_
      refine Cq.ret ?_
      refine Eq.ret1 rfl rfl ?_
      exact ⟨by simp [cmp2, hva, hvb], E⟩
    refine Sq.pickT .plain rfl rfl rfl ?_
    refine Sq.move .plain rfl rfl ?_
    refine Sq.off rfl rfl rfl rfl rfl rfl ?_
    refine Sq.off rfl rfl rfl rfl rfl rfl ?_
    refine Sq.off rfl rfl rfl rfl rfl rfl ?_
    refine Sq.off rfl rfl rfl rfl rfl rfl ?_
    refine Sq.off rfl rfl rfl rfl rfl rfl ?_
    refine Sq.pickF .plain rfl rfl rfl ?_
    refine Sq.assign .plain rfl rfl ?_
    refine Sq.nil ?_
    refine Eq.next ?_
    refine Cq.ret ?_
    refine Eq.ret1 rfl rfl ?_
    exact ⟨by simp [cmp2, hva, hvb], E⟩
  refine Sq.move .plain rfl rfl ?_
  refine Sq.off rfl rfl rfl rfl rfl rfl ?_
  refine Sq.off rfl rfl rfl rfl rfl rfl ?_
  refine Sq.pickF .plain rfl rfl rfl ?_
  refine Sq.move .plain rfl rfl ?_
  refine Sq.off rfl rfl rfl rfl rfl rfl ?_
  refine Sq.off rfl rfl rfl rfl rfl rfl ?_
  refine Sq.off rfl rfl rfl rfl rfl rfl ?_
  refine Sq.off rfl rfl rfl rfl rfl rfl ?_
  refine Sq.off rfl rfl rfl rfl rfl rfl ?_
  refine Sq.pickF .plain rfl rfl rfl ?_
  refine Sq.assign .plain rfl rfl ?_
  refine Sq.nil ?_
  refine Eq.next ?_
  refine Cq.ret ?_
  refine Eq.ret1 rfl rfl ?_
  exact ⟨by simp [cmp2, hva], E⟩
end Go.Proofs.Ytdejmfkpohgamaa
set_option linter.unusedSimpArgs false
set_option linter.unusedVariables false
namespace Go.Proofs.Ytdejmfkpohgamaa
open Go.RowKit
set_option maxRecDepth 100000 in
theorem l1Place_c (al x : Int) (h : 0 ≤ al ∧ al ≤ 63) (hx : 0 ≤ x ∧ x ≤ 6) (w0 : World) : Ret Try.prog 92 #[Value.int .i64 al, Value.int .i64 x] w0 (fun v w => v = .int .i64 (place al x : Nat) ∧ w0 = w) := by
  refine Ret.of (args := [Value.int .i64 al, Value.int .i64 x]) Try.func92 rfl rfl rfl ?_
  rintro _ rfl
  show Cq _ _ _ _ [(0, Value.int .i64 al), (1, Value.int .i64 x)] _
  refine Cq.seq ?_
  refine Cq.region ?_
  refine Sq.assign .plain rfl rfl ?_
  refine Sq.nil ?_
  refine Eq.next ?_
  refine Cq.seq ?_
  refine Cq.region ?_
  refine Sq.assign .plain rfl rfl ?_
  refine Sq.nil ?_
  refine Eq.next ?_
  refine Cq.seq ?_
  refine Cq.seq ?_
  refine Cq.region ?_
  refine Sq.assign .plain rfl rfl ?_
  refine Sq.nil ?_
  refine Eq.next ?_
  refine Cq.block ?_
  refine Cq.loop (fun nn w ls => ∃ (k : Int), ∃ (n : Int), ls = [(0, Value.int .i64 al), (1, Value.int .i64 x), (5, Value.int .i64 n), (6, Value.int .i64 k)] ∧ w0 = w ∧ (0 ≤ k ∧ k ≤ x) ∧ (n = ((lettersTo al k.toNat).length : Nat) ∧ n ≤ k) ∧ nn = (x - k).toNat) _ _ ⟨0, 0, rfl, rfl, by omega, ⟨rfl, by omega⟩, rfl⟩ (.cons rfl (.cons rfl (.cons rfl (.cons rfl (.nil))))) ?_
  rintro n1 w ls ⟨k, n, rfl, rfl, hk, hn, rfl⟩
  refine Cq.seq ?_
  refine Cq.seq ?_
  refine Cq.region ?_
  refine Sq.move .plain rfl rfl ?_
  refine Sq.move .plain rfl rfl ?_
  refine Sq.lss .plain rfl rfl rfl ?_
  refine Sq.part (fun c1 => ?_) (fun c1 => ?_)
  · refine Sq.nil ?_
    refine Eq.next ?_
    refine Cq.thn rfl ?_
    refine Cq.skip ?_
    refine Eq.next ?_
    refine Cq.seq ?_
    refine Cq.block ?_
    refine Cq.seq ?_
    refine Cq.region ?_
    refine Sq.move .plain rfl rfl ?_
    refine Sq.move .plain rfl rfl ?_
    refine Sq.call fn91 .plain rfl rfl (l1Has_c _ _ (by omega) (by omega) _) ?_
    rintro _ _ ⟨rfl, rfl⟩
    refine Sq.partB (fun hb => ?_) (fun hb => ?_)
    · refine Sq.nil ?_
      refine Eq.next ?_
      refine Cq.thn rfl ?_
      refine Cq.region ?_
      refine Sq.move .plain rfl rfl ?_
      refine Sq.add .plain rfl rfl rfl (by omega) ?_
      refine Sq.assign .plain rfl rfl ?_
      refine Sq.nil ?_
      refine Eq.end ?_
      refine Eq.next ?_
      refine Cq.region ?_
      refine Sq.move .plain rfl rfl ?_
      refine Sq.add .plain rfl rfl rfl (by omega) ?_
      refine Sq.assign .plain rfl rfl ?_
      refine Sq.nil ?_
      have e1 := toNat_succ hk.1
      have hb' : hs al (k.toNat : Int) = true := by rw [Int.toNat_of_nonneg hk.1]; exact hb
      refine Eq.round _ _ ⟨k + 1, _, rfl, rfl, by omega, ⟨by rw [e1, lettersTo_T hb', List.length_append, hn.1]; rfl, by omega⟩, rfl⟩ (by omega) (.cons rfl (.cons rfl (.cons rfl (.cons rfl (.nil)))))
    refine Sq.nil ?_
    refine Eq.next ?_
    refine Cq.els rfl ?_
    refine Cq.skip ?_
    refine Eq.end ?_
    refine Eq.next ?_
    refine Cq.region ?_
    refine Sq.move .plain rfl rfl ?_
    refine Sq.add .plain rfl rfl rfl (by omega) ?_
    refine Sq.assign .plain rfl rfl ?_
    refine Sq.nil ?_
    have e1 := toNat_succ hk.1
    have hb' : hs al (k.toNat : Int) = false := by rw [Int.toNat_of_nonneg hk.1]; exact hb
    refine Eq.round _ _ ⟨k + 1, _, rfl, rfl, by omega, ⟨by rw [e1, lettersTo_F hb']; exact hn.1, by omega⟩, rfl⟩ (by omega) (.cons rfl (.cons rfl (.cons rfl (.cons rfl (.nil)))))
  refine Sq.nil ?_
  refine Eq.next ?_
  refine Cq.els rfl ?_
  refine Cq.exit ?_
  refine Eq.past ?_
  refine Eq.past ?_
  refine Eq.hit ?_
  refine Eq.next ?_
  refine Cq.seq ?_
  refine Cq.region ?_
  refine Sq.move .plain rfl rfl ?_
  refine Sq.assign .plain rfl rfl ?_
  refine Sq.nil ?_
  refine Eq.next ?_
  refine Cq.ret ?_
  refine Eq.ret1 rfl rfl ?_
  obtain rfl : k = x := by omega
  exact ⟨by rw [hn.1]; rfl, rfl⟩
set_option maxRecDepth 100000 in
theorem l3Go_c (w0 : World) (a : A) (nx ac : Value) (hnx : Rows w0 56 3 nx a.next) (hac : Bools w0 4 ac a.acc) (hv : validA a = true) (q x : Int) (hq : 0 ≤ q ∧ q < a.next.length) (hx : 0 ≤ x ∧ x < 6) : Ret Try.prog 54 #[Value.agg #[Value.int .i64 a.al, nx, ac], Value.int .i64 q, Value.int .i64 x] w0 (fun v w => v = .int .i64 (goA a q x) ∧ Ext w0 w) := by
  have E := Ext.refl w0
  have hal := (validA_spec.1 hv).1
  refine Ret.of (args := [Value.agg #[Value.int .i64 a.al, nx, ac], Value.int .i64 q, Value.int .i64 x]) Try.func54 rfl rfl rfl ?_
  rintro _ rfl
  show Cq _ _ _ _ [(0, Value.agg #[Value.int .i64 a.al, nx, ac]), (1, Value.int .i64 q), (2, Value.int .i64 x)] _
  refine Cq.seq ?_
  refine Cq.region ?_
  refine Sq.box .plain rfl rfl (fun b1 w2 e3 hB4 hlo5 => ?_)
  have hd6 := Nat.le_trans (Below.size E) hlo5
  have hs7 := Below.size e3
  replace E := E.trans e3
  refine Sq.assign .plain rfl rfl ?_
  refine Sq.nil ?_
  refine Eq.next ?_
  refine Cq.seq ?_
  refine Cq.seq ?_
  refine Cq.region ?_
  refine Sq.fieldAddr fld26_0 .plain rfl rfl ?_
  refine Sq.loadB one3 .plain rfl rfl hB4 rfl ?_
  refine Sq.move .plain rfl rfl ?_
  refine Sq.call fn91 .plain rfl rfl (l1Has_c _ _ (by omega) (by omega) _) ?_
  rintro _ _ ⟨rfl, rfl⟩
  refine Sq.partB (fun hh => ?_) (fun hh => ?_)
  · refine Sq.notT .plain rfl rfl ?_
    refine Sq.nil ?_
    refine Eq.next ?_
    refine Cq.els rfl ?_
    refine Cq.skip ?_
    refine Eq.next ?_
    refine Cq.seq ?_
    refine Cq.drawS 11 (fun w' => Blk w' b1 26 [Value.int .i64 a.al, nx, ac] ∧ Ext w0 w') mixed (⟨hB4, E⟩) (fun w8 e9 hS => ?_)
    clear hS
    have hs10 := Below.size e9
    replace E := E.trans e9
    replace hB4 := hB4.ext e9
    refine Gq.st 0 rfl (by kernel_rfl) rfl .plain rfl (fun _ _ _ h => h) ⟨hB4, E⟩ (fun w' x => Still.fieldAddr fld26_1 rfl) ?_
    refine Gq.st 1 rfl (by kernel_rfl) rfl .plain rfl (fun _ _ _ h => h) ⟨hB4, E⟩ (fun w' x => Still.loadB one23 rfl x.1 rfl) ?_
    refine Gq.st 2 rfl (by kernel_rfl) rfl .plain rfl (fun _ _ _ h => h) ⟨hB4, E⟩ (fun w' x => Still.move rfl) ?_
    obtain ⟨p11, r13, hp12_w8, hr14⟩ := Rows.at hnx (i := q) (by omega) (by omega)
    refine Gq.st 3 rfl (by kernel_rfl) rfl .plain rfl (fun _ _ _ h => h) ⟨hB4, E⟩ (fun w' x => Still.at' sl23 hp12_w8 rfl rfl) ?_
    refine Gq.st 4 rfl (by kernel_rfl) rfl .plain rfl (fun _ _ _ h => h) ⟨hB4, E⟩ (fun w' x => Still.loadA one56 rfl (hp12_w8.ext (x.2)).1) ?_
    refine Gq.st 5 rfl (by kernel_rfl) rfl .plain rfl (fun _ _ _ h => h) ⟨hB4, E⟩ (fun w' x => Still.fieldAddr fld26_0 rfl) ?_
    refine Gq.st 6 rfl (by kernel_rfl) rfl .plain rfl (fun _ _ _ h => h) ⟨hB4, E⟩ (fun w' x => Still.loadB one3 rfl x.1 rfl) ?_
    refine Gq.st 7 rfl (by kernel_rfl) rfl .plain rfl (fun _ _ _ h => h) ⟨hB4, E⟩ (fun w' x => Still.move rfl) ?_
    refine Gq.one 8 rfl (by kernel_rfl) ?_
    refine Sq.call fn92 .plain rfl rfl (l1Place_c a.al x (by omega) (by omega) _) ?_
    rintro _ _ ⟨rfl, rfl⟩
    refine Sq.nil ?_
    refine Eq.goes (fun _ => ⟨hB4, E⟩) ?_
    obtain ⟨p15, hp16_w8⟩ := Ints.at hr14 (i := ((place a.al x : Nat) : Int)) (by omega) (by have := place_lt hal hx hh; rw [valid_row hv (by omega)]; rw [Int.toNat_natCast]; exact this.1)
    refine Gq.st 9 rfl (by kernel_rfl) rfl .plain rfl (fun _ _ _ h => h) ⟨hB4, E⟩ (fun w' x => Still.at' sl56 hp16_w8 rfl rfl) ?_
    refine Gq.st 10 rfl (by kernel_rfl) rfl .plain rfl (fun _ _ _ h => h) ⟨hB4, E⟩ (fun w' x => Still.loadA one3 rfl (hp16_w8.ext (x.2)).1) ?_
    refine Gq.one 11 rfl (by kernel_rfl) ?_
    refine Sq.assign .plain rfl rfl ?_
    refine Sq.nil ?_
    refine Eq.goes (fun h => absurd h (by decide)) ?_
    refine Gq.done (by kernel_rfl) ?_
    refine Eq.next ?_
    refine Cq.ret ?_
    refine Eq.ret1 rfl rfl ?_
    exact ⟨by rw [goA_yes hh]; rfl, E⟩
  refine Sq.notF .plain rfl rfl ?_
  refine Sq.nil ?_
  refine Eq.next ?_
  refine Cq.thn rfl ?_
  refine Cq.seq ?_
  refine Cq.region ?_
  refine Sq.move .plain rfl rfl ?_
  refine Sq.assign .plain rfl rfl ?_
  refine Sq.nil ?_
  refine Eq.next ?_
  refine Cq.ret ?_
  refine Eq.pastRet ?_
  refine Eq.ret1 rfl rfl ?_
  exact ⟨by rw [goA_no hh], E⟩
set_option maxRecDepth 100000 in
theorem tableOf_c (w0 : World) (a : A) (nx ac : Value) (hnx : Rows w0 56 3 nx a.next) (hac : Bools w0 4 ac a.acc) (hv : validA a = true) : Ret Try.prog 48 #[Value.agg #[Value.int .i64 a.al, nx, ac]] w0 (fun v w => (∃ b xs, v = .slice (some ⟨b, 0, none⟩) a.next.length a.next.length ∧ w0.heap.size ≤ b ∧ Blk w b 62 (xs.map (Value.int .i64)) ∧ Tab a xs) ∧ Ext w0 w) := by
  have E := Ext.refl w0
  have hvs := validA_spec.1 hv
  have hvs1 := hvs.1
  have hvs2 := hvs.2.1
  refine Ret.of (args := [Value.agg #[Value.int .i64 a.al, nx, ac]]) Try.func48 rfl rfl rfl ?_
  rintro _ rfl
  show Cq _ _ _ _ [(0, Value.agg #[Value.int .i64 a.al, nx, ac])] _
  refine Cq.seq ?_
  refine Cq.region ?_
  refine Sq.box .plain rfl rfl (fun b1 w2 e3 hB4 hlo5 => ?_)
  have hd6 := Nat.le_trans (Below.size E) hlo5
  have hs7 := Below.size e3
  replace E := E.trans e3
  refine Sq.assign .plain rfl rfl ?_
  refine Sq.nil ?_
  refine Eq.next ?_
  refine Cq.seq ?_
  refine Cq.region ?_
  refine Sq.fieldAddr fld26_1 .plain rfl rfl ?_
  refine Sq.loadB one23 .plain rfl rfl hB4 rfl ?_
  refine Sq.lenRows (hnx.ext E) .plain rfl und23 rfl ?_
  refine Sq.makeK slk57 (mk57).1 (by decide) (mk57).2 .plain rfl rfl rfl rfl (by omega) (fun b8 w9 e10 hlo11 hB12 => ?_)
  have hd13 := Nat.le_trans (Below.size E) hlo11
  have hd14 := Nat.lt_of_lt_of_le hB4.lt hlo11
  have hs15 := Below.size e10
  replace E := E.trans e10
  replace hB4 := hB4.ext e10
  refine Sq.assign .plain rfl rfl ?_
  refine Sq.nil ?_
  refine Eq.next ?_
  refine Cq.seq ?_
  refine Cq.region ?_
  refine Sq.fieldAddr fld26_0 .plain rfl rfl ?_
  refine Sq.loadB one3 .plain rfl rfl hB4 rfl ?_
  have hd20 := hB4.lt
  have hd21 := hB12.lt
  refine Sq.call fn50 .plain rfl rfl (lettersOf_c a.al (by omega) _) ?_
  rintro v16 w17 ⟨hl19, e18⟩
  have hs22 := Below.size E
  have hs23 := Below.size e18
  replace E := E.trans e18
  replace hB4 := hB4.ext e18
  replace hB12 := hB12.ext e18
  refine Sq.assign .plain rfl rfl ?_
  refine Sq.nil ?_
  refine Eq.next ?_
  refine Cq.seq ?_
  refine Cq.seq ?_
  refine Cq.region ?_
  refine Sq.fieldAddr fld26_1 .plain rfl rfl ?_
  refine Sq.loadB one23 .plain rfl rfl hB4 rfl ?_
  refine Sq.lenRows (hnx.ext E) .plain rfl und23 rfl ?_
  refine Sq.move .plain rfl rfl ?_
  refine Sq.nil ?_
  refine Eq.next ?_
  refine Cq.block ?_
  refine Cq.loop (fun nn w ls => ∃ (q : Int), ∃ (xs : List Int), ls = [(3, Value.slice (some ⟨b8, 0, none⟩) a.next.length a.next.length), (4, v16), (18, nx), (19, Value.int .i64 (List.length a.next : Int)), (20, Value.int .i64 q)] ∧ (0 ≤ q ∧ q ≤ a.next.length) ∧ Blk w b8 62 (xs.map (Value.int .i64)) ∧ TabPre a q.toNat 0 xs ∧ Ext w0 w ∧ Own w w9.heap.size 3 v16 ((letters a.al).map (Value.int .i64)) ∧ nn = ((a.next.length : Int) - q).toNat) _ _ ⟨0, _, rfl, by omega, hB12, TabPre.zero a, E, hl19, rfl⟩ (.cons rfl (.cons rfl (.cons rfl (.cons rfl (.cons rfl (.nil)))))) ?_
  rintro nn wl1 ls ⟨q, xs, rfl, hq, hT, ht, E, hl19, rfl⟩
  have hs24 := Below.size E
  have htl := ht.1
  refine Cq.seq ?_
  refine Cq.region ?_
  refine Sq.lss .plain rfl rfl rfl ?_
  refine Sq.part (fun c25 => ?_) (fun c25 => ?_)
  · refine Sq.nil ?_
    refine Eq.next ?_
    refine Cq.seq ?_
    refine Cq.thn rfl ?_
    refine Cq.skip ?_
    refine Eq.next ?_
    refine Cq.seq ?_
    refine Cq.block ?_
    refine Cq.seq ?_
    refine Cq.region ?_
    refine Sq.move .plain rfl rfl ?_
    refine Sq.idxRows sl23 one56 (hnx.ext E) .plain rfl rfl rfl .plain rfl rfl (by omega) (by omega) (fun r26 hr27 => ?_)
    refine Sq.assign .plain rfl rfl ?_
    refine Sq.assign .plain rfl rfl ?_
    refine Sq.nil ?_
    refine Eq.next ?_
    refine Cq.seq ?_
    refine Cq.seq ?_
    refine Cq.region ?_
    refine Sq.move .plain rfl rfl ?_
    refine Sq.nil ?_
    refine Eq.next ?_
    refine Cq.block ?_
    refine Cq.loop (fun nn w ls => ∃ (l : Int), ∃ (xs : List Int), ls = [(3, Value.slice (some ⟨b8, 0, none⟩) a.next.length a.next.length), (4, v16), (5, Value.int .i64 q), (6, r26), (18, nx), (19, Value.int .i64 (List.length a.next : Int)), (20, Value.int .i64 q), (25, Value.int .i64 l)] ∧ (0 ≤ l ∧ l ≤ 6) ∧ Blk w b8 62 (xs.map (Value.int .i64)) ∧ TabPre a q.toNat l.toNat xs ∧ Ext w0 w ∧ Own w w9.heap.size 3 v16 ((letters a.al).map (Value.int .i64)) ∧ Ints w 3 r26 (a.next.getD q.toNat []) ∧ nn = (6 - l).toNat) _ _ ⟨0, _, rfl, by omega, hT, ht, E, hl19, hr27, rfl⟩ (.cons rfl (.cons rfl (.cons rfl (.cons rfl (.cons rfl (.cons rfl (.cons rfl (.cons rfl (.nil))))))))) ?_
    rintro nn wl2 ls ⟨l, xs, rfl, hl, hT, ht, E, hl19, hr27, rfl⟩
    have hs28 := Below.size E
    have htl := ht.1
    refine Cq.seq ?_
    refine Cq.region ?_
    refine Sq.lss .plain rfl rfl rfl ?_
    refine Sq.part (fun c29 => ?_) (fun c29 => ?_)
    · refine Sq.nil ?_
      refine Eq.next ?_
      refine Cq.seq ?_
      refine Cq.thn rfl ?_
      refine Cq.skip ?_
      refine Eq.next ?_
      refine Cq.seq ?_
      refine Cq.block ?_
      refine Cq.seq ?_
      refine Cq.region ?_
      refine Sq.move .plain rfl rfl ?_
      refine Sq.assign .plain rfl rfl ?_
      refine Sq.nil ?_
      refine Eq.next ?_
      refine Cq.region ?_
      refine Sq.move .plain rfl rfl ?_
      refine Sq.move .plain rfl rfl ?_
      refine Sq.move .plain rfl rfl ?_
      refine Sq.move .plain rfl rfl ?_
      refine Sq.val .plain rfl rfl (Still.ixS slk57 rfl rfl (by omega) (by omega)) ?_
      refine Sq.val .plain rfl rfl (Still.ixA ar62 rfl rfl (by omega) (by omega)) ?_
      refine Sq.store one3 .plain rfl rfl rfl hT (by rw [List.length_map]; omega) (fun w30 g31 hB32 => ?_)
      have hs33 := World.grownBy.size g31
      replace E := E.grown g31 (fun k hk => by injection hk with hk; subst hk; omega)
      replace hl19 := hl19.stored g31 hT (by decide)
      replace hr27 := hr27.stored g31 hT (by decide)
      replace hT := hB32
      rw [← List.map_set] at hT
      refine Sq.nil ?_
      refine Eq.end ?_
      refine Eq.next ?_
      refine Cq.region ?_
      refine Sq.add .plain rfl rfl rfl (by omega) ?_
      refine Sq.move .plain rfl rfl ?_
      refine Sq.nil ?_
      have e1 := toNat_succ hl.1
      have e2 := ht.step (by omega) (by omega)
      rw [Int.toNat_of_nonneg hq.1] at e2
      refine Eq.round _ _ ⟨l + 1, _, rfl, by omega, by rw [Nat.zero_add] at hT; exact hT, by rw [e1]; exact e2, E, hl19, hr27, rfl⟩ (by omega) (.cons rfl (.cons rfl (.cons rfl (.cons rfl (.cons rfl (.cons rfl (.cons rfl (.cons rfl (.nil)))))))))
    refine Sq.nil ?_
    refine Eq.next ?_
    refine Cq.seq ?_
    refine Cq.els rfl ?_
    refine Cq.exit ?_
    refine Eq.past ?_
    refine Eq.past ?_
    refine Eq.hit ?_
    refine Eq.next ?_
    refine Cq.seq ?_
    refine Cq.region ?_
    refine Sq.move .plain rfl rfl ?_
    refine Sq.lenInts (Own.row hl19) .plain rfl und56 rfl ?_
    refine Sq.move .plain rfl rfl ?_
    refine Sq.nil ?_
    refine Eq.next ?_
    refine Cq.block ?_
    obtain rfl : l = 6 := by omega
    refine Cq.loop (fun nn w ls => ∃ (k : Int), ∃ (xs : List Int), ls = [(3, Value.slice (some ⟨b8, 0, none⟩) a.next.length a.next.length), (4, v16), (5, Value.int .i64 q), (6, r26), (18, nx), (19, Value.int .i64 (List.length a.next : Int)), (20, Value.int .i64 q), (35, v16), (36, Value.int .i64 ((List.length (letters a.al) : Int))), (37, Value.int .i64 k)] ∧ (0 ≤ k ∧ k ≤ (letters a.al).length) ∧ Blk w b8 62 (xs.map (Value.int .i64)) ∧ TabAt a q.toNat k.toNat xs ∧ Ext w0 w ∧ Own w w9.heap.size 3 v16 ((letters a.al).map (Value.int .i64)) ∧ Ints w 3 r26 (a.next.getD q.toNat []) ∧ nn = ((letters a.al).length - k).toNat) _ _ ⟨0, _, rfl, by omega, hT, ht.at, E, hl19, hr27, rfl⟩ (.cons rfl (.cons rfl (.cons rfl (.cons rfl (.cons rfl (.cons rfl (.cons rfl (.cons rfl (.cons rfl (.cons rfl (.nil))))))))))) ?_
    rintro nn wl3 ls ⟨k, xs, rfl, hk, hT, ht, E, hl19, hr27, rfl⟩
    have hs34 := Below.size E
    have htl := ht.1
    have hlet := letters_len6 a.al
    have hlt := letters_at a.al (k := k.toNat)
    have hvr := valid_row hv (k := q.toNat) (by omega)
    refine Cq.seq ?_
    refine Cq.region ?_
    refine Sq.lss .plain rfl rfl rfl ?_
    refine Sq.part (fun c35 => ?_) (fun c35 => ?_)
    · refine Sq.nil ?_
      refine Eq.next ?_
      refine Cq.seq ?_
      refine Cq.thn rfl ?_
      refine Cq.skip ?_
      refine Eq.next ?_
      refine Cq.seq ?_
      refine Cq.block ?_
      refine Cq.seq ?_
      refine Cq.region ?_
      refine Sq.move .plain rfl rfl ?_
      refine Sq.idxInts sl56 one3 (Own.row hl19) .plain rfl rfl rfl .plain rfl rfl (by omega) (by omega) ?_
      refine Sq.assign .plain rfl rfl ?_
      refine Sq.assign .plain rfl rfl ?_
      refine Sq.nil ?_
      refine Eq.next ?_
      obtain ⟨pA, hpA⟩ := Ints.at hr27 (i := k) (by omega) (by omega)
      refine Cq.drawS 10 (fun w' => At w' 3 r26 k pA (.int .i64 ((a.next.getD q.toNat []).getD k.toNat 0))) mixed (hpA) (fun w36 e37 hS => ?_)
      clear hS
      have hs38 := Below.size e37
      replace E := E.trans e37
      replace hl19 := hl19.ext e37
      replace hr27 := hr27.ext e37
      replace hT := hT.ext e37
      replace hpA := hpA.ext e37
      refine Gq.st 0 rfl (by kernel_rfl) rfl .plain rfl (fun _ _ _ h => h) hpA (fun w' x => Still.move rfl) ?_
      refine Gq.st 1 rfl (by kernel_rfl) rfl .plain rfl (fun _ _ _ h => h) hpA (fun w' x => Still.move rfl) ?_
      refine Gq.st 2 rfl (by kernel_rfl) rfl .plain rfl (fun _ _ _ h => h) hpA (fun w' x => Still.move rfl) ?_
      refine Gq.st 3 rfl (by kernel_rfl) rfl .plain rfl (fun _ _ _ h => h) hpA (fun w' x => Still.move rfl) ?_
      refine Gq.st 4 rfl (by kernel_rfl) rfl .plain rfl (fun _ _ _ h => h) hpA (fun w' x => Still.move rfl) ?_
      refine Gq.st 5 rfl (by kernel_rfl) rfl .plain rfl (fun _ _ _ h => h) hpA (fun w' x => Still.at' sl56 hpA rfl rfl) ?_
      refine Gq.st 6 rfl (by kernel_rfl) rfl .plain rfl (fun _ _ _ h => h) hpA (fun w' x => Still.loadA one3 rfl (x).1) ?_
      refine Gq.st 7 rfl (by kernel_rfl) rfl .plain rfl (fun _ _ _ h => h) hpA (fun w' x => Still.ixS slk57 rfl rfl (by omega) (by omega)) ?_
      refine Gq.st 8 rfl (by kernel_rfl) rfl .plain rfl (fun _ _ _ h => h) hpA (fun w' x => Still.ixA ar62 rfl rfl (by have := hlt (by omega); omega) (by have := hlt (by omega); omega)) ?_
      refine Gq.one 9 rfl (by kernel_rfl) ?_
      refine Sq.store one3 .plain rfl rfl rfl hT (by rw [List.length_map]; omega) (fun w39 g40 hB41 => ?_)
      have hs42 := World.grownBy.size g40
      replace E := E.grown g40 (fun k hk => by injection hk with hk; subst hk; omega)
      replace hl19 := hl19.stored g40 hT (by decide)
      replace hr27 := hr27.stored g40 hT (by decide)
      replace hpA := hpA.stored g40 hT (by decide)
      replace hT := hB41
      rw [← List.map_set] at hT
      refine Sq.nil ?_
      refine Eq.goes (fun _ => hpA) ?_
      refine Gq.done (by kernel_rfl) ?_
      refine Eq.end ?_
      refine Eq.next ?_
      refine Cq.region ?_
      refine Sq.add .plain rfl rfl rfl (by omega) ?_
      refine Sq.move .plain rfl rfl ?_
      refine Sq.nil ?_
      have e1 := toNat_succ hk.1
      refine Eq.round _ _ ⟨k + 1, _, rfl, by omega, by rw [Nat.zero_add] at hT; exact hT, by rw [e1]; exact ht.step hvs1 (by omega) (by omega), E, hl19, hr27, rfl⟩ (by omega) (.cons rfl (.cons rfl (.cons rfl (.cons rfl (.cons rfl (.cons rfl (.cons rfl (.cons rfl (.cons rfl (.cons rfl (.nil)))))))))))
    refine Sq.nil ?_
    refine Eq.next ?_
    refine Cq.seq ?_
    refine Cq.els rfl ?_
    refine Cq.exit ?_
    refine Eq.past ?_
    refine Eq.past ?_
    refine Eq.hit ?_
    refine Eq.end ?_
    refine Eq.next ?_
    refine Cq.region ?_
    refine Sq.add .plain rfl rfl rfl (by omega) ?_
    refine Sq.move .plain rfl rfl ?_
    refine Sq.nil ?_
    have e1 := toNat_succ hq.1
    refine Eq.round _ _ ⟨q + 1, _, rfl, by omega, hT, by rw [e1]; exact ht.next hvs1 (by omega) (by omega), E, hl19, rfl⟩ (by omega) (.cons rfl (.cons rfl (.cons rfl (.cons rfl (.cons rfl (.nil))))))
  refine Sq.nil ?_
  refine Eq.next ?_
  refine Cq.seq ?_
  refine Cq.els rfl ?_
  refine Cq.exit ?_
  refine Eq.past ?_
  refine Eq.past ?_
  refine Eq.hit ?_
  refine Eq.next ?_
  refine Cq.seq ?_
  refine Cq.region ?_
  refine Sq.move .plain rfl rfl ?_
  refine Sq.assign .plain rfl rfl ?_
  refine Sq.nil ?_
  refine Eq.next ?_
  refine Cq.ret ?_
  refine Eq.ret1 rfl rfl ?_
  exact ⟨⟨_, xs, rfl, by omega, hT, ht.done (by omega)⟩, E⟩
end Go.Proofs.Ytdejmfkpohgamaa
set_option linter.unusedSimpArgs false
set_option linter.unusedVariables false
namespace Go.Proofs.Ytdejmfkpohgamaa
open Go.RowKit
set_option maxRecDepth 100000 in
theorem numbered_c (w0 : World) (f : Int → Int → Int) (s : Int) (L : List Int) (lv fv : Value) (lim : Int) (D : Int → Prop) (hlim : 1 ≤ lim ∧ lim ≤ 1000) (hx : Ints w0 3 lv L) (hLl : L.length ≤ 100) (hL : ∀ x ∈ L, 0 ≤ x ∧ x < 6) (hD0 : D s) (hD : ∀ q, D q → ∀ x ∈ L, D (f q x)) (hM0 : ∀ i, (bfs f s L i).length ≤ 150) (hclo : Clo Try.prog w0 fv D f) : Ret Try.prog 49 #[Value.int .i64 s, lv, Value.int .i64 lim, fv] w0 (fun v w => (∃ nv xv, v = .tuple #[nv, xv, .bool (decide ((((ord f s L).length : Nat) : Int) ≤ lim))] ∧ Own w w0.heap.size 3 nv ((if (((ord f s L).length : Nat) : Int) ≤ lim then ord f s L else []).map (Value.int .i64)) ∧ OwnRows w w0.heap.size w.heap.size 56 3 xv (if (((ord f s L).length : Nat) : Int) ≤ lim then (ord f s L).map (rowAt f L (ord f s L)) else [])) ∧ Ext w0 w) := by
  have E := Ext.refl w0
  obtain ⟨kf, fnf, cf, hfv, hFn, hcall⟩ := hclo
  refine Ret.of (args := [Value.int .i64 s, lv, Value.int .i64 lim, fv]) Try.func49 rfl rfl rfl ?_
  rintro _ rfl
  show Cq _ _ _ _ [(0, Value.int .i64 s), (1, lv), (2, Value.int .i64 lim), (3, fv)] _
  refine Cq.seq ?_
  refine Cq.region ?_
  refine Sq.assign .plain rfl rfl ?_
  refine Sq.assign .plain rfl rfl ?_
  refine Sq.assign .plain rfl rfl ?_
  refine Sq.nil ?_
  refine Eq.next ?_
  refine Cq.seq ?_
  refine Cq.region ?_
  refine Sq.move .plain rfl rfl ?_
  refine Sq.lit sl56 rfl rfl .plain rfl rfl (one_cons rfl one_nil) (fun b1 w2 e3 hlo4 ho5 _ => ?_)
  have hs6 := Below.size e3
  replace E := E.trans e3
  have hno := ho5 w0.heap.size (by omega)
  refine Sq.assign .plain rfl rfl ?_
  refine Sq.nil ?_
  refine Eq.next ?_
  refine Cq.seq ?_
  refine Cq.region ?_
  refine Sq.makeMap encI .plain rfl (fun mb w7 e8 hM hlo9 => ?_)
  have hs10 := Below.size e8
  replace E := E.trans e8
  replace hno := hno.ext e8
  have hmb : w0.heap.size ≤ mb := by omega
  refine Sq.move .plain rfl rfl ?_
  refine Sq.insert key94 hM .plain rfl (k := s) rfl rfl rfl (by simp) (fun w11 g12 hm13 => ?_)
  have hs14 := World.grownBy.size g12
  replace E := E.mapped g12 (by omega)
  replace hno := hno.mapped hM g12
  replace hM := hm13
  simp only [List.nil_append] at hM
  refine Sq.move .plain rfl rfl ?_
  refine Sq.assign .plain rfl rfl ?_
  refine Sq.nil ?_
  refine Eq.next ?_
  refine Cq.seq ?_
  refine Cq.region ?_
  refine Sq.assign .plain rfl rfl ?_
  refine Sq.nil ?_
  refine Eq.next ?_
  refine Cq.seq ?_
  refine Cq.seq ?_
  refine Cq.region ?_
  refine Sq.assign .plain rfl rfl ?_
  refine Sq.nil ?_
  refine Eq.next ?_
  refine Cq.block ?_
  refine Cq.loop (fun nn w ls => ∃ (i : Int), ∃ (nv : Value), ∃ (xv : Value), ls = [(1, lv), (2, Value.int .i64 lim), (3, fv), (11, nv), (12, Value.map (some mb)), (13, xv), (14, Value.int .i64 i)] ∧ (0 ≤ i ∧ i ≤ (bfs f s L i.toNat).length) ∧ Own w w0.heap.size 3 nv ((bfs f s L i.toNat).map (Value.int .i64)) ∧ MapN encI w mb (bfs f s L i.toNat) ∧ OwnRowsZ w w0.heap.size w.heap.size 56 3 xv (rowsAt f L (bfs f s L i.toNat) i.toNat) nv ∧ (((bfs f s L i.toNat).length : Nat) : Int) ≤ lim ∧ Ext w0 w ∧ nn = (151 - i).toNat) _ _ ⟨0, _, _, rfl, ⟨by omega, by omega⟩, hno, hM, OwnRowsZ.nil _ _ _ _ _ _, by show ((1 : Nat) : Int) ≤ lim; omega, E, rfl⟩ (.cons rfl (.cons rfl (.cons rfl (.cons rfl (.cons rfl (.cons rfl (.cons rfl (.nil)))))))) ?_
  rintro nn wl1 ls ⟨i, nv, xv, rfl, hi, hno, hM, hrs, hlm, E, rfl⟩
  have hs15 := Below.size E
  have hMi := hM0 i.toNat
  have hMi1 := hM0 (i.toNat + 1)
  refine Cq.seq ?_
  refine Cq.seq ?_
  refine Cq.region ?_
  refine Sq.move .plain rfl rfl ?_
  refine Sq.move .plain rfl rfl ?_
  refine Sq.lenInts (Own.row hno) .plain rfl und56 rfl ?_
  refine Sq.lss .plain rfl rfl rfl ?_
  refine Sq.part (fun c16 => ?_) (fun c16 => ?_)
  · refine Sq.nil ?_
    refine Eq.next ?_
    refine Cq.thn rfl ?_
    refine Cq.skip ?_
    refine Eq.next ?_
    refine Cq.seq ?_
    refine Cq.block ?_
    refine Cq.seq ?_
    refine Cq.region ?_
    refine Sq.assign .plain rfl rfl ?_
    refine Sq.nil ?_
    refine Eq.next ?_
    refine Cq.seq ?_
    refine Cq.seq ?_
    refine Cq.region ?_
    refine Sq.move .plain rfl rfl ?_
    refine Sq.lenInts (hx.ext E) .plain rfl und56 rfl ?_
    refine Sq.move .plain rfl rfl ?_
    refine Sq.nil ?_
    refine Eq.next ?_
    refine Cq.block ?_
    obtain ⟨q, hq⟩ : ∃ q, (bfs f s L i.toNat)[i.toNat]? = some q := ⟨_, List.getElem?_eq_getElem (by omega)⟩
    have hDq : D q := bfs_all hD0 hD _ q (List.mem_of_getElem? hq)
    refine Cq.loop (fun nn w ls => ∃ (k : Int), ∃ (nv2 : Value), ∃ (rv : Value), ls = [(1, lv), (2, Value.int .i64 lim), (3, fv), (11, nv2), (12, Value.map (some mb)), (13, xv), (14, Value.int .i64 i), (15, rv), (32, lv), (33, Value.int .i64 (List.length L : Int)), (34, Value.int .i64 k)] ∧ (0 ≤ k ∧ k ≤ L.length) ∧ wl1.heap.size ≤ w.heap.size ∧ Own w w0.heap.size 3 nv2 ((mid f s L i.toNat q k.toNat).map (Value.int .i64)) ∧ MapN encI w mb (mid f s L i.toNat q k.toNat) ∧ Own w wl1.heap.size 3 rv ((rowTo f L (mid f s L i.toNat q k.toNat) q k.toNat).map (Value.int .i64)) ∧ OwnRowsZ w w0.heap.size wl1.heap.size 56 3 xv (rowsAt f L (bfs f s L i.toNat) i.toNat) nv2 ∧ Apart nv2 rv ∧ (((mid f s L i.toNat q k.toNat).length : Nat) : Int) ≤ lim ∧ Ext w0 w ∧ nn = ((L.length : Int) - k).toNat) _ _ ⟨0, _, _, rfl, by omega, by omega, hno, hM, Own.nil _ _ _, hrs, (Apart.nil _).symm, hlm, E, rfl⟩ (.cons rfl (.cons rfl (.cons rfl (.cons rfl (.cons rfl (.cons rfl (.cons rfl (.cons rfl (.cons rfl (.cons rfl (.cons rfl (.nil)))))))))))) ?_
    rintro nn wl2 ls ⟨k, nv2, rv, rfl, hk, hsz, hno, hM, hro, hrs, hap, hlk, E, rfl⟩
    have hs17 := Below.size E
    have hml := (mid_prefix0 (f := f) (s := s) (L := L) i.toNat q k.toNat).length_le
    have hmh := (mid_prefix (f := f) (s := s) (L := L) (k := k.toNat) hq).length_le
    have hmq := mid_at (k := k.toNat) hq
    have hrl : (rowTo f L (mid f s L i.toNat q k.toNat) q k.toNat).length ≤ L.length := by unfold rowTo; rw [List.length_map, List.length_take]; omega
    refine Cq.seq ?_
    refine Cq.region ?_
    refine Sq.lss .plain rfl rfl rfl ?_
    refine Sq.part (fun c18 => ?_) (fun c18 => ?_)
    · refine Sq.nil ?_
      refine Eq.next ?_
      refine Cq.seq ?_
      refine Cq.thn rfl ?_
      refine Cq.skip ?_
      refine Eq.next ?_
      refine Cq.seq ?_
      refine Cq.block ?_
      refine Cq.seq ?_
      refine Cq.region ?_
      refine Sq.idxInts sl56 one3 (hx.ext E) .plain rfl rfl rfl .plain rfl rfl (by omega) (by omega) ?_
      refine Sq.assign .plain rfl rfl ?_
      refine Sq.nil ?_
      refine Eq.next ?_
      refine Cq.seq ?_
      refine Cq.region ?_
      refine Sq.move .plain rfl rfl ?_
      refine Sq.move .plain rfl rfl ?_
      refine Sq.move .plain rfl rfl ?_
      refine Sq.idxInts sl56 one3 (Own.row hno) .plain rfl rfl rfl .plain rfl rfl (by omega) (by omega) ?_
      rw [hmq]
      refine Sq.move .plain rfl rfl ?_
      refine Sq.callC hFn .plain rfl (by rw [← hfv]; rfl) rfl (hcall _ q (L.getD k.toNat 0) E hDq (hL _ (getD_mem (by omega)))) ?_
      rintro _ w19 ⟨rfl, e20⟩
      have hs21 := Below.size e20
      replace E := E.trans e20
      replace hno := hno.ext e20
      replace hM := hM.ext e20
      replace hrs := hrs.ext e20
      replace hro := hro.ext e20
      refine Sq.assign .plain rfl rfl ?_
      refine Sq.nil ?_
      refine Eq.next ?_
      refine Cq.seq ?_
      refine Cq.region ?_
      refine Sq.move .plain rfl rfl ?_
      refine Sq.move .plain rfl rfl ?_
      refine Sq.lookup key94 hM .plain rfl rfl (k := f q (L.getD k.toNat 0)) rfl ?_
      refine Sq.move .plain rfl rfl ?_
      refine Sq.extract .plain rfl rfl rfl ?_
      refine Sq.extract .plain rfl rfl rfl ?_
      refine Sq.assign .plain rfl rfl ?_
      refine Sq.assign .plain rfl rfl ?_
      refine Sq.nil ?_
      refine Eq.next ?_
      refine Cq.seq ?_
      refine Cq.seq ?_
      refine Cq.region ?_
      refine Sq.move .plain rfl rfl ?_
      refine Sq.part (fun hin => ?_) (fun hin => ?_)
      · refine Sq.notT .plain rfl rfl ?_
        refine Sq.nil ?_
        refine Eq.next ?_
        refine Cq.els rfl ?_
        refine Cq.skip ?_
        refine Eq.next ?_
        refine Cq.region ?_
        refine Sq.move .plain rfl rfl ?_
        refine Sq.move .plain rfl rfl ?_
        refine Sq.lit sl56 rfl rfl .plain rfl rfl (one_cons rfl one_nil) (fun b22 w23 e24 hlo25 ho26 hk27 => ?_)
        have hs28 := Below.size e24
        replace E := E.trans e24
        replace hno := hno.ext e24
        replace hM := hM.ext e24
        replace hrs := hrs.ext e24
        replace hro := hro.ext e24
        refine Sq.app1F sl56 hro (one_ints _) (by omega) (by rw [List.length_map]; omega) hk27 rfl .plain rfl rfl rfl (fun v29 w30 ho32 g31 hf33 _ => ?_)
        have hs34 := World.grownBy.size g31
        replace E := E.owned hro g31 (by omega)
        replace hM := hM.owned hro g31
        replace hrs := hrs.apart hro g31 (Nat.le_refl _) (by decide)
        have hap2 := (hap.symm.grow hno hf33).symm
        replace hno := Own.other hno g31 hap.symm
        replace hro := Own.snocI ho32
        replace hap := hap2
        refine Sq.assign .plain rfl rfl ?_
        refine Sq.nil ?_
        refine Eq.end ?_
        refine Eq.next ?_
        refine Cq.region ?_
        refine Sq.add .plain rfl rfl rfl (by omega) ?_
        refine Sq.move .plain rfl rfl ?_
        refine Sq.nil ?_
        have e2 := toNat_succ hk.1
        have e5 := mid_succ (f := f) (s := s) (i := i.toNat) (q := q) (k := k.toNat) (L := L) (by omega)
        have e6 := rowTo_step (f := f) (q := q) (k := k.toNat) (L := L) (by omega) (mid_mem (f := f) (s := s) (i := i.toNat))
        rw [← e5] at e6
        rw [addNode_T hin] at e5
        rw [if_pos hin] at hro
        refine Eq.round _ _ ⟨k + 1, _, _, rfl, by omega, by omega, by rw [e2, e5]; exact hno, by rw [e2, e5]; exact hM, by rw [e2, e6, e5]; exact hro, hrs, hap, by rw [e2, e5]; exact hlk, E, rfl⟩ (by omega) (.cons rfl (.cons rfl (.cons rfl (.cons rfl (.cons rfl (.cons rfl (.cons rfl (.cons rfl (.cons rfl (.cons rfl (.cons rfl (.nil))))))))))))
      refine Sq.notF .plain rfl rfl ?_
      refine Sq.nil ?_
      refine Eq.next ?_
      refine Cq.thn rfl ?_
      refine Cq.seq ?_
      refine Cq.seq ?_
      refine Cq.region ?_
      refine Sq.move .plain rfl rfl ?_
      refine Sq.lenInts (Own.row hno) .plain rfl und56 rfl ?_
      refine Sq.move .plain rfl rfl ?_
      refine Sq.eql .plain rfl rfl rfl ?_
      refine Sq.part (fun hfull => ?_) (fun hfull => ?_)
      · refine Sq.nil ?_
        refine Eq.next ?_
        refine Cq.thn rfl ?_
        refine Cq.seq ?_
        refine Cq.region ?_
        refine Sq.assign .plain rfl rfl ?_
        refine Sq.assign .plain rfl rfl ?_
        refine Sq.assign .plain rfl rfl ?_
        refine Sq.nil ?_
        refine Eq.next ?_
        refine Cq.ret ?_
        refine Eq.pastRet ?_
        refine Eq.pastRet ?_
        refine Eq.outRet ?_
        refine Eq.pastRet ?_
        refine Eq.pastRet ?_
        refine Eq.outRet ?_
        refine Eq.pastRet ?_
        refine Eq.outRet ?_
        refine Eq.pastRet ?_
        refine Eq.pastRet ?_
        refine Eq.outRet ?_
        refine Eq.pastRet ?_
        refine Eq.ret3 rfl rfl rfl rfl ?_
        have e8 := ord_lim hq (by omega) hfull (by omega) hin
        exact ⟨⟨_, _, by rw [decide_eq_false e8], by rw [if_neg e8]; exact Own.nil _ _ _, by rw [if_neg e8]; exact OwnRows.nil _ _ _ _ _⟩, E⟩
      refine Sq.nil ?_
      refine Eq.next ?_
      refine Cq.els rfl ?_
      refine Cq.skip ?_
      refine Eq.next ?_
      refine Cq.seq ?_
      refine Cq.region ?_
      refine Sq.move .plain rfl rfl ?_
      refine Sq.lenInts (Own.row hno) .plain rfl und56 rfl ?_
      refine Sq.assign .plain rfl rfl ?_
      refine Sq.nil ?_
      refine Eq.next ?_
      refine Cq.seq ?_
      refine Cq.region ?_
      refine Sq.move .plain rfl rfl ?_
      refine Sq.move .plain rfl rfl ?_
      refine Sq.move .plain rfl rfl ?_
      refine Sq.mapUpdate key94 hM .plain rfl (k := f q (L.getD k.toNat 0)) rfl rfl rfl hin (fun w35 g36 hm37 => ?_)
      have hs38 := World.grownBy.size g36
      replace E := E.mapped g36 (by omega)
      replace hno := hno.mapped hM g36
      replace hro := hro.mapped hM g36
      replace hrs := hrs.mapped hM g36
      replace hM := hm37
      refine Sq.nil ?_
      refine Eq.next ?_
      refine Cq.region ?_
      refine Sq.move .plain rfl rfl ?_
      refine Sq.move .plain rfl rfl ?_
      refine Sq.lit sl56 rfl rfl .plain rfl rfl (one_cons rfl one_nil) (fun b39 w40 e41 hlo42 ho43 hk44 => ?_)
      have hs45 := Below.size e41
      replace E := E.trans e41
      replace hno := hno.ext e41
      replace hM := hM.ext e41
      replace hrs := hrs.ext e41
      replace hro := hro.ext e41
      refine Sq.app1F sl56 hno (one_ints _) (by omega) (by rw [List.length_map]; omega) hk44 rfl .plain rfl rfl rfl (fun v46 w47 ho49 g48 hf50 _ => ?_)
      have hs51 := World.grownBy.size g48
      replace E := E.owned hno g48 (Nat.le_refl _)
      replace hM := hM.owned hno g48
      replace hrs := hrs.grow hno g48 hf50 (by decide)
      have hap2 := hap.grow hro hf50
      replace hro := Own.other hro g48 hap
      replace hno := Own.snocI ho49
      replace hap := hap2
      refine Sq.assign .plain rfl rfl ?_
      refine Sq.nil ?_
      refine Eq.next ?_
      refine Cq.region ?_
      refine Sq.move .plain rfl rfl ?_
      refine Sq.move .plain rfl rfl ?_
      refine Sq.lit sl56 rfl rfl .plain rfl rfl (one_cons rfl one_nil) (fun b52 w53 e54 hlo55 ho56 hk57 => ?_)
      have hs58 := Below.size e54
      replace E := E.trans e54
      replace hno := hno.ext e54
      replace hM := hM.ext e54
      replace hrs := hrs.ext e54
      replace hro := hro.ext e54
      refine Sq.app1F sl56 hro (one_ints _) (by omega) (by rw [List.length_map]; omega) hk57 rfl .plain rfl rfl rfl (fun v59 w60 ho62 g61 hf63 _ => ?_)
      have hs64 := World.grownBy.size g61
      replace E := E.owned hro g61 (by omega)
      replace hM := hM.owned hro g61
      replace hrs := hrs.apart hro g61 (Nat.le_refl _) (by decide)
      have hap2 := (hap.symm.grow hno hf63).symm
      replace hno := Own.other hno g61 hap.symm
      replace hro := Own.snocI ho62
      replace hap := hap2
      refine Sq.assign .plain rfl rfl ?_
      refine Sq.nil ?_
      refine Eq.end ?_
      refine Eq.next ?_
      refine Cq.region ?_
      refine Sq.add .plain rfl rfl rfl (by omega) ?_
      refine Sq.move .plain rfl rfl ?_
      refine Sq.nil ?_
      have e2 := toNat_succ hk.1
      have e5 := mid_succ (f := f) (s := s) (i := i.toNat) (q := q) (k := k.toNat) (L := L) (by omega)
      have e6 := rowTo_step (f := f) (q := q) (k := k.toNat) (L := L) (by omega) (mid_mem (f := f) (s := s) (i := i.toNat))
      rw [← e5] at e6
      have e7 := idx_new hin
      rw [← e5] at e7
      rw [addNode_F hin] at e5
      refine Eq.round _ _ ⟨k + 1, _, _, rfl, by omega, by omega, by rw [e2, e5]; exact hno, by rw [e2, e5]; exact hM, by rw [e2, e6, e7]; exact hro, hrs, hap, by rw [e2, e5, List.length_append]; simp only [List.length_singleton]; omega, E, rfl⟩ (by omega) (.cons rfl (.cons rfl (.cons rfl (.cons rfl (.cons rfl (.cons rfl (.cons rfl (.cons rfl (.cons rfl (.cons rfl (.cons rfl (.nil))))))))))))
    refine Sq.nil ?_
    refine Eq.next ?_
    refine Cq.seq ?_
    refine Cq.els rfl ?_
    refine Cq.exit ?_
    refine Eq.past ?_
    refine Eq.past ?_
    refine Eq.hit ?_
    refine Eq.next ?_
    refine Cq.region ?_
    refine Sq.move .plain rfl rfl ?_
    refine Sq.move .plain rfl rfl ?_
    obtain ⟨rs, hr1, hr2, hr3⟩ := OwnRowsZ.open hrs (by decide)
    have hx0 := Ext.refl wl2
    refine Sq.lit sl23 rfl rfl .plain rfl rfl (one_cons (Row.one (Own.row hro)) one_nil) (fun b65 w66 e67 hlo68 ho69 _ => ?_)
    have hs74 := Below.size e67
    replace E := E.trans e67
    replace hno := hno.ext e67
    replace hM := hM.ext e67
    replace hro := hro.ext e67
    replace hr1 := hr1.ext e67
    replace hx0 := hx0.trans e67
    refine Sq.app sl23 hr1 (by omega) (Own.row (ho69 _ (Nat.le_refl _))) (one_cons (Row.one (Own.row hro)) one_nil) (by rw [hr2]; have := rowsAt_length (f := f) (L := L) (bfs f s L i.toNat) i.toNat (by omega); simp only [List.length_cons, List.length_nil]; omega) .plain rfl rfl rfl rfl (fun v70 w71 ho73 g72 => ?_)
    have hs75 := World.grownBy.size g72
    have hrs := hr3 _ _ _ _ _ hx0 hro hap (by omega) ho73 g72
    replace E := E.owned hr1 g72 (Nat.le_refl _)
    replace hM := hM.owned hr1 g72
    replace hno := hno.owned hr1 g72 (by decide)
    refine Sq.assign .plain rfl rfl ?_
    refine Sq.nil ?_
    refine Eq.end ?_
    refine Eq.next ?_
    refine Cq.region ?_
    refine Sq.move .plain rfl rfl ?_
    refine Sq.add .plain rfl rfl rfl (by omega) ?_
    refine Sq.assign .plain rfl rfl ?_
    refine Sq.nil ?_
    have e1 := toNat_succ hi.1
    have e3 := mid_done (k := k.toNat) (by omega) hq
    have e4 := (bfs_prefix1 (f := f) (s := s) (L := L) i.toNat).length_le
    refine Eq.round _ _ ⟨i + 1, _, _, rfl, by rw [e1]; omega, by rw [e1, ← e3]; exact hno, by rw [e1, ← e3]; exact hM, by rw [e1, rowsAt_step hq, ← e3, ← rowTo_done (k := k.toNat) (by omega)]; exact hrs, by rw [e1, ← e3]; exact hlk, E, rfl⟩ (by omega) (.cons rfl (.cons rfl (.cons rfl (.cons rfl (.cons rfl (.cons rfl (.cons rfl (.nil))))))))
  refine Sq.nil ?_
  refine Eq.next ?_
  refine Cq.els rfl ?_
  refine Cq.exit ?_
  refine Eq.past ?_
  refine Eq.past ?_
  refine Eq.hit ?_
  refine Eq.next ?_
  refine Cq.seq ?_
  refine Cq.region ?_
  refine Sq.move .plain rfl rfl ?_
  refine Sq.move .plain rfl rfl ?_
  refine Sq.assign .plain rfl rfl ?_
  refine Sq.assign .plain rfl rfl ?_
  refine Sq.assign .plain rfl rfl ?_
  refine Sq.nil ?_
  refine Eq.next ?_
  refine Cq.ret ?_
  refine Eq.ret3 rfl rfl rfl rfl ?_
  obtain ⟨e8, e9⟩ := ord_fin (f := f) (s := s) (L := L) (i := i.toNat) (by omega) (by omega) hlm
  have e10 := rowsAt_fin (f := f) (s := s) (L := L) (i := i.toNat) (by omega) (by omega)
  rw [e10] at hrs
  rw [e8] at hno
  exact ⟨⟨_, _, by rw [decide_eq_true e9], by rw [if_pos e9]; exact hno, by rw [if_pos e9]; exact hrs.to⟩, E⟩
end Go.Proofs.Ytdejmfkpohgamaa
set_option linter.unusedSimpArgs false
set_option linter.unusedVariables false
namespace Go.Proofs.Ytdejmfkpohgamaa
open Go.RowKit
set_option maxRecDepth 100000 in
theorem l4In_c (w0 : World) (xs : List Int) (r : Value) (hr : Ints w0 3 r xs) (n : Int) (hl : xs.length ≤ 1000000) : Ret Try.prog 125 #[r, Value.int .i64 n] w0 (fun v w => v = .bool (decide (n ∈ xs)) ∧ w0 = w) := by
  refine Ret.of (args := [r, Value.int .i64 n]) Try.func125 rfl rfl rfl ?_
  rintro _ rfl
  show Cq _ _ _ _ [(0, r), (1, Value.int .i64 n)] _
  refine Cq.seq ?_
  refine Cq.region ?_
  refine Sq.assign .plain rfl rfl ?_
  refine Sq.nil ?_
  refine Eq.next ?_
  refine Cq.seq ?_
  refine Cq.seq ?_
  refine Cq.region ?_
  refine Sq.assign .plain rfl rfl ?_
  refine Sq.nil ?_
  refine Eq.next ?_
  refine Cq.block ?_
  refine Cq.loop (fun nn w ls => ∃ (k : Int), ls = [(0, r), (1, Value.int .i64 n), (5, Value.int .i64 k)] ∧ w0 = w ∧ (0 ≤ k ∧ k ≤ xs.length) ∧ n ∉ xs.take k.toNat ∧ nn = ((xs.length : Int) - k).toNat) _ _ ⟨0, rfl, rfl, by omega, by simp, rfl⟩ (.cons rfl (.cons rfl (.cons rfl (.nil)))) ?_
  rintro n1 w ls ⟨k, rfl, rfl, hk, hp, rfl⟩
  refine Cq.seq ?_
  refine Cq.seq ?_
  refine Cq.region ?_
  refine Sq.move .plain rfl rfl ?_
  refine Sq.move .plain rfl rfl ?_
  refine Sq.lenInts hr .plain rfl und56 rfl ?_
  refine Sq.lss .plain rfl rfl rfl ?_
  refine Sq.part (fun c1 => ?_) (fun c1 => ?_)
  · refine Sq.nil ?_
    refine Eq.next ?_
    refine Cq.thn rfl ?_
    refine Cq.skip ?_
    refine Eq.next ?_
    refine Cq.seq ?_
    refine Cq.block ?_
    refine Cq.seq ?_
    refine Cq.region ?_
    refine Sq.move .plain rfl rfl ?_
    refine Sq.move .plain rfl rfl ?_
    refine Sq.idxInts sl56 one3 hr .plain rfl rfl rfl .plain rfl rfl (by omega) (by omega) ?_
    refine Sq.move .plain rfl rfl ?_
    refine Sq.eql .plain rfl rfl rfl ?_
    refine Sq.part (fun hne => ?_) (fun hne => ?_)
    · refine Sq.nil ?_
      refine Eq.next ?_
      refine Cq.thn rfl ?_
      refine Cq.seq ?_
      refine Cq.region ?_
      refine Sq.assign .plain rfl rfl ?_
      refine Sq.nil ?_
      refine Eq.next ?_
      refine Cq.ret ?_
      refine Eq.outRet ?_
      refine Eq.pastRet ?_
      refine Eq.pastRet ?_
      refine Eq.outRet ?_
      refine Eq.pastRet ?_
      refine Eq.ret1 rfl rfl ?_
      exact ⟨by rw [decide_eq_true (hne ▸ getD_mem (by omega))], rfl⟩
    refine Sq.nil ?_
    refine Eq.next ?_
    refine Cq.els rfl ?_
    refine Cq.skip ?_
    refine Eq.end ?_
    refine Eq.next ?_
    refine Cq.region ?_
    refine Sq.move .plain rfl rfl ?_
    refine Sq.add .plain rfl rfl rfl (by omega) ?_
    refine Sq.assign .plain rfl rfl ?_
    refine Sq.nil ?_
    have e1 := toNat_succ hk.1
    refine Eq.round _ _ ⟨k + 1, rfl, rfl, by omega, by rw [e1]; exact notin_snoc hp (by omega) hne, rfl⟩ (by omega) (.cons rfl (.cons rfl (.cons rfl (.nil))))
  refine Sq.nil ?_
  refine Eq.next ?_
  refine Cq.els rfl ?_
  refine Cq.exit ?_
  refine Eq.past ?_
  refine Eq.past ?_
  refine Eq.hit ?_
  refine Eq.next ?_
  refine Cq.seq ?_
  refine Cq.region ?_
  refine Sq.assign .plain rfl rfl ?_
  refine Sq.nil ?_
  refine Eq.next ?_
  refine Cq.ret ?_
  refine Eq.ret1 rfl rfl ?_
  exact ⟨by rw [decide_eq_false (notin_done hp (by omega))], rfl⟩
end Go.Proofs.Ytdejmfkpohgamaa
set_option linter.unusedSimpArgs false
set_option linter.unusedVariables false
namespace Go.Proofs.Ytdejmfkpohgamaa
open Go.RowKit
set_option maxRecDepth 100000 in
theorem prod1_c (w0 : World) (q y0 : Int) (a b : A) (bs bn bt b1 b2 : Nat) (xs ys : List Int) (hS : Blk w0 bs 57 [Value.slice (some ⟨b1, 0, none⟩) a.next.length a.next.length]) (hN : Blk w0 bn 3 [Value.int .i64 (List.length b.next : Int)]) (hT : Blk w0 bt 57 [Value.slice (some ⟨b2, 0, none⟩) b.next.length b.next.length]) (h1 : Blk w0 b1 62 (xs.map (Value.int .i64))) (h2 : Blk w0 b2 62 (ys.map (Value.int .i64))) (hTab : Tab a xs) (hTab' : Tab b ys) (hv : validA a = true) (hv' : validA b = true) (hq : InP a b q) (hx : 0 ≤ y0 ∧ y0 < 6) : Ret Try.prog 51 #[Value.int .i64 q, Value.int .i64 y0, Value.pointer (some ⟨bs, 0, none⟩), Value.pointer (some ⟨bn, 0, none⟩), Value.pointer (some ⟨bt, 0, none⟩)] w0 (fun v w => v = .int .i64 (fP a b q y0) ∧ Ext w0 w) := by
  have E := Ext.refl w0
  have hz := zero_in hv'
  have hz2 := (validA_spec.1 hv').2.1
  have hdv : (0 ≤ q / (List.length b.next : Int) ∧ q / (List.length b.next : Int) < (a.next.length : Int)) ∧ 0 ≤ q % (List.length b.next : Int) ∧ q % (List.length b.next : Int) < (List.length b.next : Int) := inP_div hv' hq
  have hmu := fP_mul hv hv' hq hx
  have hg2 : 0 ≤ goA b (q % (List.length b.next : Int)) y0 ∧ goA b (q % (List.length b.next : Int)) y0 < b.next.length := goA_in hv' hdv.2 hx
  have hqb : 0 ≤ q ∧ q ≤ 144 := ⟨hq.1, by have h8 := hq.2; have h9 := le144 hv hv'; omega⟩
  refine Ret.of (args := [Value.int .i64 q, Value.int .i64 y0, Value.pointer (some ⟨bs, 0, none⟩), Value.pointer (some ⟨bn, 0, none⟩), Value.pointer (some ⟨bt, 0, none⟩)]) Try.func51 rfl rfl rfl ?_
  rintro _ rfl
  show Cq _ _ _ _ [(0, Value.int .i64 q), (1, Value.int .i64 y0), (2, Value.pointer (some ⟨bs, 0, none⟩)), (3, Value.pointer (some ⟨bn, 0, none⟩)), (4, Value.pointer (some ⟨bt, 0, none⟩))] _
  refine Cq.seq ?_
  refine Cq.region ?_
  refine Sq.assign .plain rfl rfl ?_
  refine Sq.nil ?_
  refine Eq.next ?_
  refine Cq.seq ?_
  refine Cq.drawS 19 (fun w' => Blk w' bs 57 [Value.slice (some ⟨b1, 0, none⟩) a.next.length a.next.length] ∧ Blk w' bn 3 [Value.int .i64 (List.length b.next : Int)] ∧ Blk w' bt 57 [Value.slice (some ⟨b2, 0, none⟩) b.next.length b.next.length] ∧ Blk w' b1 62 (xs.map (Value.int .i64)) ∧ Blk w' b2 62 (ys.map (Value.int .i64))) mixed (⟨hS, hN, hT, h1, h2⟩) (fun w1 e2 hS => ?_)
  clear hS
  have hs3 := Below.size e2
  replace E := E.trans e2
  replace hS := hS.ext e2
  replace hN := hN.ext e2
  replace hT := hT.ext e2
  replace h1 := h1.ext e2
  replace h2 := h2.ext e2
  refine Gq.st 0 rfl (by kernel_rfl) rfl .plain rfl (fun _ _ _ h => h) ⟨hS, hN, hT, h1, h2⟩ (fun w' x => Still.loadB one57 rfl x.1 rfl) ?_
  refine Gq.st 1 rfl (by kernel_rfl) rfl .plain rfl (fun _ _ _ h => h) ⟨hS, hN, hT, h1, h2⟩ (fun w' x => Still.move rfl) ?_
  refine Gq.st 2 rfl (by kernel_rfl) rfl .plain rfl (fun _ _ _ h => h) ⟨hS, hN, hT, h1, h2⟩ (fun w' x => Still.loadB one3 rfl x.2.1 rfl) ?_
  refine Gq.st 3 rfl (by kernel_rfl) rfl .plain rfl (fun _ _ _ h => h) ⟨hS, hN, hT, h1, h2⟩ (fun w' x => Still.quo rfl rfl (by omega)) ?_
  refine Gq.st 4 rfl (by kernel_rfl) rfl .plain rfl (fun _ _ _ h => h) ⟨hS, hN, hT, h1, h2⟩ (fun w' x => Still.move rfl) ?_
  refine Gq.st 5 rfl (by kernel_rfl) rfl .plain rfl (fun _ _ _ h => h) ⟨hS, hN, hT, h1, h2⟩ (fun w' x => Still.ixS slk57 rfl rfl (by omega) (by omega)) ?_
  refine Gq.st 6 rfl (by kernel_rfl) rfl .plain rfl (fun _ _ _ h => h) ⟨hS, hN, hT, h1, h2⟩ (fun w' x => Still.ixA ar62 rfl rfl (by omega) (by omega)) ?_
  refine Gq.st 7 rfl (by kernel_rfl) rfl .plain rfl (fun _ _ _ h => h) ⟨hS, hN, hT, h1, h2⟩ (fun w' x => Still.loadB one3 rfl x.2.2.2.1 (by rw [Nat.zero_add, List.getElem?_map, hTab.2 (q / (List.length b.next : Int)) y0 (by first | omega | assumption) (by omega)]; rfl)) ?_
  refine Gq.st 8 rfl (by kernel_rfl) rfl .plain rfl (fun _ _ _ h => h) ⟨hS, hN, hT, h1, h2⟩ (fun w' x => Still.loadB one3 rfl x.2.1 rfl) ?_
  refine Gq.st 9 rfl (by kernel_rfl) rfl .plain rfl (fun _ _ _ h => h) ⟨hS, hN, hT, h1, h2⟩ (fun w' x => Still.mul rfl rfl (by omega)) ?_
  refine Gq.st 10 rfl (by kernel_rfl) rfl .plain rfl (fun _ _ _ h => h) ⟨hS, hN, hT, h1, h2⟩ (fun w' x => Still.loadB one57 rfl x.2.2.1 rfl) ?_
  refine Gq.st 11 rfl (by kernel_rfl) rfl .plain rfl (fun _ _ _ h => h) ⟨hS, hN, hT, h1, h2⟩ (fun w' x => Still.move rfl) ?_
  refine Gq.st 12 rfl (by kernel_rfl) rfl .plain rfl (fun _ _ _ h => h) ⟨hS, hN, hT, h1, h2⟩ (fun w' x => Still.loadB one3 rfl x.2.1 rfl) ?_
  refine Gq.st 13 rfl (by kernel_rfl) rfl .plain rfl (fun _ _ _ h => h) ⟨hS, hN, hT, h1, h2⟩ (fun w' x => Still.rem rfl rfl (by omega)) ?_
  refine Gq.st 14 rfl (by kernel_rfl) rfl .plain rfl (fun _ _ _ h => h) ⟨hS, hN, hT, h1, h2⟩ (fun w' x => Still.move rfl) ?_
  refine Gq.st 15 rfl (by kernel_rfl) rfl .plain rfl (fun _ _ _ h => h) ⟨hS, hN, hT, h1, h2⟩ (fun w' x => Still.ixS slk57 rfl rfl (by omega) (by omega)) ?_
  refine Gq.st 16 rfl (by kernel_rfl) rfl .plain rfl (fun _ _ _ h => h) ⟨hS, hN, hT, h1, h2⟩ (fun w' x => Still.ixA ar62 rfl rfl (by omega) (by omega)) ?_
  refine Gq.st 17 rfl (by kernel_rfl) rfl .plain rfl (fun _ _ _ h => h) ⟨hS, hN, hT, h1, h2⟩ (fun w' x => Still.loadB one3 rfl x.2.2.2.2 (by rw [Nat.zero_add, List.getElem?_map, hTab'.2 (q % (List.length b.next : Int)) y0 (by first | omega | assumption) (by omega)]; rfl)) ?_
  refine Gq.st 18 rfl (by kernel_rfl) rfl .plain rfl (fun _ _ _ h => h) ⟨hS, hN, hT, h1, h2⟩ (fun w' x => Still.add rfl rfl (by omega)) ?_
  refine Gq.one 19 rfl (by kernel_rfl) ?_
  refine Sq.assign .plain rfl rfl ?_
  refine Sq.nil ?_
  refine Eq.goes (fun h => absurd h (by decide)) ?_
  refine Gq.done (by kernel_rfl) ?_
  refine Eq.next ?_
  refine Cq.ret ?_
  refine Eq.ret1 rfl rfl ?_
  exact ⟨rfl, E⟩
end Go.Proofs.Ytdejmfkpohgamaa
