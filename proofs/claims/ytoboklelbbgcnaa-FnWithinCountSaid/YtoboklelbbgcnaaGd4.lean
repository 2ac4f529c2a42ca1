/-
  The texts of this proof, joined (wip/merge.py): the calculus of slots, plain mathematics, walks.
-/
import Derived.Test.YtoboklelbbgcnaaGd3
set_option linter.unusedSimpArgs false
set_option linter.unusedVariables false
namespace Go.Proofs.Ytoboklelbbgcnaa
open Go.RowKit
set_option maxHeartbeats 1000000 in
set_option maxRecDepth 100000 in
theorem l4Pair_c (w0 : World) (rb : Nat) (bv : Value) (p : Int) (bs : List UInt8) (e0 : TypeId) (hR : Blk w0 rb 79 [bv, .int .i64 p]) (hb : Src w0 e0 bv bs rb) (hbl : bs.length ≤ 2000) (hp : 0 ≤ p ∧ p ≤ 400000000) : Ret Try.prog 38 #[Value.pointer (some ⟨rb, 0, none⟩)] w0 (fun v w => (∃ p', (p ≤ p' ∧ p' ≤ p + 3000) ∧ Blk w rb 79 [bv, .int .i64 p'] ∧ w0.grownBy w (some rb)) ∧ ∃ (u u' : Value) (a b : A), v = .tuple #[u, u'] ∧ RowsA w u a ∧ RowsA w u' b ∧ Small 400 a ∧ Small 400 b) := by
  have G := World.grownBy.refl w0 (some rb)
  have hlt := hR.lt
  refine Ret.of (args := [Value.pointer (some ⟨rb, 0, none⟩)]) Try.func38 rfl rfl rfl ?_
  rintro _ rfl
  show Cq _ _ _ _ [(0, Value.pointer (some ⟨rb, 0, none⟩))] _
  refine Cq.seq ?_
  refine Cq.region ?_
  refine Sq.alloc zero26 .plain rfl (fun b1 w2 e3 hB4 hlo5 => ?_)
  have hd6 := Nat.lt_of_lt_of_le hR.lt hlo5
  have hd7 := Nat.le_trans (World.grownBy.size G) hlo5
  have hs8 := Below.size e3
  replace hR := hR.ext e3
  replace G := grown_trans G (Ext.to_grown e3 _)
  refine Sq.alloc zero26 .plain rfl (fun b9 w10 e11 hB12 hlo13 => ?_)
  have hd14 := Nat.lt_of_lt_of_le hR.lt hlo13
  have hd15 := Nat.le_trans (World.grownBy.size G) hlo13
  have hd16 := Nat.lt_of_lt_of_le hB4.lt hlo13
  have hs17 := Below.size e11
  replace hR := hR.ext e11
  replace G := grown_trans G (Ext.to_grown e11 _)
  replace hB4 := hB4.ext e11
  refine Sq.nil ?_
  refine Eq.next ?_
  refine Cq.seq ?_
  refine Cq.region ?_
  refine Sq.move .plain rfl rfl ?_
  refine Sq.call fn69 .plain rfl rfl (l3Draw_c _ _ _ _ _ _ hR (hb.go G) hbl (by omega) ) ?_
  rintro _ w19 ⟨⟨p20, hp23, hB22, g21⟩, ⟨a24, ⟨nx25, ac26, rfl, hn27, ha28⟩, hv29, hal30⟩⟩
  have hs31 := World.grownBy.size g21
  have hs32 := World.grownBy.size G
  have hs33 := World.grownBy.size g21
  replace G := grown_trans G g21
  replace hB4 := hB4.grown g21 (by intro h; injection h with h; omega)
  replace hB12 := hB12.grown g21 (by intro h; injection h with h; omega)
  replace hR := hB22
  refine Sq.alloc zero26 .plain rfl (fun b34 w35 e36 hB37 hlo38 => ?_)
  have hd39 := Nat.lt_of_lt_of_le hR.lt hlo38
  have hd40 := Nat.le_trans (World.grownBy.size G) hlo38
  have hd41 := Nat.lt_of_lt_of_le hB4.lt hlo38
  have hd42 := Nat.lt_of_lt_of_le hB12.lt hlo38
  have hs43 := Below.size e36
  replace hR := hR.ext e36
  replace G := grown_trans G (Ext.to_grown e36 _)
  replace hB4 := hB4.ext e36
  replace hB12 := hB12.ext e36
  replace hn27 := hn27.ext e36
  replace ha28 := ha28.ext e36
  refine Sq.storeAgg agg26 .plain rfl rfl (one_cons rfl (one_cons (Rows.one hn27) (one_cons (Row.one ha28) one_nil))) hB37 rfl rfl (fun w44 g45 hB46 => ?_)
  have hs47 := World.grownBy.size g45
  replace hR := hR.grown g45 (by intro h; injection h with h; omega)
  replace G := grown_far G g45 (fun k hk => by injection hk with hk; subst hk; omega)
  replace hB4 := hB4.grown g45 (by intro h; injection h with h; omega)
  replace hB12 := hB12.grown g45 (by intro h; injection h with h; omega)
  replace hn27 := hn27.stored g45 hB37 (by decide) (by decide)
  replace ha28 := ha28.stored g45 hB37 (by decide)
  replace hB37 := hB46
  refine Sq.nil ?_
  refine Eq.next ?_
  refine Cq.seq ?_
  refine Cq.region ?_
  refine Sq.move .plain rfl rfl ?_
  refine Sq.move .plain rfl rfl ?_
  refine Sq.loadAgg agg26 .plain rfl rfl hB37 rfl ?_
  refine Sq.call fn49 .plain rfl rfl (l4Change_c _ _ _ _ _ _ hR (hb.go G) hbl (by omega) a24 _ _ hn27 ha28 _ (by omega) hv29) ?_
  rintro _ w49 ⟨⟨p50, hp53, hB52, g51⟩, ⟨a54, ⟨nx55, ac56, rfl, hn57, ha58⟩, hv59⟩⟩
  have hs60 := World.grownBy.size g51
  have hs61 := World.grownBy.size G
  have hs62 := World.grownBy.size g51
  replace G := grown_trans G g51
  replace hB4 := hB4.grown g51 (by intro h; injection h with h; omega)
  replace hB12 := hB12.grown g51 (by intro h; injection h with h; omega)
  replace hn27 := hn27.stored g51 hR (by decide) (by decide)
  replace ha28 := ha28.stored g51 hR (by decide)
  replace hB37 := hB37.grown g51 (by intro h; injection h with h; omega)
  replace hR := hB52
  refine Sq.call fn49 .plain rfl rfl (l4Change_c _ _ _ _ _ _ hR (hb.go G) hbl (by omega) a54 _ _ hn57 ha58 _ (by omega) hv59) ?_
  rintro _ w64 ⟨⟨p65, hp68, hB67, g66⟩, ⟨a69, ⟨nx70, ac71, rfl, hn72, ha73⟩, hv74⟩⟩
  have hs75 := World.grownBy.size g66
  have hs76 := World.grownBy.size G
  have hs77 := World.grownBy.size g66
  replace G := grown_trans G g66
  replace hB4 := hB4.grown g66 (by intro h; injection h with h; omega)
  replace hB12 := hB12.grown g66 (by intro h; injection h with h; omega)
  replace hn27 := hn27.stored g66 hR (by decide) (by decide)
  replace ha28 := ha28.stored g66 hR (by decide)
  replace hB37 := hB37.grown g66 (by intro h; injection h with h; omega)
  replace hR := hB67
  refine Sq.alloc zero26 .plain rfl (fun b78 w79 e80 hB81 hlo82 => ?_)
  have hd83 := Nat.lt_of_lt_of_le hR.lt hlo82
  have hd84 := Nat.le_trans (World.grownBy.size G) hlo82
  have hd85 := Nat.lt_of_lt_of_le hB4.lt hlo82
  have hd86 := Nat.lt_of_lt_of_le hB12.lt hlo82
  have hd87 := Nat.lt_of_lt_of_le hB37.lt hlo82
  have hs88 := Below.size e80
  replace hR := hR.ext e80
  replace G := grown_trans G (Ext.to_grown e80 _)
  replace hB4 := hB4.ext e80
  replace hB12 := hB12.ext e80
  replace hn27 := hn27.ext e80
  replace ha28 := ha28.ext e80
  replace hB37 := hB37.ext e80
  replace hn72 := hn72.ext e80
  replace ha73 := ha73.ext e80
  refine Sq.storeAgg agg26 .plain rfl rfl (one_cons rfl (one_cons (Rows.one hn72) (one_cons (Row.one ha73) one_nil))) hB81 rfl rfl (fun w89 g90 hB91 => ?_)
  have hs92 := World.grownBy.size g90
  replace hR := hR.grown g90 (by intro h; injection h with h; omega)
  replace G := grown_far G g90 (fun k hk => by injection hk with hk; subst hk; omega)
  replace hB4 := hB4.grown g90 (by intro h; injection h with h; omega)
  replace hB12 := hB12.grown g90 (by intro h; injection h with h; omega)
  replace hn27 := hn27.stored g90 hB81 (by decide) (by decide)
  replace ha28 := ha28.stored g90 hB81 (by decide)
  replace hB37 := hB37.grown g90 (by intro h; injection h with h; omega)
  replace hn72 := hn72.stored g90 hB81 (by decide) (by decide)
  replace ha73 := ha73.stored g90 hB81 (by decide)
  replace hB81 := hB91
  refine Sq.nil ?_
  refine Eq.next ?_
  refine Cq.seq ?_
  refine Cq.seq ?_
  refine Cq.region ?_
  refine Sq.move .plain rfl rfl ?_
  refine Sq.call fn48 .plain rfl rfl (pick_c _ _ _ _ _ _ hR (hb.go G) hbl (by omega) 4 (by omega)) ?_
  rintro _ w94 ⟨⟨p95, hp98, hB97, g96⟩, ⟨k99, rfl, hk100⟩⟩
  have hs101 := World.grownBy.size g96
  have hs102 := World.grownBy.size G
  have hs103 := World.grownBy.size g96
  replace G := grown_trans G g96
  replace hB4 := hB4.grown g96 (by intro h; injection h with h; omega)
  replace hB12 := hB12.grown g96 (by intro h; injection h with h; omega)
  replace hn27 := hn27.stored g96 hR (by decide) (by decide)
  replace ha28 := ha28.stored g96 hR (by decide)
  replace hB37 := hB37.grown g96 (by intro h; injection h with h; omega)
  replace hn72 := hn72.stored g96 hR (by decide) (by decide)
  replace ha73 := ha73.stored g96 hR (by decide)
  replace hB81 := hB81.grown g96 (by intro h; injection h with h; omega)
  replace hR := hB97
  refine Sq.nil ?_
  refine Eq.next ?_
  refine Cq.block ?_
  refine Cq.seq ?_
  refine Cq.region ?_
  refine Sq.eql .plain rfl rfl rfl ?_
  refine Sq.part (fun c104 => ?_) (fun c104 => ?_)
  · refine Sq.assign .plain rfl rfl ?_
    refine Sq.nil ?_
    refine Eq.next ?_
    refine Cq.thn rfl ?_
    refine Cq.region ?_
    refine Sq.move .plain rfl rfl ?_
    refine Sq.fieldAddr fld26_0 .plain rfl rfl ?_
    refine Sq.loadB one3 .plain rfl rfl hB37 rfl ?_
    refine Sq.call fn70 .plain rfl rfl (l3Over_c _ _ _ _ _ _ hR (hb.go G) hbl (by omega) a24.al (by omega)) ?_
    rintro _ w106 ⟨⟨p107, hp110, hB109, g108⟩, ⟨a111, ⟨nx112, ac113, rfl, hn114, ha115⟩, hv116, hal117⟩⟩
    have hs118 := World.grownBy.size g108
    have hs119 := World.grownBy.size G
    have hs120 := World.grownBy.size g108
    replace G := grown_trans G g108
    replace hB4 := hB4.grown g108 (by intro h; injection h with h; omega)
    replace hB12 := hB12.grown g108 (by intro h; injection h with h; omega)
    replace hn27 := hn27.stored g108 hR (by decide) (by decide)
    replace ha28 := ha28.stored g108 hR (by decide)
    replace hB37 := hB37.grown g108 (by intro h; injection h with h; omega)
    replace hB81 := hB81.grown g108 (by intro h; injection h with h; omega)
    replace hR := hB109
    refine Sq.storeAgg agg26 .plain rfl rfl (one_cons rfl (one_cons (Rows.one (OwnRows.rows hn114)) (one_cons (Row.one (Own.row ha115)) one_nil))) hB81 rfl rfl (fun w121 g122 hB123 => ?_)
    have hs124 := World.grownBy.size g122
    replace hR := hR.grown g122 (by intro h; injection h with h; omega)
    replace G := grown_far G g122 (fun k hk => by injection hk with hk; subst hk; omega)
    replace hB4 := hB4.grown g122 (by intro h; injection h with h; omega)
    replace hB12 := hB12.grown g122 (by intro h; injection h with h; omega)
    replace hn27 := hn27.stored g122 hB81 (by decide) (by decide)
    replace ha28 := ha28.stored g122 hB81 (by decide)
    replace hB37 := hB37.grown g122 (by intro h; injection h with h; omega)
    replace hn114 := hn114.stored g122 hB81 (by decide) (by decide)
    replace ha115 := ha115.stored g122 hB81 (by decide)
    replace hB81 := hB123
    refine Sq.nil ?_
    refine Eq.end ?_
    refine Eq.next ?_
    refine Cq.seq ?_
    refine Cq.seq ?_
    refine Cq.region ?_
    refine Sq.move .plain rfl rfl ?_
    refine Sq.call fn48 .plain rfl rfl (pick_c _ _ _ _ _ _ hR (hb.go G) hbl (by omega) 20 (by omega)) ?_
    rintro _ w126 ⟨⟨p127, hp130, hB129, g128⟩, ⟨k131, rfl, hk132⟩⟩
    have hs133 := World.grownBy.size g128
    have hs134 := World.grownBy.size G
    have hs135 := World.grownBy.size g128
    replace G := grown_trans G g128
    replace hB4 := hB4.grown g128 (by intro h; injection h with h; omega)
    replace hB12 := hB12.grown g128 (by intro h; injection h with h; omega)
    replace hn27 := hn27.stored g128 hR (by decide) (by decide)
    replace ha28 := ha28.stored g128 hR (by decide)
    replace hB37 := hB37.grown g128 (by intro h; injection h with h; omega)
    replace hB81 := hB81.grown g128 (by intro h; injection h with h; omega)
    replace hn114 := hn114.stored g128 hR (by decide) (by decide)
    replace ha115 := ha115.stored g128 hR (by decide)
    replace hR := hB129
    refine Sq.nil ?_
    refine Eq.next ?_
    refine Cq.block ?_
    refine Cq.seq ?_
    refine Cq.region ?_
    refine Sq.eql .plain rfl rfl rfl ?_
    refine Sq.part (fun c136 => ?_) (fun c136 => ?_)
    · refine Sq.assign .plain rfl rfl ?_
      refine Sq.nil ?_
      refine Eq.next ?_
      refine Cq.thn rfl ?_
      refine Cq.region ?_
      refine Sq.move .plain rfl rfl ?_
      refine Sq.move .plain rfl rfl ?_
      refine Sq.move .plain rfl rfl ?_
      refine Sq.loadAgg agg26 .plain rfl rfl hB37 rfl ?_
      refine Sq.call fn71 .plain rfl rfl (l3Wrong_c _ _ _ _ _ _ hR (hb.go G) hbl (by omega) a24 _ _ hn27 ha28 _ (by omega) hv29) ?_
      rintro _ w138 ⟨⟨p139, hp142, hB141, g140⟩, ⟨a143, ⟨nx144, ac145, rfl, hn146, ha147⟩, hv148⟩⟩
      have hs149 := World.grownBy.size g140
      have hs150 := World.grownBy.size G
      have hs151 := World.grownBy.size g140
      replace G := grown_trans G g140
      replace hB4 := hB4.grown g140 (by intro h; injection h with h; omega)
      replace hB12 := hB12.grown g140 (by intro h; injection h with h; omega)
      replace hB37 := hB37.grown g140 (by intro h; injection h with h; omega)
      replace hB81 := hB81.grown g140 (by intro h; injection h with h; omega)
      replace hn114 := hn114.stored g140 hR (by decide) (by decide)
      replace ha115 := ha115.stored g140 hR (by decide)
      replace hR := hB141
      refine Sq.call fn71 .plain rfl rfl (l3Wrong_c _ _ _ _ _ _ hR (hb.go G) hbl (by omega) a143 _ _ hn146 ha147 _ (by omega) hv148) ?_
      rintro _ w153 ⟨⟨p154, hp157, hB156, g155⟩, ⟨a158, ⟨nx159, ac160, rfl, hn161, ha162⟩, hv163⟩⟩
      have hs164 := World.grownBy.size g155
      have hs165 := World.grownBy.size G
      have hs166 := World.grownBy.size g155
      replace G := grown_trans G g155
      replace hB4 := hB4.grown g155 (by intro h; injection h with h; omega)
      replace hB12 := hB12.grown g155 (by intro h; injection h with h; omega)
      replace hB37 := hB37.grown g155 (by intro h; injection h with h; omega)
      replace hB81 := hB81.grown g155 (by intro h; injection h with h; omega)
      replace hn114 := hn114.stored g155 hR (by decide) (by decide)
      replace ha115 := ha115.stored g155 hR (by decide)
      replace hR := hB156
      refine Sq.call fn71 .plain rfl rfl (l3Wrong_c _ _ _ _ _ _ hR (hb.go G) hbl (by omega) a158 _ _ hn161 ha162 _ (by omega) hv163) ?_
      rintro _ w168 ⟨⟨p169, hp172, hB171, g170⟩, ⟨a173, ⟨nx174, ac175, rfl, hn176, ha177⟩, hv178⟩⟩
      have hs179 := World.grownBy.size g170
      have hs180 := World.grownBy.size G
      have hs181 := World.grownBy.size g170
      replace G := grown_trans G g170
      replace hB4 := hB4.grown g170 (by intro h; injection h with h; omega)
      replace hB12 := hB12.grown g170 (by intro h; injection h with h; omega)
      replace hB37 := hB37.grown g170 (by intro h; injection h with h; omega)
      replace hB81 := hB81.grown g170 (by intro h; injection h with h; omega)
      replace hn114 := hn114.stored g170 hR (by decide) (by decide)
      replace ha115 := ha115.stored g170 hR (by decide)
      replace hR := hB171
      refine Sq.storeAgg agg26 .plain rfl rfl (one_cons rfl (one_cons (Rows.one hn176) (one_cons (Row.one ha177) one_nil))) hB37 rfl rfl (fun w182 g183 hB184 => ?_)
      have hs185 := World.grownBy.size g183
      replace hR := hR.grown g183 (by intro h; injection h with h; omega)
      replace G := grown_far G g183 (fun k hk => by injection hk with hk; subst hk; omega)
      replace hB4 := hB4.grown g183 (by intro h; injection h with h; omega)
      replace hB12 := hB12.grown g183 (by intro h; injection h with h; omega)
      replace hB81 := hB81.grown g183 (by intro h; injection h with h; omega)
      replace hn114 := hn114.stored g183 hB37 (by decide) (by decide)
      replace ha115 := ha115.stored g183 hB37 (by decide)
      replace hn176 := hn176.stored g183 hB37 (by decide) (by decide)
      replace ha177 := ha177.stored g183 hB37 (by decide)
      replace hB37 := hB184
      refine Sq.nil ?_
      refine Eq.end ?_
      refine Eq.next ?_
      refine Cq.seq ?_
      refine Cq.drawS 3 (fun w' => Blk w' b34 26 [Value.int .i64 a173.al, nx174, ac175] ∧ Blk w' b78 26 [Value.int .i64 a111.al, nx112, ac113]) mixed (⟨hB37, hB81⟩) (fun w186 e187 hS => ?_)
      clear hS
      have hs188 := Below.size e187
      replace hR := hR.ext e187
      replace G := grown_trans G (Ext.to_grown e187 _)
      replace hB4 := hB4.ext e187
      replace hB12 := hB12.ext e187
      replace hB37 := hB37.ext e187
      replace hB81 := hB81.ext e187
      replace hn114 := hn114.ext e187
      replace ha115 := ha115.ext e187
      replace hn176 := hn176.ext e187
      replace ha177 := ha177.ext e187
      refine Gq.st 0 rfl (by kernel_rfl) rfl .plain rfl (fun _ _ _ h => h) ⟨hB37, hB81⟩ (fun w' x => Still.loadAgg agg26 rfl x.1 rfl) ?_
      refine Gq.st 1 rfl (by kernel_rfl) rfl .plain rfl (fun _ _ _ h => h) ⟨hB37, hB81⟩ (fun w' x => Still.loadAgg agg26 rfl x.2 rfl) ?_
      refine Gq.one 2 rfl (by kernel_rfl) ?_
      refine Sq.storeAgg agg26 .plain rfl rfl (one_cons rfl (one_cons (Rows.one hn176) (one_cons (Row.one ha177) one_nil))) hB4 rfl rfl (fun w189 g190 hB191 => ?_)
      have hs192 := World.grownBy.size g190
      replace hR := hR.grown g190 (by intro h; injection h with h; omega)
      replace G := grown_far G g190 (fun k hk => by injection hk with hk; subst hk; omega)
      replace hB12 := hB12.grown g190 (by intro h; injection h with h; omega)
      replace hB37 := hB37.grown g190 (by intro h; injection h with h; omega)
      replace hB81 := hB81.grown g190 (by intro h; injection h with h; omega)
      replace hn114 := hn114.stored g190 hB4 (by decide) (by decide)
      replace ha115 := ha115.stored g190 hB4 (by decide)
      replace hn176 := hn176.stored g190 hB4 (by decide) (by decide)
      replace ha177 := ha177.stored g190 hB4 (by decide)
      replace hB4 := hB191
      refine Sq.nil ?_
      refine Eq.goes (fun _ => ⟨hB37, hB81⟩) ?_
      refine Gq.one 3 rfl (by kernel_rfl) ?_
      refine Sq.storeAgg agg26 .plain rfl rfl (one_cons rfl (one_cons (Rows.one (OwnRows.rows hn114)) (one_cons (Row.one (Own.row ha115)) one_nil))) hB12 rfl rfl (fun w193 g194 hB195 => ?_)
      have hs196 := World.grownBy.size g194
      replace hR := hR.grown g194 (by intro h; injection h with h; omega)
      replace G := grown_far G g194 (fun k hk => by injection hk with hk; subst hk; omega)
      replace hB4 := hB4.grown g194 (by intro h; injection h with h; omega)
      replace hn114 := hn114.stored g194 hB12 (by decide) (by decide)
      replace ha115 := ha115.stored g194 hB12 (by decide)
      replace hn176 := hn176.stored g194 hB12 (by decide) (by decide)
      replace ha177 := ha177.stored g194 hB12 (by decide)
      replace hB12 := hB195
      refine Sq.nil ?_
      refine Eq.goes (fun h => absurd h (by decide)) ?_
      refine Gq.done (by kernel_rfl) ?_
      refine Eq.next ?_
      refine Cq.ret ?_
      refine Eq.retCC rfl rfl rfl agg26 agg26 hB4 hB12 rfl rfl ?_
      exact ⟨⟨_, by omega, hR, G⟩, _, _, _, _, rfl, ⟨_, _, rfl, hn176, ha177⟩, ⟨_, _, rfl, (OwnRows.rows hn114), (Own.row ha115)⟩, by first | exact (Small.of hv178).mono (by omega) | exact Small.mono hv178 (by omega) | exact (Small.of hv163).mono (by omega) | exact Small.mono hv163 (by omega) | exact (Small.of hv148).mono (by omega) | exact Small.mono hv148 (by omega) | exact (Small.of hv116).mono (by omega) | exact Small.mono hv116 (by omega) | exact (Small.of hv74).mono (by omega) | exact Small.mono hv74 (by omega) | exact (Small.of hv59).mono (by omega) | exact Small.mono hv59 (by omega) | exact (Small.of hv29).mono (by omega) | exact Small.mono hv29 (by omega), by first | exact (Small.of hv178).mono (by omega) | exact Small.mono hv178 (by omega) | exact (Small.of hv163).mono (by omega) | exact Small.mono hv163 (by omega) | exact (Small.of hv148).mono (by omega) | exact Small.mono hv148 (by omega) | exact (Small.of hv116).mono (by omega) | exact Small.mono hv116 (by omega) | exact (Small.of hv74).mono (by omega) | exact Small.mono hv74 (by omega) | exact (Small.of hv59).mono (by omega) | exact Small.mono hv59 (by omega) | exact (Small.of hv29).mono (by omega) | exact Small.mono hv29 (by omega)⟩
    refine Sq.assign .plain rfl rfl ?_
    refine Sq.nil ?_
    refine Eq.next ?_
    refine Cq.els rfl ?_
    refine Cq.seq ?_
    refine Cq.region ?_
    refine Sq.eql .plain rfl rfl rfl ?_
    refine Sq.part (fun c197 => ?_) (fun c197 => ?_)
    · refine Sq.assign .plain rfl rfl ?_
      refine Sq.nil ?_
      refine Eq.next ?_
      refine Cq.thn rfl ?_
      refine Cq.region ?_
      refine Sq.move .plain rfl rfl ?_
      refine Sq.move .plain rfl rfl ?_
      refine Sq.move .plain rfl rfl ?_
      refine Sq.loadAgg agg26 .plain rfl rfl hB81 rfl ?_
      refine Sq.call fn71 .plain rfl rfl (l3Wrong_c _ _ _ _ _ _ hR (hb.go G) hbl (by omega) a111 _ _ (OwnRows.rows hn114) (Own.row ha115) _ (by omega) (Small.of hv116)) ?_
      rintro _ w199 ⟨⟨p200, hp203, hB202, g201⟩, ⟨a204, ⟨nx205, ac206, rfl, hn207, ha208⟩, hv209⟩⟩
      have hs210 := World.grownBy.size g201
      have hs211 := World.grownBy.size G
      have hs212 := World.grownBy.size g201
      replace G := grown_trans G g201
      replace hB4 := hB4.grown g201 (by intro h; injection h with h; omega)
      replace hB12 := hB12.grown g201 (by intro h; injection h with h; omega)
      replace hn27 := hn27.stored g201 hR (by decide) (by decide)
      replace ha28 := ha28.stored g201 hR (by decide)
      replace hB37 := hB37.grown g201 (by intro h; injection h with h; omega)
      replace hB81 := hB81.grown g201 (by intro h; injection h with h; omega)
      replace hR := hB202
      refine Sq.call fn71 .plain rfl rfl (l3Wrong_c _ _ _ _ _ _ hR (hb.go G) hbl (by omega) a204 _ _ hn207 ha208 _ (by omega) hv209) ?_
      rintro _ w214 ⟨⟨p215, hp218, hB217, g216⟩, ⟨a219, ⟨nx220, ac221, rfl, hn222, ha223⟩, hv224⟩⟩
      have hs225 := World.grownBy.size g216
      have hs226 := World.grownBy.size G
      have hs227 := World.grownBy.size g216
      replace G := grown_trans G g216
      replace hB4 := hB4.grown g216 (by intro h; injection h with h; omega)
      replace hB12 := hB12.grown g216 (by intro h; injection h with h; omega)
      replace hn27 := hn27.stored g216 hR (by decide) (by decide)
      replace ha28 := ha28.stored g216 hR (by decide)
      replace hB37 := hB37.grown g216 (by intro h; injection h with h; omega)
      replace hB81 := hB81.grown g216 (by intro h; injection h with h; omega)
      replace hR := hB217
      refine Sq.call fn71 .plain rfl rfl (l3Wrong_c _ _ _ _ _ _ hR (hb.go G) hbl (by omega) a219 _ _ hn222 ha223 _ (by omega) hv224) ?_
      rintro _ w229 ⟨⟨p230, hp233, hB232, g231⟩, ⟨a234, ⟨nx235, ac236, rfl, hn237, ha238⟩, hv239⟩⟩
      have hs240 := World.grownBy.size g231
      have hs241 := World.grownBy.size G
      have hs242 := World.grownBy.size g231
      replace G := grown_trans G g231
      replace hB4 := hB4.grown g231 (by intro h; injection h with h; omega)
      replace hB12 := hB12.grown g231 (by intro h; injection h with h; omega)
      replace hn27 := hn27.stored g231 hR (by decide) (by decide)
      replace ha28 := ha28.stored g231 hR (by decide)
      replace hB37 := hB37.grown g231 (by intro h; injection h with h; omega)
      replace hB81 := hB81.grown g231 (by intro h; injection h with h; omega)
      replace hR := hB232
      refine Sq.storeAgg agg26 .plain rfl rfl (one_cons rfl (one_cons (Rows.one hn237) (one_cons (Row.one ha238) one_nil))) hB81 rfl rfl (fun w243 g244 hB245 => ?_)
      have hs246 := World.grownBy.size g244
      replace hR := hR.grown g244 (by intro h; injection h with h; omega)
      replace G := grown_far G g244 (fun k hk => by injection hk with hk; subst hk; omega)
      replace hB4 := hB4.grown g244 (by intro h; injection h with h; omega)
      replace hB12 := hB12.grown g244 (by intro h; injection h with h; omega)
      replace hn27 := hn27.stored g244 hB81 (by decide) (by decide)
      replace ha28 := ha28.stored g244 hB81 (by decide)
      replace hB37 := hB37.grown g244 (by intro h; injection h with h; omega)
      replace hn237 := hn237.stored g244 hB81 (by decide) (by decide)
      replace ha238 := ha238.stored g244 hB81 (by decide)
      replace hB81 := hB245
      refine Sq.nil ?_
      refine Eq.end ?_
      refine Eq.next ?_
      refine Cq.seq ?_
      refine Cq.drawS 3 (fun w' => Blk w' b34 26 [Value.int .i64 a24.al, nx25, ac26] ∧ Blk w' b78 26 [Value.int .i64 a234.al, nx235, ac236]) mixed (⟨hB37, hB81⟩) (fun w247 e248 hS => ?_)
      clear hS
      have hs249 := Below.size e248
      replace hR := hR.ext e248
      replace G := grown_trans G (Ext.to_grown e248 _)
      replace hB4 := hB4.ext e248
      replace hB12 := hB12.ext e248
      replace hn27 := hn27.ext e248
      replace ha28 := ha28.ext e248
      replace hB37 := hB37.ext e248
      replace hB81 := hB81.ext e248
      replace hn237 := hn237.ext e248
      replace ha238 := ha238.ext e248
      refine Gq.st 0 rfl (by kernel_rfl) rfl .plain rfl (fun _ _ _ h => h) ⟨hB37, hB81⟩ (fun w' x => Still.loadAgg agg26 rfl x.1 rfl) ?_
      refine Gq.st 1 rfl (by kernel_rfl) rfl .plain rfl (fun _ _ _ h => h) ⟨hB37, hB81⟩ (fun w' x => Still.loadAgg agg26 rfl x.2 rfl) ?_
      refine Gq.one 2 rfl (by kernel_rfl) ?_
      refine Sq.storeAgg agg26 .plain rfl rfl (one_cons rfl (one_cons (Rows.one hn27) (one_cons (Row.one ha28) one_nil))) hB4 rfl rfl (fun w250 g251 hB252 => ?_)
      have hs253 := World.grownBy.size g251
      replace hR := hR.grown g251 (by intro h; injection h with h; omega)
      replace G := grown_far G g251 (fun k hk => by injection hk with hk; subst hk; omega)
      replace hB12 := hB12.grown g251 (by intro h; injection h with h; omega)
      replace hn27 := hn27.stored g251 hB4 (by decide) (by decide)
      replace ha28 := ha28.stored g251 hB4 (by decide)
      replace hB37 := hB37.grown g251 (by intro h; injection h with h; omega)
      replace hB81 := hB81.grown g251 (by intro h; injection h with h; omega)
      replace hn237 := hn237.stored g251 hB4 (by decide) (by decide)
      replace ha238 := ha238.stored g251 hB4 (by decide)
      replace hB4 := hB252
      refine Sq.nil ?_
      refine Eq.goes (fun _ => ⟨hB37, hB81⟩) ?_
      refine Gq.one 3 rfl (by kernel_rfl) ?_
      refine Sq.storeAgg agg26 .plain rfl rfl (one_cons rfl (one_cons (Rows.one hn237) (one_cons (Row.one ha238) one_nil))) hB12 rfl rfl (fun w254 g255 hB256 => ?_)
      have hs257 := World.grownBy.size g255
      replace hR := hR.grown g255 (by intro h; injection h with h; omega)
      replace G := grown_far G g255 (fun k hk => by injection hk with hk; subst hk; omega)
      replace hB4 := hB4.grown g255 (by intro h; injection h with h; omega)
      replace hn27 := hn27.stored g255 hB12 (by decide) (by decide)
      replace ha28 := ha28.stored g255 hB12 (by decide)
      replace hn237 := hn237.stored g255 hB12 (by decide) (by decide)
      replace ha238 := ha238.stored g255 hB12 (by decide)
      replace hB12 := hB256
      refine Sq.nil ?_
      refine Eq.goes (fun h => absurd h (by decide)) ?_
      refine Gq.done (by kernel_rfl) ?_
      refine Eq.next ?_
      refine Cq.ret ?_
      refine Eq.retCC rfl rfl rfl agg26 agg26 hB4 hB12 rfl rfl ?_
      exact ⟨⟨_, by omega, hR, G⟩, _, _, _, _, rfl, ⟨_, _, rfl, hn27, ha28⟩, ⟨_, _, rfl, hn237, ha238⟩, by first | exact (Small.of hv239).mono (by omega) | exact Small.mono hv239 (by omega) | exact (Small.of hv224).mono (by omega) | exact Small.mono hv224 (by omega) | exact (Small.of hv209).mono (by omega) | exact Small.mono hv209 (by omega) | exact (Small.of hv178).mono (by omega) | exact Small.mono hv178 (by omega) | exact (Small.of hv163).mono (by omega) | exact Small.mono hv163 (by omega) | exact (Small.of hv148).mono (by omega) | exact Small.mono hv148 (by omega) | exact (Small.of hv116).mono (by omega) | exact Small.mono hv116 (by omega) | exact (Small.of hv74).mono (by omega) | exact Small.mono hv74 (by omega) | exact (Small.of hv59).mono (by omega) | exact Small.mono hv59 (by omega) | exact (Small.of hv29).mono (by omega) | exact Small.mono hv29 (by omega), by first | exact (Small.of hv239).mono (by omega) | exact Small.mono hv239 (by omega) | exact (Small.of hv224).mono (by omega) | exact Small.mono hv224 (by omega) | exact (Small.of hv209).mono (by omega) | exact Small.mono hv209 (by omega) | exact (Small.of hv178).mono (by omega) | exact Small.mono hv178 (by omega) | exact (Small.of hv163).mono (by omega) | exact Small.mono hv163 (by omega) | exact (Small.of hv148).mono (by omega) | exact Small.mono hv148 (by omega) | exact (Small.of hv116).mono (by omega) | exact Small.mono hv116 (by omega) | exact (Small.of hv74).mono (by omega) | exact Small.mono hv74 (by omega) | exact (Small.of hv59).mono (by omega) | exact Small.mono hv59 (by omega) | exact (Small.of hv29).mono (by omega) | exact Small.mono hv29 (by omega)⟩
    refine Sq.assign .plain rfl rfl ?_
    refine Sq.nil ?_
    refine Eq.next ?_
    refine Cq.els rfl ?_
    refine Cq.seq ?_
    refine Cq.region ?_
    refine Sq.eql .plain rfl rfl rfl ?_
    refine Sq.part (fun c258 => ?_) (fun c258 => ?_)
    · refine Sq.assign .plain rfl rfl ?_
      refine Sq.nil ?_
      refine Eq.next ?_
      refine Cq.thn rfl ?_
      refine Cq.region ?_
      refine Sq.move .plain rfl rfl ?_
      refine Sq.call fn69 .plain rfl rfl (l3Draw_c _ _ _ _ _ _ hR (hb.go G) hbl (by omega) ) ?_
      rintro _ w260 ⟨⟨p261, hp264, hB263, g262⟩, ⟨a265, ⟨nx266, ac267, rfl, hn268, ha269⟩, hv270, hal271⟩⟩
      have hs272 := World.grownBy.size g262
      have hs273 := World.grownBy.size G
      have hs274 := World.grownBy.size g262
      replace G := grown_trans G g262
      replace hB4 := hB4.grown g262 (by intro h; injection h with h; omega)
      replace hB12 := hB12.grown g262 (by intro h; injection h with h; omega)
      replace hn27 := hn27.stored g262 hR (by decide) (by decide)
      replace ha28 := ha28.stored g262 hR (by decide)
      replace hB37 := hB37.grown g262 (by intro h; injection h with h; omega)
      replace hB81 := hB81.grown g262 (by intro h; injection h with h; omega)
      replace hR := hB263
      refine Sq.storeAgg agg26 .plain rfl rfl (one_cons rfl (one_cons (Rows.one hn268) (one_cons (Row.one ha269) one_nil))) hB81 rfl rfl (fun w275 g276 hB277 => ?_)
      have hs278 := World.grownBy.size g276
      replace hR := hR.grown g276 (by intro h; injection h with h; omega)
      replace G := grown_far G g276 (fun k hk => by injection hk with hk; subst hk; omega)
      replace hB4 := hB4.grown g276 (by intro h; injection h with h; omega)
      replace hB12 := hB12.grown g276 (by intro h; injection h with h; omega)
      replace hn27 := hn27.stored g276 hB81 (by decide) (by decide)
      replace ha28 := ha28.stored g276 hB81 (by decide)
      replace hB37 := hB37.grown g276 (by intro h; injection h with h; omega)
      replace hn268 := hn268.stored g276 hB81 (by decide) (by decide)
      replace ha269 := ha269.stored g276 hB81 (by decide)
      replace hB81 := hB277
      refine Sq.nil ?_
      refine Eq.end ?_
      refine Eq.next ?_
      refine Cq.seq ?_
      refine Cq.drawS 3 (fun w' => Blk w' b34 26 [Value.int .i64 a24.al, nx25, ac26] ∧ Blk w' b78 26 [Value.int .i64 a265.al, nx266, ac267]) mixed (⟨hB37, hB81⟩) (fun w279 e280 hS => ?_)
      clear hS
      have hs281 := Below.size e280
      replace hR := hR.ext e280
      replace G := grown_trans G (Ext.to_grown e280 _)
      replace hB4 := hB4.ext e280
      replace hB12 := hB12.ext e280
      replace hn27 := hn27.ext e280
      replace ha28 := ha28.ext e280
      replace hB37 := hB37.ext e280
      replace hB81 := hB81.ext e280
      replace hn268 := hn268.ext e280
      replace ha269 := ha269.ext e280
      refine Gq.st 0 rfl (by kernel_rfl) rfl .plain rfl (fun _ _ _ h => h) ⟨hB37, hB81⟩ (fun w' x => Still.loadAgg agg26 rfl x.1 rfl) ?_
      refine Gq.st 1 rfl (by kernel_rfl) rfl .plain rfl (fun _ _ _ h => h) ⟨hB37, hB81⟩ (fun w' x => Still.loadAgg agg26 rfl x.2 rfl) ?_
      refine Gq.one 2 rfl (by kernel_rfl) ?_
      refine Sq.storeAgg agg26 .plain rfl rfl (one_cons rfl (one_cons (Rows.one hn27) (one_cons (Row.one ha28) one_nil))) hB4 rfl rfl (fun w282 g283 hB284 => ?_)
      have hs285 := World.grownBy.size g283
      replace hR := hR.grown g283 (by intro h; injection h with h; omega)
      replace G := grown_far G g283 (fun k hk => by injection hk with hk; subst hk; omega)
      replace hB12 := hB12.grown g283 (by intro h; injection h with h; omega)
      replace hn27 := hn27.stored g283 hB4 (by decide) (by decide)
      replace ha28 := ha28.stored g283 hB4 (by decide)
      replace hB37 := hB37.grown g283 (by intro h; injection h with h; omega)
      replace hB81 := hB81.grown g283 (by intro h; injection h with h; omega)
      replace hn268 := hn268.stored g283 hB4 (by decide) (by decide)
      replace ha269 := ha269.stored g283 hB4 (by decide)
      replace hB4 := hB284
      refine Sq.nil ?_
      refine Eq.goes (fun _ => ⟨hB37, hB81⟩) ?_
      refine Gq.one 3 rfl (by kernel_rfl) ?_
      refine Sq.storeAgg agg26 .plain rfl rfl (one_cons rfl (one_cons (Rows.one hn268) (one_cons (Row.one ha269) one_nil))) hB12 rfl rfl (fun w286 g287 hB288 => ?_)
      have hs289 := World.grownBy.size g287
      replace hR := hR.grown g287 (by intro h; injection h with h; omega)
      replace G := grown_far G g287 (fun k hk => by injection hk with hk; subst hk; omega)
      replace hB4 := hB4.grown g287 (by intro h; injection h with h; omega)
      replace hn27 := hn27.stored g287 hB12 (by decide) (by decide)
      replace ha28 := ha28.stored g287 hB12 (by decide)
      replace hn268 := hn268.stored g287 hB12 (by decide) (by decide)
      replace ha269 := ha269.stored g287 hB12 (by decide)
      replace hB12 := hB288
      refine Sq.nil ?_
      refine Eq.goes (fun h => absurd h (by decide)) ?_
      refine Gq.done (by kernel_rfl) ?_
      refine Eq.next ?_
      refine Cq.ret ?_
      refine Eq.retCC rfl rfl rfl agg26 agg26 hB4 hB12 rfl rfl ?_
      exact ⟨⟨_, by omega, hR, G⟩, _, _, _, _, rfl, ⟨_, _, rfl, hn27, ha28⟩, ⟨_, _, rfl, hn268, ha269⟩, by first | exact (Small.of hv270).mono (by omega) | exact Small.mono hv270 (by omega) | exact (Small.of hv239).mono (by omega) | exact Small.mono hv239 (by omega) | exact (Small.of hv224).mono (by omega) | exact Small.mono hv224 (by omega) | exact (Small.of hv209).mono (by omega) | exact Small.mono hv209 (by omega) | exact (Small.of hv178).mono (by omega) | exact Small.mono hv178 (by omega) | exact (Small.of hv163).mono (by omega) | exact Small.mono hv163 (by omega) | exact (Small.of hv148).mono (by omega) | exact Small.mono hv148 (by omega) | exact (Small.of hv116).mono (by omega) | exact Small.mono hv116 (by omega) | exact (Small.of hv74).mono (by omega) | exact Small.mono hv74 (by omega) | exact (Small.of hv59).mono (by omega) | exact Small.mono hv59 (by omega) | exact (Small.of hv29).mono (by omega) | exact Small.mono hv29 (by omega), by first | exact (Small.of hv270).mono (by omega) | exact Small.mono hv270 (by omega) | exact (Small.of hv239).mono (by omega) | exact Small.mono hv239 (by omega) | exact (Small.of hv224).mono (by omega) | exact Small.mono hv224 (by omega) | exact (Small.of hv209).mono (by omega) | exact Small.mono hv209 (by omega) | exact (Small.of hv178).mono (by omega) | exact Small.mono hv178 (by omega) | exact (Small.of hv163).mono (by omega) | exact Small.mono hv163 (by omega) | exact (Small.of hv148).mono (by omega) | exact Small.mono hv148 (by omega) | exact (Small.of hv116).mono (by omega) | exact Small.mono hv116 (by omega) | exact (Small.of hv74).mono (by omega) | exact Small.mono hv74 (by omega) | exact (Small.of hv59).mono (by omega) | exact Small.mono hv59 (by omega) | exact (Small.of hv29).mono (by omega) | exact Small.mono hv29 (by omega)⟩
    refine Sq.assign .plain rfl rfl ?_
    refine Sq.nil ?_
    refine Eq.next ?_
    refine Cq.els rfl ?_
    refine Cq.seq ?_
    refine Cq.region ?_
    refine Sq.eql .plain rfl rfl rfl ?_
    refine Sq.part (fun c290 => ?_) (fun c290 => ?_)
    · refine Sq.assign .plain rfl rfl ?_
      refine Sq.nil ?_
      refine Eq.next ?_
      refine Cq.thn rfl ?_
      refine Cq.seq ?_
      refine Cq.region ?_
      refine Sq.move .plain rfl rfl ?_
      refine Sq.call fn72 .plain rfl rfl (l3Big_c _ _ _ _ _ _ hR (hb.go G) hbl (by omega) ) ?_
      rintro _ w292 ⟨⟨p293, hp296, hB295, g294⟩, ⟨a297, ⟨nx298, ac299, rfl, hn300, ha301⟩, hv302⟩⟩
      have hs303 := World.grownBy.size g294
      have hs304 := World.grownBy.size G
      have hs305 := World.grownBy.size g294
      replace G := grown_trans G g294
      replace hB4 := hB4.grown g294 (by intro h; injection h with h; omega)
      replace hB12 := hB12.grown g294 (by intro h; injection h with h; omega)
      replace hB37 := hB37.grown g294 (by intro h; injection h with h; omega)
      replace hB81 := hB81.grown g294 (by intro h; injection h with h; omega)
      replace hR := hB295
      refine Sq.storeAgg agg26 .plain rfl rfl (one_cons rfl (one_cons (Rows.one (OwnRows.rows hn300)) (one_cons (Row.one (Own.row ha301)) one_nil))) hB37 rfl rfl (fun w306 g307 hB308 => ?_)
      have hs309 := World.grownBy.size g307
      replace hR := hR.grown g307 (by intro h; injection h with h; omega)
      replace G := grown_far G g307 (fun k hk => by injection hk with hk; subst hk; omega)
      replace hB4 := hB4.grown g307 (by intro h; injection h with h; omega)
      replace hB12 := hB12.grown g307 (by intro h; injection h with h; omega)
      replace hB81 := hB81.grown g307 (by intro h; injection h with h; omega)
      replace hn300 := hn300.stored g307 hB37 (by decide) (by decide)
      replace ha301 := ha301.stored g307 hB37 (by decide)
      replace hB37 := hB308
      refine Sq.nil ?_
      refine Eq.next ?_
      refine Cq.region ?_
      refine Sq.move .plain rfl rfl ?_
      refine Sq.loadAgg agg26 .plain rfl rfl hB37 rfl ?_
      refine Sq.call fn49 .plain rfl rfl (l4Change_c _ _ _ _ _ _ hR (hb.go G) hbl (by omega) a297 _ _ (OwnRows.rows hn300) (Own.row ha301) _ (by omega) (Small.of hv302)) ?_
      rintro _ w311 ⟨⟨p312, hp315, hB314, g313⟩, ⟨a316, ⟨nx317, ac318, rfl, hn319, ha320⟩, hv321⟩⟩
      have hs322 := World.grownBy.size g313
      have hs323 := World.grownBy.size G
      have hs324 := World.grownBy.size g313
      replace G := grown_trans G g313
      replace hB4 := hB4.grown g313 (by intro h; injection h with h; omega)
      replace hB12 := hB12.grown g313 (by intro h; injection h with h; omega)
      replace hB37 := hB37.grown g313 (by intro h; injection h with h; omega)
      replace hB81 := hB81.grown g313 (by intro h; injection h with h; omega)
      replace hn300 := hn300.stored g313 hR (by decide) (by decide)
      replace ha301 := ha301.stored g313 hR (by decide)
      replace hR := hB314
      refine Sq.storeAgg agg26 .plain rfl rfl (one_cons rfl (one_cons (Rows.one hn319) (one_cons (Row.one ha320) one_nil))) hB81 rfl rfl (fun w325 g326 hB327 => ?_)
      have hs328 := World.grownBy.size g326
      replace hR := hR.grown g326 (by intro h; injection h with h; omega)
      replace G := grown_far G g326 (fun k hk => by injection hk with hk; subst hk; omega)
      replace hB4 := hB4.grown g326 (by intro h; injection h with h; omega)
      replace hB12 := hB12.grown g326 (by intro h; injection h with h; omega)
      replace hB37 := hB37.grown g326 (by intro h; injection h with h; omega)
      replace hn300 := hn300.stored g326 hB81 (by decide) (by decide)
      replace ha301 := ha301.stored g326 hB81 (by decide)
      replace hn319 := hn319.stored g326 hB81 (by decide) (by decide)
      replace ha320 := ha320.stored g326 hB81 (by decide)
      replace hB81 := hB327
      refine Sq.nil ?_
      refine Eq.end ?_
      refine Eq.next ?_
      refine Cq.seq ?_
      refine Cq.drawS 3 (fun w' => Blk w' b34 26 [Value.int .i64 a297.al, nx298, ac299] ∧ Blk w' b78 26 [Value.int .i64 a316.al, nx317, ac318]) mixed (⟨hB37, hB81⟩) (fun w329 e330 hS => ?_)
      clear hS
      have hs331 := Below.size e330
      replace hR := hR.ext e330
      replace G := grown_trans G (Ext.to_grown e330 _)
      replace hB4 := hB4.ext e330
      replace hB12 := hB12.ext e330
      replace hB37 := hB37.ext e330
      replace hB81 := hB81.ext e330
      replace hn300 := hn300.ext e330
      replace ha301 := ha301.ext e330
      replace hn319 := hn319.ext e330
      replace ha320 := ha320.ext e330
      refine Gq.st 0 rfl (by kernel_rfl) rfl .plain rfl (fun _ _ _ h => h) ⟨hB37, hB81⟩ (fun w' x => Still.loadAgg agg26 rfl x.1 rfl) ?_
      refine Gq.st 1 rfl (by kernel_rfl) rfl .plain rfl (fun _ _ _ h => h) ⟨hB37, hB81⟩ (fun w' x => Still.loadAgg agg26 rfl x.2 rfl) ?_
      refine Gq.one 2 rfl (by kernel_rfl) ?_
      refine Sq.storeAgg agg26 .plain rfl rfl (one_cons rfl (one_cons (Rows.one (OwnRows.rows hn300)) (one_cons (Row.one (Own.row ha301)) one_nil))) hB4 rfl rfl (fun w332 g333 hB334 => ?_)
      have hs335 := World.grownBy.size g333
      replace hR := hR.grown g333 (by intro h; injection h with h; omega)
      replace G := grown_far G g333 (fun k hk => by injection hk with hk; subst hk; omega)
      replace hB12 := hB12.grown g333 (by intro h; injection h with h; omega)
      replace hB37 := hB37.grown g333 (by intro h; injection h with h; omega)
      replace hB81 := hB81.grown g333 (by intro h; injection h with h; omega)
      replace hn300 := hn300.stored g333 hB4 (by decide) (by decide)
      replace ha301 := ha301.stored g333 hB4 (by decide)
      replace hn319 := hn319.stored g333 hB4 (by decide) (by decide)
      replace ha320 := ha320.stored g333 hB4 (by decide)
      replace hB4 := hB334
      refine Sq.nil ?_
      refine Eq.goes (fun _ => ⟨hB37, hB81⟩) ?_
      refine Gq.one 3 rfl (by kernel_rfl) ?_
      refine Sq.storeAgg agg26 .plain rfl rfl (one_cons rfl (one_cons (Rows.one hn319) (one_cons (Row.one ha320) one_nil))) hB12 rfl rfl (fun w336 g337 hB338 => ?_)
      have hs339 := World.grownBy.size g337
      replace hR := hR.grown g337 (by intro h; injection h with h; omega)
      replace G := grown_far G g337 (fun k hk => by injection hk with hk; subst hk; omega)
      replace hB4 := hB4.grown g337 (by intro h; injection h with h; omega)
      replace hn300 := hn300.stored g337 hB12 (by decide) (by decide)
      replace ha301 := ha301.stored g337 hB12 (by decide)
      replace hn319 := hn319.stored g337 hB12 (by decide) (by decide)
      replace ha320 := ha320.stored g337 hB12 (by decide)
      replace hB12 := hB338
      refine Sq.nil ?_
      refine Eq.goes (fun h => absurd h (by decide)) ?_
      refine Gq.done (by kernel_rfl) ?_
      refine Eq.next ?_
      refine Cq.ret ?_
      refine Eq.retCC rfl rfl rfl agg26 agg26 hB4 hB12 rfl rfl ?_
      exact ⟨⟨_, by omega, hR, G⟩, _, _, _, _, rfl, ⟨_, _, rfl, (OwnRows.rows hn300), (Own.row ha301)⟩, ⟨_, _, rfl, hn319, ha320⟩, by first | exact (Small.of hv321).mono (by omega) | exact Small.mono hv321 (by omega) | exact (Small.of hv302).mono (by omega) | exact Small.mono hv302 (by omega) | exact (Small.of hv270).mono (by omega) | exact Small.mono hv270 (by omega) | exact (Small.of hv239).mono (by omega) | exact Small.mono hv239 (by omega) | exact (Small.of hv224).mono (by omega) | exact Small.mono hv224 (by omega) | exact (Small.of hv209).mono (by omega) | exact Small.mono hv209 (by omega) | exact (Small.of hv178).mono (by omega) | exact Small.mono hv178 (by omega) | exact (Small.of hv163).mono (by omega) | exact Small.mono hv163 (by omega) | exact (Small.of hv148).mono (by omega) | exact Small.mono hv148 (by omega) | exact (Small.of hv116).mono (by omega) | exact Small.mono hv116 (by omega) | exact (Small.of hv74).mono (by omega) | exact Small.mono hv74 (by omega) | exact (Small.of hv59).mono (by omega) | exact Small.mono hv59 (by omega) | exact (Small.of hv29).mono (by omega) | exact Small.mono hv29 (by omega), by first | exact (Small.of hv321).mono (by omega) | exact Small.mono hv321 (by omega) | exact (Small.of hv302).mono (by omega) | exact Small.mono hv302 (by omega) | exact (Small.of hv270).mono (by omega) | exact Small.mono hv270 (by omega) | exact (Small.of hv239).mono (by omega) | exact Small.mono hv239 (by omega) | exact (Small.of hv224).mono (by omega) | exact Small.mono hv224 (by omega) | exact (Small.of hv209).mono (by omega) | exact Small.mono hv209 (by omega) | exact (Small.of hv178).mono (by omega) | exact Small.mono hv178 (by omega) | exact (Small.of hv163).mono (by omega) | exact Small.mono hv163 (by omega) | exact (Small.of hv148).mono (by omega) | exact Small.mono hv148 (by omega) | exact (Small.of hv116).mono (by omega) | exact Small.mono hv116 (by omega) | exact (Small.of hv74).mono (by omega) | exact Small.mono hv74 (by omega) | exact (Small.of hv59).mono (by omega) | exact Small.mono hv59 (by omega) | exact (Small.of hv29).mono (by omega) | exact Small.mono hv29 (by omega)⟩
    refine Sq.assign .plain rfl rfl ?_
    refine Sq.nil ?_
    refine Eq.next ?_
    refine Cq.els rfl ?_
    refine Cq.skip ?_
    refine Eq.end ?_
    refine Eq.next ?_
    refine Cq.seq ?_
    refine Cq.drawS 3 (fun w' => Blk w' b34 26 [Value.int .i64 a24.al, nx25, ac26] ∧ Blk w' b78 26 [Value.int .i64 a111.al, nx112, ac113]) mixed (⟨hB37, hB81⟩) (fun w340 e341 hS => ?_)
    clear hS
    have hs342 := Below.size e341
    replace hR := hR.ext e341
    replace G := grown_trans G (Ext.to_grown e341 _)
    replace hB4 := hB4.ext e341
    replace hB12 := hB12.ext e341
    replace hn27 := hn27.ext e341
    replace ha28 := ha28.ext e341
    replace hB37 := hB37.ext e341
    replace hB81 := hB81.ext e341
    replace hn114 := hn114.ext e341
    replace ha115 := ha115.ext e341
    refine Gq.st 0 rfl (by kernel_rfl) rfl .plain rfl (fun _ _ _ h => h) ⟨hB37, hB81⟩ (fun w' x => Still.loadAgg agg26 rfl x.1 rfl) ?_
    refine Gq.st 1 rfl (by kernel_rfl) rfl .plain rfl (fun _ _ _ h => h) ⟨hB37, hB81⟩ (fun w' x => Still.loadAgg agg26 rfl x.2 rfl) ?_
    refine Gq.one 2 rfl (by kernel_rfl) ?_
    refine Sq.storeAgg agg26 .plain rfl rfl (one_cons rfl (one_cons (Rows.one hn27) (one_cons (Row.one ha28) one_nil))) hB4 rfl rfl (fun w343 g344 hB345 => ?_)
    have hs346 := World.grownBy.size g344
    replace hR := hR.grown g344 (by intro h; injection h with h; omega)
    replace G := grown_far G g344 (fun k hk => by injection hk with hk; subst hk; omega)
    replace hB12 := hB12.grown g344 (by intro h; injection h with h; omega)
    replace hn27 := hn27.stored g344 hB4 (by decide) (by decide)
    replace ha28 := ha28.stored g344 hB4 (by decide)
    replace hB37 := hB37.grown g344 (by intro h; injection h with h; omega)
    replace hB81 := hB81.grown g344 (by intro h; injection h with h; omega)
    replace hn114 := hn114.stored g344 hB4 (by decide) (by decide)
    replace ha115 := ha115.stored g344 hB4 (by decide)
    replace hB4 := hB345
    refine Sq.nil ?_
    refine Eq.goes (fun _ => ⟨hB37, hB81⟩) ?_
    refine Gq.one 3 rfl (by kernel_rfl) ?_
    refine Sq.storeAgg agg26 .plain rfl rfl (one_cons rfl (one_cons (Rows.one (OwnRows.rows hn114)) (one_cons (Row.one (Own.row ha115)) one_nil))) hB12 rfl rfl (fun w347 g348 hB349 => ?_)
    have hs350 := World.grownBy.size g348
    replace hR := hR.grown g348 (by intro h; injection h with h; omega)
    replace G := grown_far G g348 (fun k hk => by injection hk with hk; subst hk; omega)
    replace hB4 := hB4.grown g348 (by intro h; injection h with h; omega)
    replace hn27 := hn27.stored g348 hB12 (by decide) (by decide)
    replace ha28 := ha28.stored g348 hB12 (by decide)
    replace hn114 := hn114.stored g348 hB12 (by decide) (by decide)
    replace ha115 := ha115.stored g348 hB12 (by decide)
    replace hB12 := hB349
    refine Sq.nil ?_
    refine Eq.goes (fun h => absurd h (by decide)) ?_
    refine Gq.done (by kernel_rfl) ?_
    refine Eq.next ?_
    refine Cq.ret ?_
    refine Eq.retCC rfl rfl rfl agg26 agg26 hB4 hB12 rfl rfl ?_
    exact ⟨⟨_, by omega, hR, G⟩, _, _, _, _, rfl, ⟨_, _, rfl, hn27, ha28⟩, ⟨_, _, rfl, (OwnRows.rows hn114), (Own.row ha115)⟩, by first | exact (Small.of hv321).mono (by omega) | exact Small.mono hv321 (by omega) | exact (Small.of hv302).mono (by omega) | exact Small.mono hv302 (by omega) | exact (Small.of hv270).mono (by omega) | exact Small.mono hv270 (by omega) | exact (Small.of hv239).mono (by omega) | exact Small.mono hv239 (by omega) | exact (Small.of hv224).mono (by omega) | exact Small.mono hv224 (by omega) | exact (Small.of hv209).mono (by omega) | exact Small.mono hv209 (by omega) | exact (Small.of hv178).mono (by omega) | exact Small.mono hv178 (by omega) | exact (Small.of hv163).mono (by omega) | exact Small.mono hv163 (by omega) | exact (Small.of hv148).mono (by omega) | exact Small.mono hv148 (by omega) | exact (Small.of hv116).mono (by omega) | exact Small.mono hv116 (by omega) | exact (Small.of hv74).mono (by omega) | exact Small.mono hv74 (by omega) | exact (Small.of hv59).mono (by omega) | exact Small.mono hv59 (by omega) | exact (Small.of hv29).mono (by omega) | exact Small.mono hv29 (by omega), by first | exact (Small.of hv321).mono (by omega) | exact Small.mono hv321 (by omega) | exact (Small.of hv302).mono (by omega) | exact Small.mono hv302 (by omega) | exact (Small.of hv270).mono (by omega) | exact Small.mono hv270 (by omega) | exact (Small.of hv239).mono (by omega) | exact Small.mono hv239 (by omega) | exact (Small.of hv224).mono (by omega) | exact Small.mono hv224 (by omega) | exact (Small.of hv209).mono (by omega) | exact Small.mono hv209 (by omega) | exact (Small.of hv178).mono (by omega) | exact Small.mono hv178 (by omega) | exact (Small.of hv163).mono (by omega) | exact Small.mono hv163 (by omega) | exact (Small.of hv148).mono (by omega) | exact Small.mono hv148 (by omega) | exact (Small.of hv116).mono (by omega) | exact Small.mono hv116 (by omega) | exact (Small.of hv74).mono (by omega) | exact Small.mono hv74 (by omega) | exact (Small.of hv59).mono (by omega) | exact Small.mono hv59 (by omega) | exact (Small.of hv29).mono (by omega) | exact Small.mono hv29 (by omega)⟩
  refine Sq.assign .plain rfl rfl ?_
  refine Sq.nil ?_
  refine Eq.next ?_
  refine Cq.els rfl ?_
  refine Cq.seq ?_
  refine Cq.region ?_
  refine Sq.eql .plain rfl rfl rfl ?_
  refine Sq.part (fun c351 => ?_) (fun c351 => ?_)
  · refine Sq.assign .plain rfl rfl ?_
    refine Sq.nil ?_
    refine Eq.next ?_
    refine Cq.thn rfl ?_
    refine Cq.region ?_
    refine Sq.move .plain rfl rfl ?_
    refine Sq.loadAgg agg26 .plain rfl rfl hB37 rfl ?_
    refine Sq.call fn49 .plain rfl rfl (l4Change_c _ _ _ _ _ _ hR (hb.go G) hbl (by omega) a24 _ _ hn27 ha28 _ (by omega) hv29) ?_
    rintro _ w353 ⟨⟨p354, hp357, hB356, g355⟩, ⟨a358, ⟨nx359, ac360, rfl, hn361, ha362⟩, hv363⟩⟩
    have hs364 := World.grownBy.size g355
    have hs365 := World.grownBy.size G
    have hs366 := World.grownBy.size g355
    replace G := grown_trans G g355
    replace hB4 := hB4.grown g355 (by intro h; injection h with h; omega)
    replace hB12 := hB12.grown g355 (by intro h; injection h with h; omega)
    replace hn27 := hn27.stored g355 hR (by decide) (by decide)
    replace ha28 := ha28.stored g355 hR (by decide)
    replace hB37 := hB37.grown g355 (by intro h; injection h with h; omega)
    replace hB81 := hB81.grown g355 (by intro h; injection h with h; omega)
    replace hR := hB356
    refine Sq.storeAgg agg26 .plain rfl rfl (one_cons rfl (one_cons (Rows.one hn361) (one_cons (Row.one ha362) one_nil))) hB81 rfl rfl (fun w367 g368 hB369 => ?_)
    have hs370 := World.grownBy.size g368
    replace hR := hR.grown g368 (by intro h; injection h with h; omega)
    replace G := grown_far G g368 (fun k hk => by injection hk with hk; subst hk; omega)
    replace hB4 := hB4.grown g368 (by intro h; injection h with h; omega)
    replace hB12 := hB12.grown g368 (by intro h; injection h with h; omega)
    replace hn27 := hn27.stored g368 hB81 (by decide) (by decide)
    replace ha28 := ha28.stored g368 hB81 (by decide)
    replace hB37 := hB37.grown g368 (by intro h; injection h with h; omega)
    replace hn361 := hn361.stored g368 hB81 (by decide) (by decide)
    replace ha362 := ha362.stored g368 hB81 (by decide)
    replace hB81 := hB369
    refine Sq.nil ?_
    refine Eq.end ?_
    refine Eq.next ?_
    refine Cq.seq ?_
    refine Cq.seq ?_
    refine Cq.region ?_
    refine Sq.move .plain rfl rfl ?_
    refine Sq.call fn48 .plain rfl rfl (pick_c _ _ _ _ _ _ hR (hb.go G) hbl (by omega) 20 (by omega)) ?_
    rintro _ w372 ⟨⟨p373, hp376, hB375, g374⟩, ⟨k377, rfl, hk378⟩⟩
    have hs379 := World.grownBy.size g374
    have hs380 := World.grownBy.size G
    have hs381 := World.grownBy.size g374
    replace G := grown_trans G g374
    replace hB4 := hB4.grown g374 (by intro h; injection h with h; omega)
    replace hB12 := hB12.grown g374 (by intro h; injection h with h; omega)
    replace hn27 := hn27.stored g374 hR (by decide) (by decide)
    replace ha28 := ha28.stored g374 hR (by decide)
    replace hB37 := hB37.grown g374 (by intro h; injection h with h; omega)
    replace hB81 := hB81.grown g374 (by intro h; injection h with h; omega)
    replace hn361 := hn361.stored g374 hR (by decide) (by decide)
    replace ha362 := ha362.stored g374 hR (by decide)
    replace hR := hB375
    refine Sq.nil ?_
    refine Eq.next ?_
    refine Cq.block ?_
    refine Cq.seq ?_
    refine Cq.region ?_
    refine Sq.eql .plain rfl rfl rfl ?_
    refine Sq.part (fun c382 => ?_) (fun c382 => ?_)
    · refine Sq.assign .plain rfl rfl ?_
      refine Sq.nil ?_
      refine Eq.next ?_
      refine Cq.thn rfl ?_
      refine Cq.region ?_
      refine Sq.move .plain rfl rfl ?_
      refine Sq.move .plain rfl rfl ?_
      refine Sq.move .plain rfl rfl ?_
      refine Sq.loadAgg agg26 .plain rfl rfl hB37 rfl ?_
      refine Sq.call fn71 .plain rfl rfl (l3Wrong_c _ _ _ _ _ _ hR (hb.go G) hbl (by omega) a24 _ _ hn27 ha28 _ (by omega) hv29) ?_
      rintro _ w384 ⟨⟨p385, hp388, hB387, g386⟩, ⟨a389, ⟨nx390, ac391, rfl, hn392, ha393⟩, hv394⟩⟩
      have hs395 := World.grownBy.size g386
      have hs396 := World.grownBy.size G
      have hs397 := World.grownBy.size g386
      replace G := grown_trans G g386
      replace hB4 := hB4.grown g386 (by intro h; injection h with h; omega)
      replace hB12 := hB12.grown g386 (by intro h; injection h with h; omega)
      replace hB37 := hB37.grown g386 (by intro h; injection h with h; omega)
      replace hB81 := hB81.grown g386 (by intro h; injection h with h; omega)
      replace hn361 := hn361.stored g386 hR (by decide) (by decide)
      replace ha362 := ha362.stored g386 hR (by decide)
      replace hR := hB387
      refine Sq.call fn71 .plain rfl rfl (l3Wrong_c _ _ _ _ _ _ hR (hb.go G) hbl (by omega) a389 _ _ hn392 ha393 _ (by omega) hv394) ?_
      rintro _ w399 ⟨⟨p400, hp403, hB402, g401⟩, ⟨a404, ⟨nx405, ac406, rfl, hn407, ha408⟩, hv409⟩⟩
      have hs410 := World.grownBy.size g401
      have hs411 := World.grownBy.size G
      have hs412 := World.grownBy.size g401
      replace G := grown_trans G g401
      replace hB4 := hB4.grown g401 (by intro h; injection h with h; omega)
      replace hB12 := hB12.grown g401 (by intro h; injection h with h; omega)
      replace hB37 := hB37.grown g401 (by intro h; injection h with h; omega)
      replace hB81 := hB81.grown g401 (by intro h; injection h with h; omega)
      replace hn361 := hn361.stored g401 hR (by decide) (by decide)
      replace ha362 := ha362.stored g401 hR (by decide)
      replace hR := hB402
      refine Sq.call fn71 .plain rfl rfl (l3Wrong_c _ _ _ _ _ _ hR (hb.go G) hbl (by omega) a404 _ _ hn407 ha408 _ (by omega) hv409) ?_
      rintro _ w414 ⟨⟨p415, hp418, hB417, g416⟩, ⟨a419, ⟨nx420, ac421, rfl, hn422, ha423⟩, hv424⟩⟩
      have hs425 := World.grownBy.size g416
      have hs426 := World.grownBy.size G
      have hs427 := World.grownBy.size g416
      replace G := grown_trans G g416
      replace hB4 := hB4.grown g416 (by intro h; injection h with h; omega)
      replace hB12 := hB12.grown g416 (by intro h; injection h with h; omega)
      replace hB37 := hB37.grown g416 (by intro h; injection h with h; omega)
      replace hB81 := hB81.grown g416 (by intro h; injection h with h; omega)
      replace hn361 := hn361.stored g416 hR (by decide) (by decide)
      replace ha362 := ha362.stored g416 hR (by decide)
      replace hR := hB417
      refine Sq.storeAgg agg26 .plain rfl rfl (one_cons rfl (one_cons (Rows.one hn422) (one_cons (Row.one ha423) one_nil))) hB37 rfl rfl (fun w428 g429 hB430 => ?_)
      have hs431 := World.grownBy.size g429
      replace hR := hR.grown g429 (by intro h; injection h with h; omega)
      replace G := grown_far G g429 (fun k hk => by injection hk with hk; subst hk; omega)
      replace hB4 := hB4.grown g429 (by intro h; injection h with h; omega)
      replace hB12 := hB12.grown g429 (by intro h; injection h with h; omega)
      replace hB81 := hB81.grown g429 (by intro h; injection h with h; omega)
      replace hn361 := hn361.stored g429 hB37 (by decide) (by decide)
      replace ha362 := ha362.stored g429 hB37 (by decide)
      replace hn422 := hn422.stored g429 hB37 (by decide) (by decide)
      replace ha423 := ha423.stored g429 hB37 (by decide)
      replace hB37 := hB430
      refine Sq.nil ?_
      refine Eq.end ?_
      refine Eq.next ?_
      refine Cq.seq ?_
      refine Cq.drawS 3 (fun w' => Blk w' b34 26 [Value.int .i64 a419.al, nx420, ac421] ∧ Blk w' b78 26 [Value.int .i64 a358.al, nx359, ac360]) mixed (⟨hB37, hB81⟩) (fun w432 e433 hS => ?_)
      clear hS
      have hs434 := Below.size e433
      replace hR := hR.ext e433
      replace G := grown_trans G (Ext.to_grown e433 _)
      replace hB4 := hB4.ext e433
      replace hB12 := hB12.ext e433
      replace hB37 := hB37.ext e433
      replace hB81 := hB81.ext e433
      replace hn361 := hn361.ext e433
      replace ha362 := ha362.ext e433
      replace hn422 := hn422.ext e433
      replace ha423 := ha423.ext e433
      refine Gq.st 0 rfl (by kernel_rfl) rfl .plain rfl (fun _ _ _ h => h) ⟨hB37, hB81⟩ (fun w' x => Still.loadAgg agg26 rfl x.1 rfl) ?_
      refine Gq.st 1 rfl (by kernel_rfl) rfl .plain rfl (fun _ _ _ h => h) ⟨hB37, hB81⟩ (fun w' x => Still.loadAgg agg26 rfl x.2 rfl) ?_
      refine Gq.one 2 rfl (by kernel_rfl) ?_
      refine Sq.storeAgg agg26 .plain rfl rfl (one_cons rfl (one_cons (Rows.one hn422) (one_cons (Row.one ha423) one_nil))) hB4 rfl rfl (fun w435 g436 hB437 => ?_)
      have hs438 := World.grownBy.size g436
      replace hR := hR.grown g436 (by intro h; injection h with h; omega)
      replace G := grown_far G g436 (fun k hk => by injection hk with hk; subst hk; omega)
      replace hB12 := hB12.grown g436 (by intro h; injection h with h; omega)
      replace hB37 := hB37.grown g436 (by intro h; injection h with h; omega)
      replace hB81 := hB81.grown g436 (by intro h; injection h with h; omega)
      replace hn361 := hn361.stored g436 hB4 (by decide) (by decide)
      replace ha362 := ha362.stored g436 hB4 (by decide)
      replace hn422 := hn422.stored g436 hB4 (by decide) (by decide)
      replace ha423 := ha423.stored g436 hB4 (by decide)
      replace hB4 := hB437
      refine Sq.nil ?_
      refine Eq.goes (fun _ => ⟨hB37, hB81⟩) ?_
      refine Gq.one 3 rfl (by kernel_rfl) ?_
      refine Sq.storeAgg agg26 .plain rfl rfl (one_cons rfl (one_cons (Rows.one hn361) (one_cons (Row.one ha362) one_nil))) hB12 rfl rfl (fun w439 g440 hB441 => ?_)
      have hs442 := World.grownBy.size g440
      replace hR := hR.grown g440 (by intro h; injection h with h; omega)
      replace G := grown_far G g440 (fun k hk => by injection hk with hk; subst hk; omega)
      replace hB4 := hB4.grown g440 (by intro h; injection h with h; omega)
      replace hn361 := hn361.stored g440 hB12 (by decide) (by decide)
      replace ha362 := ha362.stored g440 hB12 (by decide)
      replace hn422 := hn422.stored g440 hB12 (by decide) (by decide)
      replace ha423 := ha423.stored g440 hB12 (by decide)
      replace hB12 := hB441
      refine Sq.nil ?_
      refine Eq.goes (fun h => absurd h (by decide)) ?_
      refine Gq.done (by kernel_rfl) ?_
      refine Eq.next ?_
      refine Cq.ret ?_
      refine Eq.retCC rfl rfl rfl agg26 agg26 hB4 hB12 rfl rfl ?_
      exact ⟨⟨_, by omega, hR, G⟩, _, _, _, _, rfl, ⟨_, _, rfl, hn422, ha423⟩, ⟨_, _, rfl, hn361, ha362⟩, by first | exact (Small.of hv424).mono (by omega) | exact Small.mono hv424 (by omega) | exact (Small.of hv409).mono (by omega) | exact Small.mono hv409 (by omega) | exact (Small.of hv394).mono (by omega) | exact Small.mono hv394 (by omega) | exact (Small.of hv363).mono (by omega) | exact Small.mono hv363 (by omega) | exact (Small.of hv321).mono (by omega) | exact Small.mono hv321 (by omega) | exact (Small.of hv302).mono (by omega) | exact Small.mono hv302 (by omega) | exact (Small.of hv270).mono (by omega) | exact Small.mono hv270 (by omega) | exact (Small.of hv239).mono (by omega) | exact Small.mono hv239 (by omega) | exact (Small.of hv224).mono (by omega) | exact Small.mono hv224 (by omega) | exact (Small.of hv209).mono (by omega) | exact Small.mono hv209 (by omega) | exact (Small.of hv178).mono (by omega) | exact Small.mono hv178 (by omega) | exact (Small.of hv163).mono (by omega) | exact Small.mono hv163 (by omega) | exact (Small.of hv148).mono (by omega) | exact Small.mono hv148 (by omega) | exact (Small.of hv116).mono (by omega) | exact Small.mono hv116 (by omega) | exact (Small.of hv74).mono (by omega) | exact Small.mono hv74 (by omega) | exact (Small.of hv59).mono (by omega) | exact Small.mono hv59 (by omega) | exact (Small.of hv29).mono (by omega) | exact Small.mono hv29 (by omega), by first | exact (Small.of hv424).mono (by omega) | exact Small.mono hv424 (by omega) | exact (Small.of hv409).mono (by omega) | exact Small.mono hv409 (by omega) | exact (Small.of hv394).mono (by omega) | exact Small.mono hv394 (by omega) | exact (Small.of hv363).mono (by omega) | exact Small.mono hv363 (by omega) | exact (Small.of hv321).mono (by omega) | exact Small.mono hv321 (by omega) | exact (Small.of hv302).mono (by omega) | exact Small.mono hv302 (by omega) | exact (Small.of hv270).mono (by omega) | exact Small.mono hv270 (by omega) | exact (Small.of hv239).mono (by omega) | exact Small.mono hv239 (by omega) | exact (Small.of hv224).mono (by omega) | exact Small.mono hv224 (by omega) | exact (Small.of hv209).mono (by omega) | exact Small.mono hv209 (by omega) | exact (Small.of hv178).mono (by omega) | exact Small.mono hv178 (by omega) | exact (Small.of hv163).mono (by omega) | exact Small.mono hv163 (by omega) | exact (Small.of hv148).mono (by omega) | exact Small.mono hv148 (by omega) | exact (Small.of hv116).mono (by omega) | exact Small.mono hv116 (by omega) | exact (Small.of hv74).mono (by omega) | exact Small.mono hv74 (by omega) | exact (Small.of hv59).mono (by omega) | exact Small.mono hv59 (by omega) | exact (Small.of hv29).mono (by omega) | exact Small.mono hv29 (by omega)⟩
    refine Sq.assign .plain rfl rfl ?_
    refine Sq.nil ?_
    refine Eq.next ?_
    refine Cq.els rfl ?_
    refine Cq.seq ?_
    refine Cq.region ?_
    refine Sq.eql .plain rfl rfl rfl ?_
    refine Sq.part (fun c443 => ?_) (fun c443 => ?_)
    · refine Sq.assign .plain rfl rfl ?_
      refine Sq.nil ?_
      refine Eq.next ?_
      refine Cq.thn rfl ?_
      refine Cq.region ?_
      refine Sq.move .plain rfl rfl ?_
      refine Sq.move .plain rfl rfl ?_
      refine Sq.move .plain rfl rfl ?_
      refine Sq.loadAgg agg26 .plain rfl rfl hB81 rfl ?_
      refine Sq.call fn71 .plain rfl rfl (l3Wrong_c _ _ _ _ _ _ hR (hb.go G) hbl (by omega) a358 _ _ hn361 ha362 _ (by omega) hv363) ?_
      rintro _ w445 ⟨⟨p446, hp449, hB448, g447⟩, ⟨a450, ⟨nx451, ac452, rfl, hn453, ha454⟩, hv455⟩⟩
      have hs456 := World.grownBy.size g447
      have hs457 := World.grownBy.size G
      have hs458 := World.grownBy.size g447
      replace G := grown_trans G g447
      replace hB4 := hB4.grown g447 (by intro h; injection h with h; omega)
      replace hB12 := hB12.grown g447 (by intro h; injection h with h; omega)
      replace hn27 := hn27.stored g447 hR (by decide) (by decide)
      replace ha28 := ha28.stored g447 hR (by decide)
      replace hB37 := hB37.grown g447 (by intro h; injection h with h; omega)
      replace hB81 := hB81.grown g447 (by intro h; injection h with h; omega)
      replace hR := hB448
      refine Sq.call fn71 .plain rfl rfl (l3Wrong_c _ _ _ _ _ _ hR (hb.go G) hbl (by omega) a450 _ _ hn453 ha454 _ (by omega) hv455) ?_
      rintro _ w460 ⟨⟨p461, hp464, hB463, g462⟩, ⟨a465, ⟨nx466, ac467, rfl, hn468, ha469⟩, hv470⟩⟩
      have hs471 := World.grownBy.size g462
      have hs472 := World.grownBy.size G
      have hs473 := World.grownBy.size g462
      replace G := grown_trans G g462
      replace hB4 := hB4.grown g462 (by intro h; injection h with h; omega)
      replace hB12 := hB12.grown g462 (by intro h; injection h with h; omega)
      replace hn27 := hn27.stored g462 hR (by decide) (by decide)
      replace ha28 := ha28.stored g462 hR (by decide)
      replace hB37 := hB37.grown g462 (by intro h; injection h with h; omega)
      replace hB81 := hB81.grown g462 (by intro h; injection h with h; omega)
      replace hR := hB463
      refine Sq.call fn71 .plain rfl rfl (l3Wrong_c _ _ _ _ _ _ hR (hb.go G) hbl (by omega) a465 _ _ hn468 ha469 _ (by omega) hv470) ?_
      rintro _ w475 ⟨⟨p476, hp479, hB478, g477⟩, ⟨a480, ⟨nx481, ac482, rfl, hn483, ha484⟩, hv485⟩⟩
      have hs486 := World.grownBy.size g477
      have hs487 := World.grownBy.size G
      have hs488 := World.grownBy.size g477
      replace G := grown_trans G g477
      replace hB4 := hB4.grown g477 (by intro h; injection h with h; omega)
      replace hB12 := hB12.grown g477 (by intro h; injection h with h; omega)
      replace hn27 := hn27.stored g477 hR (by decide) (by decide)
      replace ha28 := ha28.stored g477 hR (by decide)
      replace hB37 := hB37.grown g477 (by intro h; injection h with h; omega)
      replace hB81 := hB81.grown g477 (by intro h; injection h with h; omega)
      replace hR := hB478
      refine Sq.storeAgg agg26 .plain rfl rfl (one_cons rfl (one_cons (Rows.one hn483) (one_cons (Row.one ha484) one_nil))) hB81 rfl rfl (fun w489 g490 hB491 => ?_)
      have hs492 := World.grownBy.size g490
      replace hR := hR.grown g490 (by intro h; injection h with h; omega)
      replace G := grown_far G g490 (fun k hk => by injection hk with hk; subst hk; omega)
      replace hB4 := hB4.grown g490 (by intro h; injection h with h; omega)
      replace hB12 := hB12.grown g490 (by intro h; injection h with h; omega)
      replace hn27 := hn27.stored g490 hB81 (by decide) (by decide)
      replace ha28 := ha28.stored g490 hB81 (by decide)
      replace hB37 := hB37.grown g490 (by intro h; injection h with h; omega)
      replace hn483 := hn483.stored g490 hB81 (by decide) (by decide)
      replace ha484 := ha484.stored g490 hB81 (by decide)
      replace hB81 := hB491
      refine Sq.nil ?_
      refine Eq.end ?_
      refine Eq.next ?_
      refine Cq.seq ?_
      refine Cq.drawS 3 (fun w' => Blk w' b34 26 [Value.int .i64 a24.al, nx25, ac26] ∧ Blk w' b78 26 [Value.int .i64 a480.al, nx481, ac482]) mixed (⟨hB37, hB81⟩) (fun w493 e494 hS => ?_)
      clear hS
      have hs495 := Below.size e494
      replace hR := hR.ext e494
      replace G := grown_trans G (Ext.to_grown e494 _)
      replace hB4 := hB4.ext e494
      replace hB12 := hB12.ext e494
      replace hn27 := hn27.ext e494
      replace ha28 := ha28.ext e494
      replace hB37 := hB37.ext e494
      replace hB81 := hB81.ext e494
      replace hn483 := hn483.ext e494
      replace ha484 := ha484.ext e494
      refine Gq.st 0 rfl (by kernel_rfl) rfl .plain rfl (fun _ _ _ h => h) ⟨hB37, hB81⟩ (fun w' x => Still.loadAgg agg26 rfl x.1 rfl) ?_
      refine Gq.st 1 rfl (by kernel_rfl) rfl .plain rfl (fun _ _ _ h => h) ⟨hB37, hB81⟩ (fun w' x => Still.loadAgg agg26 rfl x.2 rfl) ?_
      refine Gq.one 2 rfl (by kernel_rfl) ?_
      refine Sq.storeAgg agg26 .plain rfl rfl (one_cons rfl (one_cons (Rows.one hn27) (one_cons (Row.one ha28) one_nil))) hB4 rfl rfl (fun w496 g497 hB498 => ?_)
      have hs499 := World.grownBy.size g497
      replace hR := hR.grown g497 (by intro h; injection h with h; omega)
      replace G := grown_far G g497 (fun k hk => by injection hk with hk; subst hk; omega)
      replace hB12 := hB12.grown g497 (by intro h; injection h with h; omega)
      replace hn27 := hn27.stored g497 hB4 (by decide) (by decide)
      replace ha28 := ha28.stored g497 hB4 (by decide)
      replace hB37 := hB37.grown g497 (by intro h; injection h with h; omega)
      replace hB81 := hB81.grown g497 (by intro h; injection h with h; omega)
      replace hn483 := hn483.stored g497 hB4 (by decide) (by decide)
      replace ha484 := ha484.stored g497 hB4 (by decide)
      replace hB4 := hB498
      refine Sq.nil ?_
      refine Eq.goes (fun _ => ⟨hB37, hB81⟩) ?_
      refine Gq.one 3 rfl (by kernel_rfl) ?_
      refine Sq.storeAgg agg26 .plain rfl rfl (one_cons rfl (one_cons (Rows.one hn483) (one_cons (Row.one ha484) one_nil))) hB12 rfl rfl (fun w500 g501 hB502 => ?_)
      have hs503 := World.grownBy.size g501
      replace hR := hR.grown g501 (by intro h; injection h with h; omega)
      replace G := grown_far G g501 (fun k hk => by injection hk with hk; subst hk; omega)
      replace hB4 := hB4.grown g501 (by intro h; injection h with h; omega)
      replace hn27 := hn27.stored g501 hB12 (by decide) (by decide)
      replace ha28 := ha28.stored g501 hB12 (by decide)
      replace hn483 := hn483.stored g501 hB12 (by decide) (by decide)
      replace ha484 := ha484.stored g501 hB12 (by decide)
      replace hB12 := hB502
      refine Sq.nil ?_
      refine Eq.goes (fun h => absurd h (by decide)) ?_
      refine Gq.done (by kernel_rfl) ?_
      refine Eq.next ?_
      refine Cq.ret ?_
      refine Eq.retCC rfl rfl rfl agg26 agg26 hB4 hB12 rfl rfl ?_
      exact ⟨⟨_, by omega, hR, G⟩, _, _, _, _, rfl, ⟨_, _, rfl, hn27, ha28⟩, ⟨_, _, rfl, hn483, ha484⟩, by first | exact (Small.of hv485).mono (by omega) | exact Small.mono hv485 (by omega) | exact (Small.of hv470).mono (by omega) | exact Small.mono hv470 (by omega) | exact (Small.of hv455).mono (by omega) | exact Small.mono hv455 (by omega) | exact (Small.of hv424).mono (by omega) | exact Small.mono hv424 (by omega) | exact (Small.of hv409).mono (by omega) | exact Small.mono hv409 (by omega) | exact (Small.of hv394).mono (by omega) | exact Small.mono hv394 (by omega) | exact (Small.of hv363).mono (by omega) | exact Small.mono hv363 (by omega) | exact (Small.of hv321).mono (by omega) | exact Small.mono hv321 (by omega) | exact (Small.of hv302).mono (by omega) | exact Small.mono hv302 (by omega) | exact (Small.of hv270).mono (by omega) | exact Small.mono hv270 (by omega) | exact (Small.of hv239).mono (by omega) | exact Small.mono hv239 (by omega) | exact (Small.of hv224).mono (by omega) | exact Small.mono hv224 (by omega) | exact (Small.of hv209).mono (by omega) | exact Small.mono hv209 (by omega) | exact (Small.of hv178).mono (by omega) | exact Small.mono hv178 (by omega) | exact (Small.of hv163).mono (by omega) | exact Small.mono hv163 (by omega) | exact (Small.of hv148).mono (by omega) | exact Small.mono hv148 (by omega) | exact (Small.of hv116).mono (by omega) | exact Small.mono hv116 (by omega) | exact (Small.of hv74).mono (by omega) | exact Small.mono hv74 (by omega) | exact (Small.of hv59).mono (by omega) | exact Small.mono hv59 (by omega) | exact (Small.of hv29).mono (by omega) | exact Small.mono hv29 (by omega), by first | exact (Small.of hv485).mono (by omega) | exact Small.mono hv485 (by omega) | exact (Small.of hv470).mono (by omega) | exact Small.mono hv470 (by omega) | exact (Small.of hv455).mono (by omega) | exact Small.mono hv455 (by omega) | exact (Small.of hv424).mono (by omega) | exact Small.mono hv424 (by omega) | exact (Small.of hv409).mono (by omega) | exact Small.mono hv409 (by omega) | exact (Small.of hv394).mono (by omega) | exact Small.mono hv394 (by omega) | exact (Small.of hv363).mono (by omega) | exact Small.mono hv363 (by omega) | exact (Small.of hv321).mono (by omega) | exact Small.mono hv321 (by omega) | exact (Small.of hv302).mono (by omega) | exact Small.mono hv302 (by omega) | exact (Small.of hv270).mono (by omega) | exact Small.mono hv270 (by omega) | exact (Small.of hv239).mono (by omega) | exact Small.mono hv239 (by omega) | exact (Small.of hv224).mono (by omega) | exact Small.mono hv224 (by omega) | exact (Small.of hv209).mono (by omega) | exact Small.mono hv209 (by omega) | exact (Small.of hv178).mono (by omega) | exact Small.mono hv178 (by omega) | exact (Small.of hv163).mono (by omega) | exact Small.mono hv163 (by omega) | exact (Small.of hv148).mono (by omega) | exact Small.mono hv148 (by omega) | exact (Small.of hv116).mono (by omega) | exact Small.mono hv116 (by omega) | exact (Small.of hv74).mono (by omega) | exact Small.mono hv74 (by omega) | exact (Small.of hv59).mono (by omega) | exact Small.mono hv59 (by omega) | exact (Small.of hv29).mono (by omega) | exact Small.mono hv29 (by omega)⟩
    refine Sq.assign .plain rfl rfl ?_
    refine Sq.nil ?_
    refine Eq.next ?_
    refine Cq.els rfl ?_
    refine Cq.seq ?_
    refine Cq.region ?_
    refine Sq.eql .plain rfl rfl rfl ?_
    refine Sq.part (fun c504 => ?_) (fun c504 => ?_)
    · refine Sq.assign .plain rfl rfl ?_
      refine Sq.nil ?_
      refine Eq.next ?_
      refine Cq.thn rfl ?_
      refine Cq.region ?_
      refine Sq.move .plain rfl rfl ?_
      refine Sq.call fn69 .plain rfl rfl (l3Draw_c _ _ _ _ _ _ hR (hb.go G) hbl (by omega) ) ?_
      rintro _ w506 ⟨⟨p507, hp510, hB509, g508⟩, ⟨a511, ⟨nx512, ac513, rfl, hn514, ha515⟩, hv516, hal517⟩⟩
      have hs518 := World.grownBy.size g508
      have hs519 := World.grownBy.size G
      have hs520 := World.grownBy.size g508
      replace G := grown_trans G g508
      replace hB4 := hB4.grown g508 (by intro h; injection h with h; omega)
      replace hB12 := hB12.grown g508 (by intro h; injection h with h; omega)
      replace hn27 := hn27.stored g508 hR (by decide) (by decide)
      replace ha28 := ha28.stored g508 hR (by decide)
      replace hB37 := hB37.grown g508 (by intro h; injection h with h; omega)
      replace hB81 := hB81.grown g508 (by intro h; injection h with h; omega)
      replace hR := hB509
      refine Sq.storeAgg agg26 .plain rfl rfl (one_cons rfl (one_cons (Rows.one hn514) (one_cons (Row.one ha515) one_nil))) hB81 rfl rfl (fun w521 g522 hB523 => ?_)
      have hs524 := World.grownBy.size g522
      replace hR := hR.grown g522 (by intro h; injection h with h; omega)
      replace G := grown_far G g522 (fun k hk => by injection hk with hk; subst hk; omega)
      replace hB4 := hB4.grown g522 (by intro h; injection h with h; omega)
      replace hB12 := hB12.grown g522 (by intro h; injection h with h; omega)
      replace hn27 := hn27.stored g522 hB81 (by decide) (by decide)
      replace ha28 := ha28.stored g522 hB81 (by decide)
      replace hB37 := hB37.grown g522 (by intro h; injection h with h; omega)
      replace hn514 := hn514.stored g522 hB81 (by decide) (by decide)
      replace ha515 := ha515.stored g522 hB81 (by decide)
      replace hB81 := hB523
      refine Sq.nil ?_
      refine Eq.end ?_
      refine Eq.next ?_
      refine Cq.seq ?_
      refine Cq.drawS 3 (fun w' => Blk w' b34 26 [Value.int .i64 a24.al, nx25, ac26] ∧ Blk w' b78 26 [Value.int .i64 a511.al, nx512, ac513]) mixed (⟨hB37, hB81⟩) (fun w525 e526 hS => ?_)
      clear hS
      have hs527 := Below.size e526
      replace hR := hR.ext e526
      replace G := grown_trans G (Ext.to_grown e526 _)
      replace hB4 := hB4.ext e526
      replace hB12 := hB12.ext e526
      replace hn27 := hn27.ext e526
      replace ha28 := ha28.ext e526
      replace hB37 := hB37.ext e526
      replace hB81 := hB81.ext e526
      replace hn514 := hn514.ext e526
      replace ha515 := ha515.ext e526
      refine Gq.st 0 rfl (by kernel_rfl) rfl .plain rfl (fun _ _ _ h => h) ⟨hB37, hB81⟩ (fun w' x => Still.loadAgg agg26 rfl x.1 rfl) ?_
      refine Gq.st 1 rfl (by kernel_rfl) rfl .plain rfl (fun _ _ _ h => h) ⟨hB37, hB81⟩ (fun w' x => Still.loadAgg agg26 rfl x.2 rfl) ?_
      refine Gq.one 2 rfl (by kernel_rfl) ?_
      refine Sq.storeAgg agg26 .plain rfl rfl (one_cons rfl (one_cons (Rows.one hn27) (one_cons (Row.one ha28) one_nil))) hB4 rfl rfl (fun w528 g529 hB530 => ?_)
      have hs531 := World.grownBy.size g529
      replace hR := hR.grown g529 (by intro h; injection h with h; omega)
      replace G := grown_far G g529 (fun k hk => by injection hk with hk; subst hk; omega)
      replace hB12 := hB12.grown g529 (by intro h; injection h with h; omega)
      replace hn27 := hn27.stored g529 hB4 (by decide) (by decide)
      replace ha28 := ha28.stored g529 hB4 (by decide)
      replace hB37 := hB37.grown g529 (by intro h; injection h with h; omega)
      replace hB81 := hB81.grown g529 (by intro h; injection h with h; omega)
      replace hn514 := hn514.stored g529 hB4 (by decide) (by decide)
      replace ha515 := ha515.stored g529 hB4 (by decide)
      replace hB4 := hB530
      refine Sq.nil ?_
      refine Eq.goes (fun _ => ⟨hB37, hB81⟩) ?_
      refine Gq.one 3 rfl (by kernel_rfl) ?_
      refine Sq.storeAgg agg26 .plain rfl rfl (one_cons rfl (one_cons (Rows.one hn514) (one_cons (Row.one ha515) one_nil))) hB12 rfl rfl (fun w532 g533 hB534 => ?_)
      have hs535 := World.grownBy.size g533
      replace hR := hR.grown g533 (by intro h; injection h with h; omega)
      replace G := grown_far G g533 (fun k hk => by injection hk with hk; subst hk; omega)
      replace hB4 := hB4.grown g533 (by intro h; injection h with h; omega)
      replace hn27 := hn27.stored g533 hB12 (by decide) (by decide)
      replace ha28 := ha28.stored g533 hB12 (by decide)
      replace hn514 := hn514.stored g533 hB12 (by decide) (by decide)
      replace ha515 := ha515.stored g533 hB12 (by decide)
      replace hB12 := hB534
      refine Sq.nil ?_
      refine Eq.goes (fun h => absurd h (by decide)) ?_
      refine Gq.done (by kernel_rfl) ?_
      refine Eq.next ?_
      refine Cq.ret ?_
      refine Eq.retCC rfl rfl rfl agg26 agg26 hB4 hB12 rfl rfl ?_
      exact ⟨⟨_, by omega, hR, G⟩, _, _, _, _, rfl, ⟨_, _, rfl, hn27, ha28⟩, ⟨_, _, rfl, hn514, ha515⟩, by first | exact (Small.of hv516).mono (by omega) | exact Small.mono hv516 (by omega) | exact (Small.of hv485).mono (by omega) | exact Small.mono hv485 (by omega) | exact (Small.of hv470).mono (by omega) | exact Small.mono hv470 (by omega) | exact (Small.of hv455).mono (by omega) | exact Small.mono hv455 (by omega) | exact (Small.of hv424).mono (by omega) | exact Small.mono hv424 (by omega) | exact (Small.of hv409).mono (by omega) | exact Small.mono hv409 (by omega) | exact (Small.of hv394).mono (by omega) | exact Small.mono hv394 (by omega) | exact (Small.of hv363).mono (by omega) | exact Small.mono hv363 (by omega) | exact (Small.of hv321).mono (by omega) | exact Small.mono hv321 (by omega) | exact (Small.of hv302).mono (by omega) | exact Small.mono hv302 (by omega) | exact (Small.of hv270).mono (by omega) | exact Small.mono hv270 (by omega) | exact (Small.of hv239).mono (by omega) | exact Small.mono hv239 (by omega) | exact (Small.of hv224).mono (by omega) | exact Small.mono hv224 (by omega) | exact (Small.of hv209).mono (by omega) | exact Small.mono hv209 (by omega) | exact (Small.of hv178).mono (by omega) | exact Small.mono hv178 (by omega) | exact (Small.of hv163).mono (by omega) | exact Small.mono hv163 (by omega) | exact (Small.of hv148).mono (by omega) | exact Small.mono hv148 (by omega) | exact (Small.of hv116).mono (by omega) | exact Small.mono hv116 (by omega) | exact (Small.of hv74).mono (by omega) | exact Small.mono hv74 (by omega) | exact (Small.of hv59).mono (by omega) | exact Small.mono hv59 (by omega) | exact (Small.of hv29).mono (by omega) | exact Small.mono hv29 (by omega), by first | exact (Small.of hv516).mono (by omega) | exact Small.mono hv516 (by omega) | exact (Small.of hv485).mono (by omega) | exact Small.mono hv485 (by omega) | exact (Small.of hv470).mono (by omega) | exact Small.mono hv470 (by omega) | exact (Small.of hv455).mono (by omega) | exact Small.mono hv455 (by omega) | exact (Small.of hv424).mono (by omega) | exact Small.mono hv424 (by omega) | exact (Small.of hv409).mono (by omega) | exact Small.mono hv409 (by omega) | exact (Small.of hv394).mono (by omega) | exact Small.mono hv394 (by omega) | exact (Small.of hv363).mono (by omega) | exact Small.mono hv363 (by omega) | exact (Small.of hv321).mono (by omega) | exact Small.mono hv321 (by omega) | exact (Small.of hv302).mono (by omega) | exact Small.mono hv302 (by omega) | exact (Small.of hv270).mono (by omega) | exact Small.mono hv270 (by omega) | exact (Small.of hv239).mono (by omega) | exact Small.mono hv239 (by omega) | exact (Small.of hv224).mono (by omega) | exact Small.mono hv224 (by omega) | exact (Small.of hv209).mono (by omega) | exact Small.mono hv209 (by omega) | exact (Small.of hv178).mono (by omega) | exact Small.mono hv178 (by omega) | exact (Small.of hv163).mono (by omega) | exact Small.mono hv163 (by omega) | exact (Small.of hv148).mono (by omega) | exact Small.mono hv148 (by omega) | exact (Small.of hv116).mono (by omega) | exact Small.mono hv116 (by omega) | exact (Small.of hv74).mono (by omega) | exact Small.mono hv74 (by omega) | exact (Small.of hv59).mono (by omega) | exact Small.mono hv59 (by omega) | exact (Small.of hv29).mono (by omega) | exact Small.mono hv29 (by omega)⟩
    refine Sq.assign .plain rfl rfl ?_
    refine Sq.nil ?_
    refine Eq.next ?_
    refine Cq.els rfl ?_
    refine Cq.seq ?_
    refine Cq.region ?_
    refine Sq.eql .plain rfl rfl rfl ?_
    refine Sq.part (fun c536 => ?_) (fun c536 => ?_)
    · refine Sq.assign .plain rfl rfl ?_
      refine Sq.nil ?_
      refine Eq.next ?_
      refine Cq.thn rfl ?_
      refine Cq.seq ?_
      refine Cq.region ?_
      refine Sq.move .plain rfl rfl ?_
      refine Sq.call fn72 .plain rfl rfl (l3Big_c _ _ _ _ _ _ hR (hb.go G) hbl (by omega) ) ?_
      rintro _ w538 ⟨⟨p539, hp542, hB541, g540⟩, ⟨a543, ⟨nx544, ac545, rfl, hn546, ha547⟩, hv548⟩⟩
      have hs549 := World.grownBy.size g540
      have hs550 := World.grownBy.size G
      have hs551 := World.grownBy.size g540
      replace G := grown_trans G g540
      replace hB4 := hB4.grown g540 (by intro h; injection h with h; omega)
      replace hB12 := hB12.grown g540 (by intro h; injection h with h; omega)
      replace hB37 := hB37.grown g540 (by intro h; injection h with h; omega)
      replace hB81 := hB81.grown g540 (by intro h; injection h with h; omega)
      replace hR := hB541
      refine Sq.storeAgg agg26 .plain rfl rfl (one_cons rfl (one_cons (Rows.one (OwnRows.rows hn546)) (one_cons (Row.one (Own.row ha547)) one_nil))) hB37 rfl rfl (fun w552 g553 hB554 => ?_)
      have hs555 := World.grownBy.size g553
      replace hR := hR.grown g553 (by intro h; injection h with h; omega)
      replace G := grown_far G g553 (fun k hk => by injection hk with hk; subst hk; omega)
      replace hB4 := hB4.grown g553 (by intro h; injection h with h; omega)
      replace hB12 := hB12.grown g553 (by intro h; injection h with h; omega)
      replace hB81 := hB81.grown g553 (by intro h; injection h with h; omega)
      replace hn546 := hn546.stored g553 hB37 (by decide) (by decide)
      replace ha547 := ha547.stored g553 hB37 (by decide)
      replace hB37 := hB554
      refine Sq.nil ?_
      refine Eq.next ?_
      refine Cq.region ?_
      refine Sq.move .plain rfl rfl ?_
      refine Sq.loadAgg agg26 .plain rfl rfl hB37 rfl ?_
      refine Sq.call fn49 .plain rfl rfl (l4Change_c _ _ _ _ _ _ hR (hb.go G) hbl (by omega) a543 _ _ (OwnRows.rows hn546) (Own.row ha547) _ (by omega) (Small.of hv548)) ?_
      rintro _ w557 ⟨⟨p558, hp561, hB560, g559⟩, ⟨a562, ⟨nx563, ac564, rfl, hn565, ha566⟩, hv567⟩⟩
      have hs568 := World.grownBy.size g559
      have hs569 := World.grownBy.size G
      have hs570 := World.grownBy.size g559
      replace G := grown_trans G g559
      replace hB4 := hB4.grown g559 (by intro h; injection h with h; omega)
      replace hB12 := hB12.grown g559 (by intro h; injection h with h; omega)
      replace hB37 := hB37.grown g559 (by intro h; injection h with h; omega)
      replace hB81 := hB81.grown g559 (by intro h; injection h with h; omega)
      replace hn546 := hn546.stored g559 hR (by decide) (by decide)
      replace ha547 := ha547.stored g559 hR (by decide)
      replace hR := hB560
      refine Sq.storeAgg agg26 .plain rfl rfl (one_cons rfl (one_cons (Rows.one hn565) (one_cons (Row.one ha566) one_nil))) hB81 rfl rfl (fun w571 g572 hB573 => ?_)
      have hs574 := World.grownBy.size g572
      replace hR := hR.grown g572 (by intro h; injection h with h; omega)
      replace G := grown_far G g572 (fun k hk => by injection hk with hk; subst hk; omega)
      replace hB4 := hB4.grown g572 (by intro h; injection h with h; omega)
      replace hB12 := hB12.grown g572 (by intro h; injection h with h; omega)
      replace hB37 := hB37.grown g572 (by intro h; injection h with h; omega)
      replace hn546 := hn546.stored g572 hB81 (by decide) (by decide)
      replace ha547 := ha547.stored g572 hB81 (by decide)
      replace hn565 := hn565.stored g572 hB81 (by decide) (by decide)
      replace ha566 := ha566.stored g572 hB81 (by decide)
      replace hB81 := hB573
      refine Sq.nil ?_
      refine Eq.end ?_
      refine Eq.next ?_
      refine Cq.seq ?_
      refine Cq.drawS 3 (fun w' => Blk w' b34 26 [Value.int .i64 a543.al, nx544, ac545] ∧ Blk w' b78 26 [Value.int .i64 a562.al, nx563, ac564]) mixed (⟨hB37, hB81⟩) (fun w575 e576 hS => ?_)
      clear hS
      have hs577 := Below.size e576
      replace hR := hR.ext e576
      replace G := grown_trans G (Ext.to_grown e576 _)
      replace hB4 := hB4.ext e576
      replace hB12 := hB12.ext e576
      replace hB37 := hB37.ext e576
      replace hB81 := hB81.ext e576
      replace hn546 := hn546.ext e576
      replace ha547 := ha547.ext e576
      replace hn565 := hn565.ext e576
      replace ha566 := ha566.ext e576
      refine Gq.st 0 rfl (by kernel_rfl) rfl .plain rfl (fun _ _ _ h => h) ⟨hB37, hB81⟩ (fun w' x => Still.loadAgg agg26 rfl x.1 rfl) ?_
      refine Gq.st 1 rfl (by kernel_rfl) rfl .plain rfl (fun _ _ _ h => h) ⟨hB37, hB81⟩ (fun w' x => Still.loadAgg agg26 rfl x.2 rfl) ?_
      refine Gq.one 2 rfl (by kernel_rfl) ?_
      refine Sq.storeAgg agg26 .plain rfl rfl (one_cons rfl (one_cons (Rows.one (OwnRows.rows hn546)) (one_cons (Row.one (Own.row ha547)) one_nil))) hB4 rfl rfl (fun w578 g579 hB580 => ?_)
      have hs581 := World.grownBy.size g579
      replace hR := hR.grown g579 (by intro h; injection h with h; omega)
      replace G := grown_far G g579 (fun k hk => by injection hk with hk; subst hk; omega)
      replace hB12 := hB12.grown g579 (by intro h; injection h with h; omega)
      replace hB37 := hB37.grown g579 (by intro h; injection h with h; omega)
      replace hB81 := hB81.grown g579 (by intro h; injection h with h; omega)
      replace hn546 := hn546.stored g579 hB4 (by decide) (by decide)
      replace ha547 := ha547.stored g579 hB4 (by decide)
      replace hn565 := hn565.stored g579 hB4 (by decide) (by decide)
      replace ha566 := ha566.stored g579 hB4 (by decide)
      replace hB4 := hB580
      refine Sq.nil ?_
      refine Eq.goes (fun _ => ⟨hB37, hB81⟩) ?_
      refine Gq.one 3 rfl (by kernel_rfl) ?_
      refine Sq.storeAgg agg26 .plain rfl rfl (one_cons rfl (one_cons (Rows.one hn565) (one_cons (Row.one ha566) one_nil))) hB12 rfl rfl (fun w582 g583 hB584 => ?_)
      have hs585 := World.grownBy.size g583
      replace hR := hR.grown g583 (by intro h; injection h with h; omega)
      replace G := grown_far G g583 (fun k hk => by injection hk with hk; subst hk; omega)
      replace hB4 := hB4.grown g583 (by intro h; injection h with h; omega)
      replace hn546 := hn546.stored g583 hB12 (by decide) (by decide)
      replace ha547 := ha547.stored g583 hB12 (by decide)
      replace hn565 := hn565.stored g583 hB12 (by decide) (by decide)
      replace ha566 := ha566.stored g583 hB12 (by decide)
      replace hB12 := hB584
      refine Sq.nil ?_
      refine Eq.goes (fun h => absurd h (by decide)) ?_
      refine Gq.done (by kernel_rfl) ?_
      refine Eq.next ?_
      refine Cq.ret ?_
      refine Eq.retCC rfl rfl rfl agg26 agg26 hB4 hB12 rfl rfl ?_
      exact ⟨⟨_, by omega, hR, G⟩, _, _, _, _, rfl, ⟨_, _, rfl, (OwnRows.rows hn546), (Own.row ha547)⟩, ⟨_, _, rfl, hn565, ha566⟩, by first | exact (Small.of hv567).mono (by omega) | exact Small.mono hv567 (by omega) | exact (Small.of hv548).mono (by omega) | exact Small.mono hv548 (by omega) | exact (Small.of hv516).mono (by omega) | exact Small.mono hv516 (by omega) | exact (Small.of hv485).mono (by omega) | exact Small.mono hv485 (by omega) | exact (Small.of hv470).mono (by omega) | exact Small.mono hv470 (by omega) | exact (Small.of hv455).mono (by omega) | exact Small.mono hv455 (by omega) | exact (Small.of hv424).mono (by omega) | exact Small.mono hv424 (by omega) | exact (Small.of hv409).mono (by omega) | exact Small.mono hv409 (by omega) | exact (Small.of hv394).mono (by omega) | exact Small.mono hv394 (by omega) | exact (Small.of hv363).mono (by omega) | exact Small.mono hv363 (by omega) | exact (Small.of hv321).mono (by omega) | exact Small.mono hv321 (by omega) | exact (Small.of hv302).mono (by omega) | exact Small.mono hv302 (by omega) | exact (Small.of hv270).mono (by omega) | exact Small.mono hv270 (by omega) | exact (Small.of hv239).mono (by omega) | exact Small.mono hv239 (by omega) | exact (Small.of hv224).mono (by omega) | exact Small.mono hv224 (by omega) | exact (Small.of hv209).mono (by omega) | exact Small.mono hv209 (by omega) | exact (Small.of hv178).mono (by omega) | exact Small.mono hv178 (by omega) | exact (Small.of hv163).mono (by omega) | exact Small.mono hv163 (by omega) | exact (Small.of hv148).mono (by omega) | exact Small.mono hv148 (by omega) | exact (Small.of hv116).mono (by omega) | exact Small.mono hv116 (by omega) | exact (Small.of hv74).mono (by omega) | exact Small.mono hv74 (by omega) | exact (Small.of hv59).mono (by omega) | exact Small.mono hv59 (by omega) | exact (Small.of hv29).mono (by omega) | exact Small.mono hv29 (by omega), by first | exact (Small.of hv567).mono (by omega) | exact Small.mono hv567 (by omega) | exact (Small.of hv548).mono (by omega) | exact Small.mono hv548 (by omega) | exact (Small.of hv516).mono (by omega) | exact Small.mono hv516 (by omega) | exact (Small.of hv485).mono (by omega) | exact Small.mono hv485 (by omega) | exact (Small.of hv470).mono (by omega) | exact Small.mono hv470 (by omega) | exact (Small.of hv455).mono (by omega) | exact Small.mono hv455 (by omega) | exact (Small.of hv424).mono (by omega) | exact Small.mono hv424 (by omega) | exact (Small.of hv409).mono (by omega) | exact Small.mono hv409 (by omega) | exact (Small.of hv394).mono (by omega) | exact Small.mono hv394 (by omega) | exact (Small.of hv363).mono (by omega) | exact Small.mono hv363 (by omega) | exact (Small.of hv321).mono (by omega) | exact Small.mono hv321 (by omega) | exact (Small.of hv302).mono (by omega) | exact Small.mono hv302 (by omega) | exact (Small.of hv270).mono (by omega) | exact Small.mono hv270 (by omega) | exact (Small.of hv239).mono (by omega) | exact Small.mono hv239 (by omega) | exact (Small.of hv224).mono (by omega) | exact Small.mono hv224 (by omega) | exact (Small.of hv209).mono (by omega) | exact Small.mono hv209 (by omega) | exact (Small.of hv178).mono (by omega) | exact Small.mono hv178 (by omega) | exact (Small.of hv163).mono (by omega) | exact Small.mono hv163 (by omega) | exact (Small.of hv148).mono (by omega) | exact Small.mono hv148 (by omega) | exact (Small.of hv116).mono (by omega) | exact Small.mono hv116 (by omega) | exact (Small.of hv74).mono (by omega) | exact Small.mono hv74 (by omega) | exact (Small.of hv59).mono (by omega) | exact Small.mono hv59 (by omega) | exact (Small.of hv29).mono (by omega) | exact Small.mono hv29 (by omega)⟩
    refine Sq.assign .plain rfl rfl ?_
    refine Sq.nil ?_
    refine Eq.next ?_
    refine Cq.els rfl ?_
    refine Cq.skip ?_
    refine Eq.end ?_
    refine Eq.next ?_
    refine Cq.seq ?_
    refine Cq.drawS 3 (fun w' => Blk w' b34 26 [Value.int .i64 a24.al, nx25, ac26] ∧ Blk w' b78 26 [Value.int .i64 a358.al, nx359, ac360]) mixed (⟨hB37, hB81⟩) (fun w586 e587 hS => ?_)
    clear hS
    have hs588 := Below.size e587
    replace hR := hR.ext e587
    replace G := grown_trans G (Ext.to_grown e587 _)
    replace hB4 := hB4.ext e587
    replace hB12 := hB12.ext e587
    replace hn27 := hn27.ext e587
    replace ha28 := ha28.ext e587
    replace hB37 := hB37.ext e587
    replace hB81 := hB81.ext e587
    replace hn361 := hn361.ext e587
    replace ha362 := ha362.ext e587
    refine Gq.st 0 rfl (by kernel_rfl) rfl .plain rfl (fun _ _ _ h => h) ⟨hB37, hB81⟩ (fun w' x => Still.loadAgg agg26 rfl x.1 rfl) ?_
    refine Gq.st 1 rfl (by kernel_rfl) rfl .plain rfl (fun _ _ _ h => h) ⟨hB37, hB81⟩ (fun w' x => Still.loadAgg agg26 rfl x.2 rfl) ?_
    refine Gq.one 2 rfl (by kernel_rfl) ?_
    refine Sq.storeAgg agg26 .plain rfl rfl (one_cons rfl (one_cons (Rows.one hn27) (one_cons (Row.one ha28) one_nil))) hB4 rfl rfl (fun w589 g590 hB591 => ?_)
    have hs592 := World.grownBy.size g590
    replace hR := hR.grown g590 (by intro h; injection h with h; omega)
    replace G := grown_far G g590 (fun k hk => by injection hk with hk; subst hk; omega)
    replace hB12 := hB12.grown g590 (by intro h; injection h with h; omega)
    replace hn27 := hn27.stored g590 hB4 (by decide) (by decide)
    replace ha28 := ha28.stored g590 hB4 (by decide)
    replace hB37 := hB37.grown g590 (by intro h; injection h with h; omega)
    replace hB81 := hB81.grown g590 (by intro h; injection h with h; omega)
    replace hn361 := hn361.stored g590 hB4 (by decide) (by decide)
    replace ha362 := ha362.stored g590 hB4 (by decide)
    replace hB4 := hB591
    refine Sq.nil ?_
    refine Eq.goes (fun _ => ⟨hB37, hB81⟩) ?_
    refine Gq.one 3 rfl (by kernel_rfl) ?_
    refine Sq.storeAgg agg26 .plain rfl rfl (one_cons rfl (one_cons (Rows.one hn361) (one_cons (Row.one ha362) one_nil))) hB12 rfl rfl (fun w593 g594 hB595 => ?_)
    have hs596 := World.grownBy.size g594
    replace hR := hR.grown g594 (by intro h; injection h with h; omega)
    replace G := grown_far G g594 (fun k hk => by injection hk with hk; subst hk; omega)
    replace hB4 := hB4.grown g594 (by intro h; injection h with h; omega)
    replace hn27 := hn27.stored g594 hB12 (by decide) (by decide)
    replace ha28 := ha28.stored g594 hB12 (by decide)
    replace hn361 := hn361.stored g594 hB12 (by decide) (by decide)
    replace ha362 := ha362.stored g594 hB12 (by decide)
    replace hB12 := hB595
    refine Sq.nil ?_
    refine Eq.goes (fun h => absurd h (by decide)) ?_
    refine Gq.done (by kernel_rfl) ?_
    refine Eq.next ?_
    refine Cq.ret ?_
    refine Eq.retCC rfl rfl rfl agg26 agg26 hB4 hB12 rfl rfl ?_
    exact ⟨⟨_, by omega, hR, G⟩, _, _, _, _, rfl, ⟨_, _, rfl, hn27, ha28⟩, ⟨_, _, rfl, hn361, ha362⟩, by first | exact (Small.of hv567).mono (by omega) | exact Small.mono hv567 (by omega) | exact (Small.of hv548).mono (by omega) | exact Small.mono hv548 (by omega) | exact (Small.of hv516).mono (by omega) | exact Small.mono hv516 (by omega) | exact (Small.of hv485).mono (by omega) | exact Small.mono hv485 (by omega) | exact (Small.of hv470).mono (by omega) | exact Small.mono hv470 (by omega) | exact (Small.of hv455).mono (by omega) | exact Small.mono hv455 (by omega) | exact (Small.of hv424).mono (by omega) | exact Small.mono hv424 (by omega) | exact (Small.of hv409).mono (by omega) | exact Small.mono hv409 (by omega) | exact (Small.of hv394).mono (by omega) | exact Small.mono hv394 (by omega) | exact (Small.of hv363).mono (by omega) | exact Small.mono hv363 (by omega) | exact (Small.of hv321).mono (by omega) | exact Small.mono hv321 (by omega) | exact (Small.of hv302).mono (by omega) | exact Small.mono hv302 (by omega) | exact (Small.of hv270).mono (by omega) | exact Small.mono hv270 (by omega) | exact (Small.of hv239).mono (by omega) | exact Small.mono hv239 (by omega) | exact (Small.of hv224).mono (by omega) | exact Small.mono hv224 (by omega) | exact (Small.of hv209).mono (by omega) | exact Small.mono hv209 (by omega) | exact (Small.of hv178).mono (by omega) | exact Small.mono hv178 (by omega) | exact (Small.of hv163).mono (by omega) | exact Small.mono hv163 (by omega) | exact (Small.of hv148).mono (by omega) | exact Small.mono hv148 (by omega) | exact (Small.of hv116).mono (by omega) | exact Small.mono hv116 (by omega) | exact (Small.of hv74).mono (by omega) | exact Small.mono hv74 (by omega) | exact (Small.of hv59).mono (by omega) | exact Small.mono hv59 (by omega) | exact (Small.of hv29).mono (by omega) | exact Small.mono hv29 (by omega), by first | exact (Small.of hv567).mono (by omega) | exact Small.mono hv567 (by omega) | exact (Small.of hv548).mono (by omega) | exact Small.mono hv548 (by omega) | exact (Small.of hv516).mono (by omega) | exact Small.mono hv516 (by omega) | exact (Small.of hv485).mono (by omega) | exact Small.mono hv485 (by omega) | exact (Small.of hv470).mono (by omega) | exact Small.mono hv470 (by omega) | exact (Small.of hv455).mono (by omega) | exact Small.mono hv455 (by omega) | exact (Small.of hv424).mono (by omega) | exact Small.mono hv424 (by omega) | exact (Small.of hv409).mono (by omega) | exact Small.mono hv409 (by omega) | exact (Small.of hv394).mono (by omega) | exact Small.mono hv394 (by omega) | exact (Small.of hv363).mono (by omega) | exact Small.mono hv363 (by omega) | exact (Small.of hv321).mono (by omega) | exact Small.mono hv321 (by omega) | exact (Small.of hv302).mono (by omega) | exact Small.mono hv302 (by omega) | exact (Small.of hv270).mono (by omega) | exact Small.mono hv270 (by omega) | exact (Small.of hv239).mono (by omega) | exact Small.mono hv239 (by omega) | exact (Small.of hv224).mono (by omega) | exact Small.mono hv224 (by omega) | exact (Small.of hv209).mono (by omega) | exact Small.mono hv209 (by omega) | exact (Small.of hv178).mono (by omega) | exact Small.mono hv178 (by omega) | exact (Small.of hv163).mono (by omega) | exact Small.mono hv163 (by omega) | exact (Small.of hv148).mono (by omega) | exact Small.mono hv148 (by omega) | exact (Small.of hv116).mono (by omega) | exact Small.mono hv116 (by omega) | exact (Small.of hv74).mono (by omega) | exact Small.mono hv74 (by omega) | exact (Small.of hv59).mono (by omega) | exact Small.mono hv59 (by omega) | exact (Small.of hv29).mono (by omega) | exact Small.mono hv29 (by omega)⟩
  refine Sq.assign .plain rfl rfl ?_
  refine Sq.nil ?_
  refine Eq.next ?_
  refine Cq.els rfl ?_
  refine Cq.skip ?_
  refine Eq.end ?_
  refine Eq.next ?_
  refine Cq.seq ?_
  refine Cq.seq ?_
  refine Cq.region ?_
  refine Sq.move .plain rfl rfl ?_
  refine Sq.call fn48 .plain rfl rfl (pick_c _ _ _ _ _ _ hR (hb.go G) hbl (by omega) 20 (by omega)) ?_
  rintro _ w598 ⟨⟨p599, hp602, hB601, g600⟩, ⟨k603, rfl, hk604⟩⟩
  have hs605 := World.grownBy.size g600
  have hs606 := World.grownBy.size G
  have hs607 := World.grownBy.size g600
  replace G := grown_trans G g600
  replace hB4 := hB4.grown g600 (by intro h; injection h with h; omega)
  replace hB12 := hB12.grown g600 (by intro h; injection h with h; omega)
  replace hn27 := hn27.stored g600 hR (by decide) (by decide)
  replace ha28 := ha28.stored g600 hR (by decide)
  replace hB37 := hB37.grown g600 (by intro h; injection h with h; omega)
  replace hn72 := hn72.stored g600 hR (by decide) (by decide)
  replace ha73 := ha73.stored g600 hR (by decide)
  replace hB81 := hB81.grown g600 (by intro h; injection h with h; omega)
  replace hR := hB601
  refine Sq.nil ?_
  refine Eq.next ?_
  refine Cq.block ?_
  refine Cq.seq ?_
  refine Cq.region ?_
  refine Sq.eql .plain rfl rfl rfl ?_
  refine Sq.part (fun c608 => ?_) (fun c608 => ?_)
  · refine Sq.assign .plain rfl rfl ?_
    refine Sq.nil ?_
    refine Eq.next ?_
    refine Cq.thn rfl ?_
    refine Cq.region ?_
    refine Sq.move .plain rfl rfl ?_
    refine Sq.move .plain rfl rfl ?_
    refine Sq.move .plain rfl rfl ?_
    refine Sq.loadAgg agg26 .plain rfl rfl hB37 rfl ?_
    refine Sq.call fn71 .plain rfl rfl (l3Wrong_c _ _ _ _ _ _ hR (hb.go G) hbl (by omega) a24 _ _ hn27 ha28 _ (by omega) hv29) ?_
    rintro _ w610 ⟨⟨p611, hp614, hB613, g612⟩, ⟨a615, ⟨nx616, ac617, rfl, hn618, ha619⟩, hv620⟩⟩
    have hs621 := World.grownBy.size g612
    have hs622 := World.grownBy.size G
    have hs623 := World.grownBy.size g612
    replace G := grown_trans G g612
    replace hB4 := hB4.grown g612 (by intro h; injection h with h; omega)
    replace hB12 := hB12.grown g612 (by intro h; injection h with h; omega)
    replace hB37 := hB37.grown g612 (by intro h; injection h with h; omega)
    replace hn72 := hn72.stored g612 hR (by decide) (by decide)
    replace ha73 := ha73.stored g612 hR (by decide)
    replace hB81 := hB81.grown g612 (by intro h; injection h with h; omega)
    replace hR := hB613
    refine Sq.call fn71 .plain rfl rfl (l3Wrong_c _ _ _ _ _ _ hR (hb.go G) hbl (by omega) a615 _ _ hn618 ha619 _ (by omega) hv620) ?_
    rintro _ w625 ⟨⟨p626, hp629, hB628, g627⟩, ⟨a630, ⟨nx631, ac632, rfl, hn633, ha634⟩, hv635⟩⟩
    have hs636 := World.grownBy.size g627
    have hs637 := World.grownBy.size G
    have hs638 := World.grownBy.size g627
    replace G := grown_trans G g627
    replace hB4 := hB4.grown g627 (by intro h; injection h with h; omega)
    replace hB12 := hB12.grown g627 (by intro h; injection h with h; omega)
    replace hB37 := hB37.grown g627 (by intro h; injection h with h; omega)
    replace hn72 := hn72.stored g627 hR (by decide) (by decide)
    replace ha73 := ha73.stored g627 hR (by decide)
    replace hB81 := hB81.grown g627 (by intro h; injection h with h; omega)
    replace hR := hB628
    refine Sq.call fn71 .plain rfl rfl (l3Wrong_c _ _ _ _ _ _ hR (hb.go G) hbl (by omega) a630 _ _ hn633 ha634 _ (by omega) hv635) ?_
    rintro _ w640 ⟨⟨p641, hp644, hB643, g642⟩, ⟨a645, ⟨nx646, ac647, rfl, hn648, ha649⟩, hv650⟩⟩
    have hs651 := World.grownBy.size g642
    have hs652 := World.grownBy.size G
    have hs653 := World.grownBy.size g642
    replace G := grown_trans G g642
    replace hB4 := hB4.grown g642 (by intro h; injection h with h; omega)
    replace hB12 := hB12.grown g642 (by intro h; injection h with h; omega)
    replace hB37 := hB37.grown g642 (by intro h; injection h with h; omega)
    replace hn72 := hn72.stored g642 hR (by decide) (by decide)
    replace ha73 := ha73.stored g642 hR (by decide)
    replace hB81 := hB81.grown g642 (by intro h; injection h with h; omega)
    replace hR := hB643
    refine Sq.storeAgg agg26 .plain rfl rfl (one_cons rfl (one_cons (Rows.one hn648) (one_cons (Row.one ha649) one_nil))) hB37 rfl rfl (fun w654 g655 hB656 => ?_)
    have hs657 := World.grownBy.size g655
    replace hR := hR.grown g655 (by intro h; injection h with h; omega)
    replace G := grown_far G g655 (fun k hk => by injection hk with hk; subst hk; omega)
    replace hB4 := hB4.grown g655 (by intro h; injection h with h; omega)
    replace hB12 := hB12.grown g655 (by intro h; injection h with h; omega)
    replace hn72 := hn72.stored g655 hB37 (by decide) (by decide)
    replace ha73 := ha73.stored g655 hB37 (by decide)
    replace hB81 := hB81.grown g655 (by intro h; injection h with h; omega)
    replace hn648 := hn648.stored g655 hB37 (by decide) (by decide)
    replace ha649 := ha649.stored g655 hB37 (by decide)
    replace hB37 := hB656
    refine Sq.nil ?_
    refine Eq.end ?_
    refine Eq.next ?_
    refine Cq.seq ?_
    refine Cq.drawS 3 (fun w' => Blk w' b34 26 [Value.int .i64 a645.al, nx646, ac647] ∧ Blk w' b78 26 [Value.int .i64 a69.al, nx70, ac71]) mixed (⟨hB37, hB81⟩) (fun w658 e659 hS => ?_)
    clear hS
    have hs660 := Below.size e659
    replace hR := hR.ext e659
    replace G := grown_trans G (Ext.to_grown e659 _)
    replace hB4 := hB4.ext e659
    replace hB12 := hB12.ext e659
    replace hB37 := hB37.ext e659
    replace hn72 := hn72.ext e659
    replace ha73 := ha73.ext e659
    replace hB81 := hB81.ext e659
    replace hn648 := hn648.ext e659
    replace ha649 := ha649.ext e659
    refine Gq.st 0 rfl (by kernel_rfl) rfl .plain rfl (fun _ _ _ h => h) ⟨hB37, hB81⟩ (fun w' x => Still.loadAgg agg26 rfl x.1 rfl) ?_
    refine Gq.st 1 rfl (by kernel_rfl) rfl .plain rfl (fun _ _ _ h => h) ⟨hB37, hB81⟩ (fun w' x => Still.loadAgg agg26 rfl x.2 rfl) ?_
    refine Gq.one 2 rfl (by kernel_rfl) ?_
    refine Sq.storeAgg agg26 .plain rfl rfl (one_cons rfl (one_cons (Rows.one hn648) (one_cons (Row.one ha649) one_nil))) hB4 rfl rfl (fun w661 g662 hB663 => ?_)
    have hs664 := World.grownBy.size g662
    replace hR := hR.grown g662 (by intro h; injection h with h; omega)
    replace G := grown_far G g662 (fun k hk => by injection hk with hk; subst hk; omega)
    replace hB12 := hB12.grown g662 (by intro h; injection h with h; omega)
    replace hB37 := hB37.grown g662 (by intro h; injection h with h; omega)
    replace hn72 := hn72.stored g662 hB4 (by decide) (by decide)
    replace ha73 := ha73.stored g662 hB4 (by decide)
    replace hB81 := hB81.grown g662 (by intro h; injection h with h; omega)
    replace hn648 := hn648.stored g662 hB4 (by decide) (by decide)
    replace ha649 := ha649.stored g662 hB4 (by decide)
    replace hB4 := hB663
    refine Sq.nil ?_
    refine Eq.goes (fun _ => ⟨hB37, hB81⟩) ?_
    refine Gq.one 3 rfl (by kernel_rfl) ?_
    refine Sq.storeAgg agg26 .plain rfl rfl (one_cons rfl (one_cons (Rows.one hn72) (one_cons (Row.one ha73) one_nil))) hB12 rfl rfl (fun w665 g666 hB667 => ?_)
    have hs668 := World.grownBy.size g666
    replace hR := hR.grown g666 (by intro h; injection h with h; omega)
    replace G := grown_far G g666 (fun k hk => by injection hk with hk; subst hk; omega)
    replace hB4 := hB4.grown g666 (by intro h; injection h with h; omega)
    replace hn72 := hn72.stored g666 hB12 (by decide) (by decide)
    replace ha73 := ha73.stored g666 hB12 (by decide)
    replace hn648 := hn648.stored g666 hB12 (by decide) (by decide)
    replace ha649 := ha649.stored g666 hB12 (by decide)
    replace hB12 := hB667
    refine Sq.nil ?_
    refine Eq.goes (fun h => absurd h (by decide)) ?_
    refine Gq.done (by kernel_rfl) ?_
    refine Eq.next ?_
    refine Cq.ret ?_
    refine Eq.retCC rfl rfl rfl agg26 agg26 hB4 hB12 rfl rfl ?_
    exact ⟨⟨_, by omega, hR, G⟩, _, _, _, _, rfl, ⟨_, _, rfl, hn648, ha649⟩, ⟨_, _, rfl, hn72, ha73⟩, by first | exact (Small.of hv650).mono (by omega) | exact Small.mono hv650 (by omega) | exact (Small.of hv635).mono (by omega) | exact Small.mono hv635 (by omega) | exact (Small.of hv620).mono (by omega) | exact Small.mono hv620 (by omega) | exact (Small.of hv567).mono (by omega) | exact Small.mono hv567 (by omega) | exact (Small.of hv548).mono (by omega) | exact Small.mono hv548 (by omega) | exact (Small.of hv516).mono (by omega) | exact Small.mono hv516 (by omega) | exact (Small.of hv485).mono (by omega) | exact Small.mono hv485 (by omega) | exact (Small.of hv470).mono (by omega) | exact Small.mono hv470 (by omega) | exact (Small.of hv455).mono (by omega) | exact Small.mono hv455 (by omega) | exact (Small.of hv424).mono (by omega) | exact Small.mono hv424 (by omega) | exact (Small.of hv409).mono (by omega) | exact Small.mono hv409 (by omega) | exact (Small.of hv394).mono (by omega) | exact Small.mono hv394 (by omega) | exact (Small.of hv363).mono (by omega) | exact Small.mono hv363 (by omega) | exact (Small.of hv321).mono (by omega) | exact Small.mono hv321 (by omega) | exact (Small.of hv302).mono (by omega) | exact Small.mono hv302 (by omega) | exact (Small.of hv270).mono (by omega) | exact Small.mono hv270 (by omega) | exact (Small.of hv239).mono (by omega) | exact Small.mono hv239 (by omega) | exact (Small.of hv224).mono (by omega) | exact Small.mono hv224 (by omega) | exact (Small.of hv209).mono (by omega) | exact Small.mono hv209 (by omega) | exact (Small.of hv178).mono (by omega) | exact Small.mono hv178 (by omega) | exact (Small.of hv163).mono (by omega) | exact Small.mono hv163 (by omega) | exact (Small.of hv148).mono (by omega) | exact Small.mono hv148 (by omega) | exact (Small.of hv116).mono (by omega) | exact Small.mono hv116 (by omega) | exact (Small.of hv74).mono (by omega) | exact Small.mono hv74 (by omega) | exact (Small.of hv59).mono (by omega) | exact Small.mono hv59 (by omega) | exact (Small.of hv29).mono (by omega) | exact Small.mono hv29 (by omega), by first | exact (Small.of hv650).mono (by omega) | exact Small.mono hv650 (by omega) | exact (Small.of hv635).mono (by omega) | exact Small.mono hv635 (by omega) | exact (Small.of hv620).mono (by omega) | exact Small.mono hv620 (by omega) | exact (Small.of hv567).mono (by omega) | exact Small.mono hv567 (by omega) | exact (Small.of hv548).mono (by omega) | exact Small.mono hv548 (by omega) | exact (Small.of hv516).mono (by omega) | exact Small.mono hv516 (by omega) | exact (Small.of hv485).mono (by omega) | exact Small.mono hv485 (by omega) | exact (Small.of hv470).mono (by omega) | exact Small.mono hv470 (by omega) | exact (Small.of hv455).mono (by omega) | exact Small.mono hv455 (by omega) | exact (Small.of hv424).mono (by omega) | exact Small.mono hv424 (by omega) | exact (Small.of hv409).mono (by omega) | exact Small.mono hv409 (by omega) | exact (Small.of hv394).mono (by omega) | exact Small.mono hv394 (by omega) | exact (Small.of hv363).mono (by omega) | exact Small.mono hv363 (by omega) | exact (Small.of hv321).mono (by omega) | exact Small.mono hv321 (by omega) | exact (Small.of hv302).mono (by omega) | exact Small.mono hv302 (by omega) | exact (Small.of hv270).mono (by omega) | exact Small.mono hv270 (by omega) | exact (Small.of hv239).mono (by omega) | exact Small.mono hv239 (by omega) | exact (Small.of hv224).mono (by omega) | exact Small.mono hv224 (by omega) | exact (Small.of hv209).mono (by omega) | exact Small.mono hv209 (by omega) | exact (Small.of hv178).mono (by omega) | exact Small.mono hv178 (by omega) | exact (Small.of hv163).mono (by omega) | exact Small.mono hv163 (by omega) | exact (Small.of hv148).mono (by omega) | exact Small.mono hv148 (by omega) | exact (Small.of hv116).mono (by omega) | exact Small.mono hv116 (by omega) | exact (Small.of hv74).mono (by omega) | exact Small.mono hv74 (by omega) | exact (Small.of hv59).mono (by omega) | exact Small.mono hv59 (by omega) | exact (Small.of hv29).mono (by omega) | exact Small.mono hv29 (by omega)⟩
  refine Sq.assign .plain rfl rfl ?_
  refine Sq.nil ?_
  refine Eq.next ?_
  refine Cq.els rfl ?_
  refine Cq.seq ?_
  refine Cq.region ?_
  refine Sq.eql .plain rfl rfl rfl ?_
  refine Sq.part (fun c669 => ?_) (fun c669 => ?_)
  · refine Sq.assign .plain rfl rfl ?_
    refine Sq.nil ?_
    refine Eq.next ?_
    refine Cq.thn rfl ?_
    refine Cq.region ?_
    refine Sq.move .plain rfl rfl ?_
    refine Sq.move .plain rfl rfl ?_
    refine Sq.move .plain rfl rfl ?_
    refine Sq.loadAgg agg26 .plain rfl rfl hB81 rfl ?_
    refine Sq.call fn71 .plain rfl rfl (l3Wrong_c _ _ _ _ _ _ hR (hb.go G) hbl (by omega) a69 _ _ hn72 ha73 _ (by omega) hv74) ?_
    rintro _ w671 ⟨⟨p672, hp675, hB674, g673⟩, ⟨a676, ⟨nx677, ac678, rfl, hn679, ha680⟩, hv681⟩⟩
    have hs682 := World.grownBy.size g673
    have hs683 := World.grownBy.size G
    have hs684 := World.grownBy.size g673
    replace G := grown_trans G g673
    replace hB4 := hB4.grown g673 (by intro h; injection h with h; omega)
    replace hB12 := hB12.grown g673 (by intro h; injection h with h; omega)
    replace hn27 := hn27.stored g673 hR (by decide) (by decide)
    replace ha28 := ha28.stored g673 hR (by decide)
    replace hB37 := hB37.grown g673 (by intro h; injection h with h; omega)
    replace hB81 := hB81.grown g673 (by intro h; injection h with h; omega)
    replace hR := hB674
    refine Sq.call fn71 .plain rfl rfl (l3Wrong_c _ _ _ _ _ _ hR (hb.go G) hbl (by omega) a676 _ _ hn679 ha680 _ (by omega) hv681) ?_
    rintro _ w686 ⟨⟨p687, hp690, hB689, g688⟩, ⟨a691, ⟨nx692, ac693, rfl, hn694, ha695⟩, hv696⟩⟩
    have hs697 := World.grownBy.size g688
    have hs698 := World.grownBy.size G
    have hs699 := World.grownBy.size g688
    replace G := grown_trans G g688
    replace hB4 := hB4.grown g688 (by intro h; injection h with h; omega)
    replace hB12 := hB12.grown g688 (by intro h; injection h with h; omega)
    replace hn27 := hn27.stored g688 hR (by decide) (by decide)
    replace ha28 := ha28.stored g688 hR (by decide)
    replace hB37 := hB37.grown g688 (by intro h; injection h with h; omega)
    replace hB81 := hB81.grown g688 (by intro h; injection h with h; omega)
    replace hR := hB689
    refine Sq.call fn71 .plain rfl rfl (l3Wrong_c _ _ _ _ _ _ hR (hb.go G) hbl (by omega) a691 _ _ hn694 ha695 _ (by omega) hv696) ?_
    rintro _ w701 ⟨⟨p702, hp705, hB704, g703⟩, ⟨a706, ⟨nx707, ac708, rfl, hn709, ha710⟩, hv711⟩⟩
    have hs712 := World.grownBy.size g703
    have hs713 := World.grownBy.size G
    have hs714 := World.grownBy.size g703
    replace G := grown_trans G g703
    replace hB4 := hB4.grown g703 (by intro h; injection h with h; omega)
    replace hB12 := hB12.grown g703 (by intro h; injection h with h; omega)
    replace hn27 := hn27.stored g703 hR (by decide) (by decide)
    replace ha28 := ha28.stored g703 hR (by decide)
    replace hB37 := hB37.grown g703 (by intro h; injection h with h; omega)
    replace hB81 := hB81.grown g703 (by intro h; injection h with h; omega)
    replace hR := hB704
    refine Sq.storeAgg agg26 .plain rfl rfl (one_cons rfl (one_cons (Rows.one hn709) (one_cons (Row.one ha710) one_nil))) hB81 rfl rfl (fun w715 g716 hB717 => ?_)
    have hs718 := World.grownBy.size g716
    replace hR := hR.grown g716 (by intro h; injection h with h; omega)
    replace G := grown_far G g716 (fun k hk => by injection hk with hk; subst hk; omega)
    replace hB4 := hB4.grown g716 (by intro h; injection h with h; omega)
    replace hB12 := hB12.grown g716 (by intro h; injection h with h; omega)
    replace hn27 := hn27.stored g716 hB81 (by decide) (by decide)
    replace ha28 := ha28.stored g716 hB81 (by decide)
    replace hB37 := hB37.grown g716 (by intro h; injection h with h; omega)
    replace hn709 := hn709.stored g716 hB81 (by decide) (by decide)
    replace ha710 := ha710.stored g716 hB81 (by decide)
    replace hB81 := hB717
    refine Sq.nil ?_
    refine Eq.end ?_
    refine Eq.next ?_
    refine Cq.seq ?_
    refine Cq.drawS 3 (fun w' => Blk w' b34 26 [Value.int .i64 a24.al, nx25, ac26] ∧ Blk w' b78 26 [Value.int .i64 a706.al, nx707, ac708]) mixed (⟨hB37, hB81⟩) (fun w719 e720 hS => ?_)
    clear hS
    have hs721 := Below.size e720
    replace hR := hR.ext e720
    replace G := grown_trans G (Ext.to_grown e720 _)
    replace hB4 := hB4.ext e720
    replace hB12 := hB12.ext e720
    replace hn27 := hn27.ext e720
    replace ha28 := ha28.ext e720
    replace hB37 := hB37.ext e720
    replace hB81 := hB81.ext e720
    replace hn709 := hn709.ext e720
    replace ha710 := ha710.ext e720
    refine Gq.st 0 rfl (by kernel_rfl) rfl .plain rfl (fun _ _ _ h => h) ⟨hB37, hB81⟩ (fun w' x => Still.loadAgg agg26 rfl x.1 rfl) ?_
    refine Gq.st 1 rfl (by kernel_rfl) rfl .plain rfl (fun _ _ _ h => h) ⟨hB37, hB81⟩ (fun w' x => Still.loadAgg agg26 rfl x.2 rfl) ?_
    refine Gq.one 2 rfl (by kernel_rfl) ?_
    refine Sq.storeAgg agg26 .plain rfl rfl (one_cons rfl (one_cons (Rows.one hn27) (one_cons (Row.one ha28) one_nil))) hB4 rfl rfl (fun w722 g723 hB724 => ?_)
    have hs725 := World.grownBy.size g723
    replace hR := hR.grown g723 (by intro h; injection h with h; omega)
    replace G := grown_far G g723 (fun k hk => by injection hk with hk; subst hk; omega)
    replace hB12 := hB12.grown g723 (by intro h; injection h with h; omega)
    replace hn27 := hn27.stored g723 hB4 (by decide) (by decide)
    replace ha28 := ha28.stored g723 hB4 (by decide)
    replace hB37 := hB37.grown g723 (by intro h; injection h with h; omega)
    replace hB81 := hB81.grown g723 (by intro h; injection h with h; omega)
    replace hn709 := hn709.stored g723 hB4 (by decide) (by decide)
    replace ha710 := ha710.stored g723 hB4 (by decide)
    replace hB4 := hB724
    refine Sq.nil ?_
    refine Eq.goes (fun _ => ⟨hB37, hB81⟩) ?_
    refine Gq.one 3 rfl (by kernel_rfl) ?_
    refine Sq.storeAgg agg26 .plain rfl rfl (one_cons rfl (one_cons (Rows.one hn709) (one_cons (Row.one ha710) one_nil))) hB12 rfl rfl (fun w726 g727 hB728 => ?_)
    have hs729 := World.grownBy.size g727
    replace hR := hR.grown g727 (by intro h; injection h with h; omega)
    replace G := grown_far G g727 (fun k hk => by injection hk with hk; subst hk; omega)
    replace hB4 := hB4.grown g727 (by intro h; injection h with h; omega)
    replace hn27 := hn27.stored g727 hB12 (by decide) (by decide)
    replace ha28 := ha28.stored g727 hB12 (by decide)
    replace hn709 := hn709.stored g727 hB12 (by decide) (by decide)
    replace ha710 := ha710.stored g727 hB12 (by decide)
    replace hB12 := hB728
    refine Sq.nil ?_
    refine Eq.goes (fun h => absurd h (by decide)) ?_
    refine Gq.done (by kernel_rfl) ?_
    refine Eq.next ?_
    refine Cq.ret ?_
    refine Eq.retCC rfl rfl rfl agg26 agg26 hB4 hB12 rfl rfl ?_
    exact ⟨⟨_, by omega, hR, G⟩, _, _, _, _, rfl, ⟨_, _, rfl, hn27, ha28⟩, ⟨_, _, rfl, hn709, ha710⟩, by first | exact (Small.of hv711).mono (by omega) | exact Small.mono hv711 (by omega) | exact (Small.of hv696).mono (by omega) | exact Small.mono hv696 (by omega) | exact (Small.of hv681).mono (by omega) | exact Small.mono hv681 (by omega) | exact (Small.of hv650).mono (by omega) | exact Small.mono hv650 (by omega) | exact (Small.of hv635).mono (by omega) | exact Small.mono hv635 (by omega) | exact (Small.of hv620).mono (by omega) | exact Small.mono hv620 (by omega) | exact (Small.of hv567).mono (by omega) | exact Small.mono hv567 (by omega) | exact (Small.of hv548).mono (by omega) | exact Small.mono hv548 (by omega) | exact (Small.of hv516).mono (by omega) | exact Small.mono hv516 (by omega) | exact (Small.of hv485).mono (by omega) | exact Small.mono hv485 (by omega) | exact (Small.of hv470).mono (by omega) | exact Small.mono hv470 (by omega) | exact (Small.of hv455).mono (by omega) | exact Small.mono hv455 (by omega) | exact (Small.of hv424).mono (by omega) | exact Small.mono hv424 (by omega) | exact (Small.of hv409).mono (by omega) | exact Small.mono hv409 (by omega) | exact (Small.of hv394).mono (by omega) | exact Small.mono hv394 (by omega) | exact (Small.of hv363).mono (by omega) | exact Small.mono hv363 (by omega) | exact (Small.of hv321).mono (by omega) | exact Small.mono hv321 (by omega) | exact (Small.of hv302).mono (by omega) | exact Small.mono hv302 (by omega) | exact (Small.of hv270).mono (by omega) | exact Small.mono hv270 (by omega) | exact (Small.of hv239).mono (by omega) | exact Small.mono hv239 (by omega) | exact (Small.of hv224).mono (by omega) | exact Small.mono hv224 (by omega) | exact (Small.of hv209).mono (by omega) | exact Small.mono hv209 (by omega) | exact (Small.of hv178).mono (by omega) | exact Small.mono hv178 (by omega) | exact (Small.of hv163).mono (by omega) | exact Small.mono hv163 (by omega) | exact (Small.of hv148).mono (by omega) | exact Small.mono hv148 (by omega) | exact (Small.of hv116).mono (by omega) | exact Small.mono hv116 (by omega) | exact (Small.of hv74).mono (by omega) | exact Small.mono hv74 (by omega) | exact (Small.of hv59).mono (by omega) | exact Small.mono hv59 (by omega) | exact (Small.of hv29).mono (by omega) | exact Small.mono hv29 (by omega), by first | exact (Small.of hv711).mono (by omega) | exact Small.mono hv711 (by omega) | exact (Small.of hv696).mono (by omega) | exact Small.mono hv696 (by omega) | exact (Small.of hv681).mono (by omega) | exact Small.mono hv681 (by omega) | exact (Small.of hv650).mono (by omega) | exact Small.mono hv650 (by omega) | exact (Small.of hv635).mono (by omega) | exact Small.mono hv635 (by omega) | exact (Small.of hv620).mono (by omega) | exact Small.mono hv620 (by omega) | exact (Small.of hv567).mono (by omega) | exact Small.mono hv567 (by omega) | exact (Small.of hv548).mono (by omega) | exact Small.mono hv548 (by omega) | exact (Small.of hv516).mono (by omega) | exact Small.mono hv516 (by omega) | exact (Small.of hv485).mono (by omega) | exact Small.mono hv485 (by omega) | exact (Small.of hv470).mono (by omega) | exact Small.mono hv470 (by omega) | exact (Small.of hv455).mono (by omega) | exact Small.mono hv455 (by omega) | exact (Small.of hv424).mono (by omega) | exact Small.mono hv424 (by omega) | exact (Small.of hv409).mono (by omega) | exact Small.mono hv409 (by omega) | exact (Small.of hv394).mono (by omega) | exact Small.mono hv394 (by omega) | exact (Small.of hv363).mono (by omega) | exact Small.mono hv363 (by omega) | exact (Small.of hv321).mono (by omega) | exact Small.mono hv321 (by omega) | exact (Small.of hv302).mono (by omega) | exact Small.mono hv302 (by omega) | exact (Small.of hv270).mono (by omega) | exact Small.mono hv270 (by omega) | exact (Small.of hv239).mono (by omega) | exact Small.mono hv239 (by omega) | exact (Small.of hv224).mono (by omega) | exact Small.mono hv224 (by omega) | exact (Small.of hv209).mono (by omega) | exact Small.mono hv209 (by omega) | exact (Small.of hv178).mono (by omega) | exact Small.mono hv178 (by omega) | exact (Small.of hv163).mono (by omega) | exact Small.mono hv163 (by omega) | exact (Small.of hv148).mono (by omega) | exact Small.mono hv148 (by omega) | exact (Small.of hv116).mono (by omega) | exact Small.mono hv116 (by omega) | exact (Small.of hv74).mono (by omega) | exact Small.mono hv74 (by omega) | exact (Small.of hv59).mono (by omega) | exact Small.mono hv59 (by omega) | exact (Small.of hv29).mono (by omega) | exact Small.mono hv29 (by omega)⟩
  refine Sq.assign .plain rfl rfl ?_
  refine Sq.nil ?_
  refine Eq.next ?_
  refine Cq.els rfl ?_
  refine Cq.seq ?_
  refine Cq.region ?_
  refine Sq.eql .plain rfl rfl rfl ?_
  refine Sq.part (fun c730 => ?_) (fun c730 => ?_)
  · refine Sq.assign .plain rfl rfl ?_
    refine Sq.nil ?_
    refine Eq.next ?_
    refine Cq.thn rfl ?_
    refine Cq.region ?_
    refine Sq.move .plain rfl rfl ?_
    refine Sq.call fn69 .plain rfl rfl (l3Draw_c _ _ _ _ _ _ hR (hb.go G) hbl (by omega) ) ?_
    rintro _ w732 ⟨⟨p733, hp736, hB735, g734⟩, ⟨a737, ⟨nx738, ac739, rfl, hn740, ha741⟩, hv742, hal743⟩⟩
    have hs744 := World.grownBy.size g734
    have hs745 := World.grownBy.size G
    have hs746 := World.grownBy.size g734
    replace G := grown_trans G g734
    replace hB4 := hB4.grown g734 (by intro h; injection h with h; omega)
    replace hB12 := hB12.grown g734 (by intro h; injection h with h; omega)
    replace hn27 := hn27.stored g734 hR (by decide) (by decide)
    replace ha28 := ha28.stored g734 hR (by decide)
    replace hB37 := hB37.grown g734 (by intro h; injection h with h; omega)
    replace hB81 := hB81.grown g734 (by intro h; injection h with h; omega)
    replace hR := hB735
    refine Sq.storeAgg agg26 .plain rfl rfl (one_cons rfl (one_cons (Rows.one hn740) (one_cons (Row.one ha741) one_nil))) hB81 rfl rfl (fun w747 g748 hB749 => ?_)
    have hs750 := World.grownBy.size g748
    replace hR := hR.grown g748 (by intro h; injection h with h; omega)
    replace G := grown_far G g748 (fun k hk => by injection hk with hk; subst hk; omega)
    replace hB4 := hB4.grown g748 (by intro h; injection h with h; omega)
    replace hB12 := hB12.grown g748 (by intro h; injection h with h; omega)
    replace hn27 := hn27.stored g748 hB81 (by decide) (by decide)
    replace ha28 := ha28.stored g748 hB81 (by decide)
    replace hB37 := hB37.grown g748 (by intro h; injection h with h; omega)
    replace hn740 := hn740.stored g748 hB81 (by decide) (by decide)
    replace ha741 := ha741.stored g748 hB81 (by decide)
    replace hB81 := hB749
    refine Sq.nil ?_
    refine Eq.end ?_
    refine Eq.next ?_
    refine Cq.seq ?_
    refine Cq.drawS 3 (fun w' => Blk w' b34 26 [Value.int .i64 a24.al, nx25, ac26] ∧ Blk w' b78 26 [Value.int .i64 a737.al, nx738, ac739]) mixed (⟨hB37, hB81⟩) (fun w751 e752 hS => ?_)
    clear hS
    have hs753 := Below.size e752
    replace hR := hR.ext e752
    replace G := grown_trans G (Ext.to_grown e752 _)
    replace hB4 := hB4.ext e752
    replace hB12 := hB12.ext e752
    replace hn27 := hn27.ext e752
    replace ha28 := ha28.ext e752
    replace hB37 := hB37.ext e752
    replace hB81 := hB81.ext e752
    replace hn740 := hn740.ext e752
    replace ha741 := ha741.ext e752
    refine Gq.st 0 rfl (by kernel_rfl) rfl .plain rfl (fun _ _ _ h => h) ⟨hB37, hB81⟩ (fun w' x => Still.loadAgg agg26 rfl x.1 rfl) ?_
    refine Gq.st 1 rfl (by kernel_rfl) rfl .plain rfl (fun _ _ _ h => h) ⟨hB37, hB81⟩ (fun w' x => Still.loadAgg agg26 rfl x.2 rfl) ?_
    refine Gq.one 2 rfl (by kernel_rfl) ?_
    refine Sq.storeAgg agg26 .plain rfl rfl (one_cons rfl (one_cons (Rows.one hn27) (one_cons (Row.one ha28) one_nil))) hB4 rfl rfl (fun w754 g755 hB756 => ?_)
    have hs757 := World.grownBy.size g755
    replace hR := hR.grown g755 (by intro h; injection h with h; omega)
    replace G := grown_far G g755 (fun k hk => by injection hk with hk; subst hk; omega)
    replace hB12 := hB12.grown g755 (by intro h; injection h with h; omega)
    replace hn27 := hn27.stored g755 hB4 (by decide) (by decide)
    replace ha28 := ha28.stored g755 hB4 (by decide)
    replace hB37 := hB37.grown g755 (by intro h; injection h with h; omega)
    replace hB81 := hB81.grown g755 (by intro h; injection h with h; omega)
    replace hn740 := hn740.stored g755 hB4 (by decide) (by decide)
    replace ha741 := ha741.stored g755 hB4 (by decide)
    replace hB4 := hB756
    refine Sq.nil ?_
    refine Eq.goes (fun _ => ⟨hB37, hB81⟩) ?_
    refine Gq.one 3 rfl (by kernel_rfl) ?_
    refine Sq.storeAgg agg26 .plain rfl rfl (one_cons rfl (one_cons (Rows.one hn740) (one_cons (Row.one ha741) one_nil))) hB12 rfl rfl (fun w758 g759 hB760 => ?_)
    have hs761 := World.grownBy.size g759
    replace hR := hR.grown g759 (by intro h; injection h with h; omega)
    replace G := grown_far G g759 (fun k hk => by injection hk with hk; subst hk; omega)
    replace hB4 := hB4.grown g759 (by intro h; injection h with h; omega)
    replace hn27 := hn27.stored g759 hB12 (by decide) (by decide)
    replace ha28 := ha28.stored g759 hB12 (by decide)
    replace hn740 := hn740.stored g759 hB12 (by decide) (by decide)
    replace ha741 := ha741.stored g759 hB12 (by decide)
    replace hB12 := hB760
    refine Sq.nil ?_
    refine Eq.goes (fun h => absurd h (by decide)) ?_
    refine Gq.done (by kernel_rfl) ?_
    refine Eq.next ?_
    refine Cq.ret ?_
    refine Eq.retCC rfl rfl rfl agg26 agg26 hB4 hB12 rfl rfl ?_
    exact ⟨⟨_, by omega, hR, G⟩, _, _, _, _, rfl, ⟨_, _, rfl, hn27, ha28⟩, ⟨_, _, rfl, hn740, ha741⟩, by first | exact (Small.of hv742).mono (by omega) | exact Small.mono hv742 (by omega) | exact (Small.of hv711).mono (by omega) | exact Small.mono hv711 (by omega) | exact (Small.of hv696).mono (by omega) | exact Small.mono hv696 (by omega) | exact (Small.of hv681).mono (by omega) | exact Small.mono hv681 (by omega) | exact (Small.of hv650).mono (by omega) | exact Small.mono hv650 (by omega) | exact (Small.of hv635).mono (by omega) | exact Small.mono hv635 (by omega) | exact (Small.of hv620).mono (by omega) | exact Small.mono hv620 (by omega) | exact (Small.of hv567).mono (by omega) | exact Small.mono hv567 (by omega) | exact (Small.of hv548).mono (by omega) | exact Small.mono hv548 (by omega) | exact (Small.of hv516).mono (by omega) | exact Small.mono hv516 (by omega) | exact (Small.of hv485).mono (by omega) | exact Small.mono hv485 (by omega) | exact (Small.of hv470).mono (by omega) | exact Small.mono hv470 (by omega) | exact (Small.of hv455).mono (by omega) | exact Small.mono hv455 (by omega) | exact (Small.of hv424).mono (by omega) | exact Small.mono hv424 (by omega) | exact (Small.of hv409).mono (by omega) | exact Small.mono hv409 (by omega) | exact (Small.of hv394).mono (by omega) | exact Small.mono hv394 (by omega) | exact (Small.of hv363).mono (by omega) | exact Small.mono hv363 (by omega) | exact (Small.of hv321).mono (by omega) | exact Small.mono hv321 (by omega) | exact (Small.of hv302).mono (by omega) | exact Small.mono hv302 (by omega) | exact (Small.of hv270).mono (by omega) | exact Small.mono hv270 (by omega) | exact (Small.of hv239).mono (by omega) | exact Small.mono hv239 (by omega) | exact (Small.of hv224).mono (by omega) | exact Small.mono hv224 (by omega) | exact (Small.of hv209).mono (by omega) | exact Small.mono hv209 (by omega) | exact (Small.of hv178).mono (by omega) | exact Small.mono hv178 (by omega) | exact (Small.of hv163).mono (by omega) | exact Small.mono hv163 (by omega) | exact (Small.of hv148).mono (by omega) | exact Small.mono hv148 (by omega) | exact (Small.of hv116).mono (by omega) | exact Small.mono hv116 (by omega) | exact (Small.of hv74).mono (by omega) | exact Small.mono hv74 (by omega) | exact (Small.of hv59).mono (by omega) | exact Small.mono hv59 (by omega) | exact (Small.of hv29).mono (by omega) | exact Small.mono hv29 (by omega), by first | exact (Small.of hv742).mono (by omega) | exact Small.mono hv742 (by omega) | exact (Small.of hv711).mono (by omega) | exact Small.mono hv711 (by omega) | exact (Small.of hv696).mono (by omega) | exact Small.mono hv696 (by omega) | exact (Small.of hv681).mono (by omega) | exact Small.mono hv681 (by omega) | exact (Small.of hv650).mono (by omega) | exact Small.mono hv650 (by omega) | exact (Small.of hv635).mono (by omega) | exact Small.mono hv635 (by omega) | exact (Small.of hv620).mono (by omega) | exact Small.mono hv620 (by omega) | exact (Small.of hv567).mono (by omega) | exact Small.mono hv567 (by omega) | exact (Small.of hv548).mono (by omega) | exact Small.mono hv548 (by omega) | exact (Small.of hv516).mono (by omega) | exact Small.mono hv516 (by omega) | exact (Small.of hv485).mono (by omega) | exact Small.mono hv485 (by omega) | exact (Small.of hv470).mono (by omega) | exact Small.mono hv470 (by omega) | exact (Small.of hv455).mono (by omega) | exact Small.mono hv455 (by omega) | exact (Small.of hv424).mono (by omega) | exact Small.mono hv424 (by omega) | exact (Small.of hv409).mono (by omega) | exact Small.mono hv409 (by omega) | exact (Small.of hv394).mono (by omega) | exact Small.mono hv394 (by omega) | exact (Small.of hv363).mono (by omega) | exact Small.mono hv363 (by omega) | exact (Small.of hv321).mono (by omega) | exact Small.mono hv321 (by omega) | exact (Small.of hv302).mono (by omega) | exact Small.mono hv302 (by omega) | exact (Small.of hv270).mono (by omega) | exact Small.mono hv270 (by omega) | exact (Small.of hv239).mono (by omega) | exact Small.mono hv239 (by omega) | exact (Small.of hv224).mono (by omega) | exact Small.mono hv224 (by omega) | exact (Small.of hv209).mono (by omega) | exact Small.mono hv209 (by omega) | exact (Small.of hv178).mono (by omega) | exact Small.mono hv178 (by omega) | exact (Small.of hv163).mono (by omega) | exact Small.mono hv163 (by omega) | exact (Small.of hv148).mono (by omega) | exact Small.mono hv148 (by omega) | exact (Small.of hv116).mono (by omega) | exact Small.mono hv116 (by omega) | exact (Small.of hv74).mono (by omega) | exact Small.mono hv74 (by omega) | exact (Small.of hv59).mono (by omega) | exact Small.mono hv59 (by omega) | exact (Small.of hv29).mono (by omega) | exact Small.mono hv29 (by omega)⟩
  refine Sq.assign .plain rfl rfl ?_
  refine Sq.nil ?_
  refine Eq.next ?_
  refine Cq.els rfl ?_
  refine Cq.seq ?_
  refine Cq.region ?_
  refine Sq.eql .plain rfl rfl rfl ?_
  refine Sq.part (fun c762 => ?_) (fun c762 => ?_)
  · refine Sq.assign .plain rfl rfl ?_
    refine Sq.nil ?_
    refine Eq.next ?_
    refine Cq.thn rfl ?_
    refine Cq.seq ?_
    refine Cq.region ?_
    refine Sq.move .plain rfl rfl ?_
    refine Sq.call fn72 .plain rfl rfl (l3Big_c _ _ _ _ _ _ hR (hb.go G) hbl (by omega) ) ?_
    rintro _ w764 ⟨⟨p765, hp768, hB767, g766⟩, ⟨a769, ⟨nx770, ac771, rfl, hn772, ha773⟩, hv774⟩⟩
    have hs775 := World.grownBy.size g766
    have hs776 := World.grownBy.size G
    have hs777 := World.grownBy.size g766
    replace G := grown_trans G g766
    replace hB4 := hB4.grown g766 (by intro h; injection h with h; omega)
    replace hB12 := hB12.grown g766 (by intro h; injection h with h; omega)
    replace hB37 := hB37.grown g766 (by intro h; injection h with h; omega)
    replace hB81 := hB81.grown g766 (by intro h; injection h with h; omega)
    replace hR := hB767
    refine Sq.storeAgg agg26 .plain rfl rfl (one_cons rfl (one_cons (Rows.one (OwnRows.rows hn772)) (one_cons (Row.one (Own.row ha773)) one_nil))) hB37 rfl rfl (fun w778 g779 hB780 => ?_)
    have hs781 := World.grownBy.size g779
    replace hR := hR.grown g779 (by intro h; injection h with h; omega)
    replace G := grown_far G g779 (fun k hk => by injection hk with hk; subst hk; omega)
    replace hB4 := hB4.grown g779 (by intro h; injection h with h; omega)
    replace hB12 := hB12.grown g779 (by intro h; injection h with h; omega)
    replace hB81 := hB81.grown g779 (by intro h; injection h with h; omega)
    replace hn772 := hn772.stored g779 hB37 (by decide) (by decide)
    replace ha773 := ha773.stored g779 hB37 (by decide)
    replace hB37 := hB780
    refine Sq.nil ?_
    refine Eq.next ?_
    refine Cq.region ?_
    refine Sq.move .plain rfl rfl ?_
    refine Sq.loadAgg agg26 .plain rfl rfl hB37 rfl ?_
    refine Sq.call fn49 .plain rfl rfl (l4Change_c _ _ _ _ _ _ hR (hb.go G) hbl (by omega) a769 _ _ (OwnRows.rows hn772) (Own.row ha773) _ (by omega) (Small.of hv774)) ?_
    rintro _ w783 ⟨⟨p784, hp787, hB786, g785⟩, ⟨a788, ⟨nx789, ac790, rfl, hn791, ha792⟩, hv793⟩⟩
    have hs794 := World.grownBy.size g785
    have hs795 := World.grownBy.size G
    have hs796 := World.grownBy.size g785
    replace G := grown_trans G g785
    replace hB4 := hB4.grown g785 (by intro h; injection h with h; omega)
    replace hB12 := hB12.grown g785 (by intro h; injection h with h; omega)
    replace hB37 := hB37.grown g785 (by intro h; injection h with h; omega)
    replace hB81 := hB81.grown g785 (by intro h; injection h with h; omega)
    replace hn772 := hn772.stored g785 hR (by decide) (by decide)
    replace ha773 := ha773.stored g785 hR (by decide)
    replace hR := hB786
    refine Sq.storeAgg agg26 .plain rfl rfl (one_cons rfl (one_cons (Rows.one hn791) (one_cons (Row.one ha792) one_nil))) hB81 rfl rfl (fun w797 g798 hB799 => ?_)
    have hs800 := World.grownBy.size g798
    replace hR := hR.grown g798 (by intro h; injection h with h; omega)
    replace G := grown_far G g798 (fun k hk => by injection hk with hk; subst hk; omega)
    replace hB4 := hB4.grown g798 (by intro h; injection h with h; omega)
    replace hB12 := hB12.grown g798 (by intro h; injection h with h; omega)
    replace hB37 := hB37.grown g798 (by intro h; injection h with h; omega)
    replace hn772 := hn772.stored g798 hB81 (by decide) (by decide)
    replace ha773 := ha773.stored g798 hB81 (by decide)
    replace hn791 := hn791.stored g798 hB81 (by decide) (by decide)
    replace ha792 := ha792.stored g798 hB81 (by decide)
    replace hB81 := hB799
    refine Sq.nil ?_
    refine Eq.end ?_
    refine Eq.next ?_
    refine Cq.seq ?_
    refine Cq.drawS 3 (fun w' => Blk w' b34 26 [Value.int .i64 a769.al, nx770, ac771] ∧ Blk w' b78 26 [Value.int .i64 a788.al, nx789, ac790]) mixed (⟨hB37, hB81⟩) (fun w801 e802 hS => ?_)
    clear hS
    have hs803 := Below.size e802
    replace hR := hR.ext e802
    replace G := grown_trans G (Ext.to_grown e802 _)
    replace hB4 := hB4.ext e802
    replace hB12 := hB12.ext e802
    replace hB37 := hB37.ext e802
    replace hB81 := hB81.ext e802
    replace hn772 := hn772.ext e802
    replace ha773 := ha773.ext e802
    replace hn791 := hn791.ext e802
    replace ha792 := ha792.ext e802
    refine Gq.st 0 rfl (by kernel_rfl) rfl .plain rfl (fun _ _ _ h => h) ⟨hB37, hB81⟩ (fun w' x => Still.loadAgg agg26 rfl x.1 rfl) ?_
    refine Gq.st 1 rfl (by kernel_rfl) rfl .plain rfl (fun _ _ _ h => h) ⟨hB37, hB81⟩ (fun w' x => Still.loadAgg agg26 rfl x.2 rfl) ?_
    refine Gq.one 2 rfl (by kernel_rfl) ?_
    refine Sq.storeAgg agg26 .plain rfl rfl (one_cons rfl (one_cons (Rows.one (OwnRows.rows hn772)) (one_cons (Row.one (Own.row ha773)) one_nil))) hB4 rfl rfl (fun w804 g805 hB806 => ?_)
    have hs807 := World.grownBy.size g805
    replace hR := hR.grown g805 (by intro h; injection h with h; omega)
    replace G := grown_far G g805 (fun k hk => by injection hk with hk; subst hk; omega)
    replace hB12 := hB12.grown g805 (by intro h; injection h with h; omega)
    replace hB37 := hB37.grown g805 (by intro h; injection h with h; omega)
    replace hB81 := hB81.grown g805 (by intro h; injection h with h; omega)
    replace hn772 := hn772.stored g805 hB4 (by decide) (by decide)
    replace ha773 := ha773.stored g805 hB4 (by decide)
    replace hn791 := hn791.stored g805 hB4 (by decide) (by decide)
    replace ha792 := ha792.stored g805 hB4 (by decide)
    replace hB4 := hB806
    refine Sq.nil ?_
    refine Eq.goes (fun _ => ⟨hB37, hB81⟩) ?_
    refine Gq.one 3 rfl (by kernel_rfl) ?_
    refine Sq.storeAgg agg26 .plain rfl rfl (one_cons rfl (one_cons (Rows.one hn791) (one_cons (Row.one ha792) one_nil))) hB12 rfl rfl (fun w808 g809 hB810 => ?_)
    have hs811 := World.grownBy.size g809
    replace hR := hR.grown g809 (by intro h; injection h with h; omega)
    replace G := grown_far G g809 (fun k hk => by injection hk with hk; subst hk; omega)
    replace hB4 := hB4.grown g809 (by intro h; injection h with h; omega)
    replace hn772 := hn772.stored g809 hB12 (by decide) (by decide)
    replace ha773 := ha773.stored g809 hB12 (by decide)
    replace hn791 := hn791.stored g809 hB12 (by decide) (by decide)
    replace ha792 := ha792.stored g809 hB12 (by decide)
    replace hB12 := hB810
    refine Sq.nil ?_
    refine Eq.goes (fun h => absurd h (by decide)) ?_
    refine Gq.done (by kernel_rfl) ?_
    refine Eq.next ?_
    refine Cq.ret ?_
    refine Eq.retCC rfl rfl rfl agg26 agg26 hB4 hB12 rfl rfl ?_
    exact ⟨⟨_, by omega, hR, G⟩, _, _, _, _, rfl, ⟨_, _, rfl, (OwnRows.rows hn772), (Own.row ha773)⟩, ⟨_, _, rfl, hn791, ha792⟩, by first | exact (Small.of hv793).mono (by omega) | exact Small.mono hv793 (by omega) | exact (Small.of hv774).mono (by omega) | exact Small.mono hv774 (by omega) | exact (Small.of hv742).mono (by omega) | exact Small.mono hv742 (by omega) | exact (Small.of hv711).mono (by omega) | exact Small.mono hv711 (by omega) | exact (Small.of hv696).mono (by omega) | exact Small.mono hv696 (by omega) | exact (Small.of hv681).mono (by omega) | exact Small.mono hv681 (by omega) | exact (Small.of hv650).mono (by omega) | exact Small.mono hv650 (by omega) | exact (Small.of hv635).mono (by omega) | exact Small.mono hv635 (by omega) | exact (Small.of hv620).mono (by omega) | exact Small.mono hv620 (by omega) | exact (Small.of hv567).mono (by omega) | exact Small.mono hv567 (by omega) | exact (Small.of hv548).mono (by omega) | exact Small.mono hv548 (by omega) | exact (Small.of hv516).mono (by omega) | exact Small.mono hv516 (by omega) | exact (Small.of hv485).mono (by omega) | exact Small.mono hv485 (by omega) | exact (Small.of hv470).mono (by omega) | exact Small.mono hv470 (by omega) | exact (Small.of hv455).mono (by omega) | exact Small.mono hv455 (by omega) | exact (Small.of hv424).mono (by omega) | exact Small.mono hv424 (by omega) | exact (Small.of hv409).mono (by omega) | exact Small.mono hv409 (by omega) | exact (Small.of hv394).mono (by omega) | exact Small.mono hv394 (by omega) | exact (Small.of hv363).mono (by omega) | exact Small.mono hv363 (by omega) | exact (Small.of hv321).mono (by omega) | exact Small.mono hv321 (by omega) | exact (Small.of hv302).mono (by omega) | exact Small.mono hv302 (by omega) | exact (Small.of hv270).mono (by omega) | exact Small.mono hv270 (by omega) | exact (Small.of hv239).mono (by omega) | exact Small.mono hv239 (by omega) | exact (Small.of hv224).mono (by omega) | exact Small.mono hv224 (by omega) | exact (Small.of hv209).mono (by omega) | exact Small.mono hv209 (by omega) | exact (Small.of hv178).mono (by omega) | exact Small.mono hv178 (by omega) | exact (Small.of hv163).mono (by omega) | exact Small.mono hv163 (by omega) | exact (Small.of hv148).mono (by omega) | exact Small.mono hv148 (by omega) | exact (Small.of hv116).mono (by omega) | exact Small.mono hv116 (by omega) | exact (Small.of hv74).mono (by omega) | exact Small.mono hv74 (by omega) | exact (Small.of hv59).mono (by omega) | exact Small.mono hv59 (by omega) | exact (Small.of hv29).mono (by omega) | exact Small.mono hv29 (by omega), by first | exact (Small.of hv793).mono (by omega) | exact Small.mono hv793 (by omega) | exact (Small.of hv774).mono (by omega) | exact Small.mono hv774 (by omega) | exact (Small.of hv742).mono (by omega) | exact Small.mono hv742 (by omega) | exact (Small.of hv711).mono (by omega) | exact Small.mono hv711 (by omega) | exact (Small.of hv696).mono (by omega) | exact Small.mono hv696 (by omega) | exact (Small.of hv681).mono (by omega) | exact Small.mono hv681 (by omega) | exact (Small.of hv650).mono (by omega) | exact Small.mono hv650 (by omega) | exact (Small.of hv635).mono (by omega) | exact Small.mono hv635 (by omega) | exact (Small.of hv620).mono (by omega) | exact Small.mono hv620 (by omega) | exact (Small.of hv567).mono (by omega) | exact Small.mono hv567 (by omega) | exact (Small.of hv548).mono (by omega) | exact Small.mono hv548 (by omega) | exact (Small.of hv516).mono (by omega) | exact Small.mono hv516 (by omega) | exact (Small.of hv485).mono (by omega) | exact Small.mono hv485 (by omega) | exact (Small.of hv470).mono (by omega) | exact Small.mono hv470 (by omega) | exact (Small.of hv455).mono (by omega) | exact Small.mono hv455 (by omega) | exact (Small.of hv424).mono (by omega) | exact Small.mono hv424 (by omega) | exact (Small.of hv409).mono (by omega) | exact Small.mono hv409 (by omega) | exact (Small.of hv394).mono (by omega) | exact Small.mono hv394 (by omega) | exact (Small.of hv363).mono (by omega) | exact Small.mono hv363 (by omega) | exact (Small.of hv321).mono (by omega) | exact Small.mono hv321 (by omega) | exact (Small.of hv302).mono (by omega) | exact Small.mono hv302 (by omega) | exact (Small.of hv270).mono (by omega) | exact Small.mono hv270 (by omega) | exact (Small.of hv239).mono (by omega) | exact Small.mono hv239 (by omega) | exact (Small.of hv224).mono (by omega) | exact Small.mono hv224 (by omega) | exact (Small.of hv209).mono (by omega) | exact Small.mono hv209 (by omega) | exact (Small.of hv178).mono (by omega) | exact Small.mono hv178 (by omega) | exact (Small.of hv163).mono (by omega) | exact Small.mono hv163 (by omega) | exact (Small.of hv148).mono (by omega) | exact Small.mono hv148 (by omega) | exact (Small.of hv116).mono (by omega) | exact Small.mono hv116 (by omega) | exact (Small.of hv74).mono (by omega) | exact Small.mono hv74 (by omega) | exact (Small.of hv59).mono (by omega) | exact Small.mono hv59 (by omega) | exact (Small.of hv29).mono (by omega) | exact Small.mono hv29 (by omega)⟩
  refine Sq.assign .plain rfl rfl ?_
  refine Sq.nil ?_
  refine Eq.next ?_
  refine Cq.els rfl ?_
  refine Cq.skip ?_
  refine Eq.end ?_
  refine Eq.next ?_
  refine Cq.seq ?_
  refine Cq.drawS 3 (fun w' => Blk w' b34 26 [Value.int .i64 a24.al, nx25, ac26] ∧ Blk w' b78 26 [Value.int .i64 a69.al, nx70, ac71]) mixed (⟨hB37, hB81⟩) (fun w812 e813 hS => ?_)
  clear hS
  have hs814 := Below.size e813
  replace hR := hR.ext e813
  replace G := grown_trans G (Ext.to_grown e813 _)
  replace hB4 := hB4.ext e813
  replace hB12 := hB12.ext e813
  replace hn27 := hn27.ext e813
  replace ha28 := ha28.ext e813
  replace hB37 := hB37.ext e813
  replace hn72 := hn72.ext e813
  replace ha73 := ha73.ext e813
  replace hB81 := hB81.ext e813
  refine Gq.st 0 rfl (by kernel_rfl) rfl .plain rfl (fun _ _ _ h => h) ⟨hB37, hB81⟩ (fun w' x => Still.loadAgg agg26 rfl x.1 rfl) ?_
  refine Gq.st 1 rfl (by kernel_rfl) rfl .plain rfl (fun _ _ _ h => h) ⟨hB37, hB81⟩ (fun w' x => Still.loadAgg agg26 rfl x.2 rfl) ?_
  refine Gq.one 2 rfl (by kernel_rfl) ?_
  refine Sq.storeAgg agg26 .plain rfl rfl (one_cons rfl (one_cons (Rows.one hn27) (one_cons (Row.one ha28) one_nil))) hB4 rfl rfl (fun w815 g816 hB817 => ?_)
  have hs818 := World.grownBy.size g816
  replace hR := hR.grown g816 (by intro h; injection h with h; omega)
  replace G := grown_far G g816 (fun k hk => by injection hk with hk; subst hk; omega)
  replace hB12 := hB12.grown g816 (by intro h; injection h with h; omega)
  replace hn27 := hn27.stored g816 hB4 (by decide) (by decide)
  replace ha28 := ha28.stored g816 hB4 (by decide)
  replace hB37 := hB37.grown g816 (by intro h; injection h with h; omega)
  replace hn72 := hn72.stored g816 hB4 (by decide) (by decide)
  replace ha73 := ha73.stored g816 hB4 (by decide)
  replace hB81 := hB81.grown g816 (by intro h; injection h with h; omega)
  replace hB4 := hB817
  refine Sq.nil ?_
  refine Eq.goes (fun _ => ⟨hB37, hB81⟩) ?_
  refine Gq.one 3 rfl (by kernel_rfl) ?_
  refine Sq.storeAgg agg26 .plain rfl rfl (one_cons rfl (one_cons (Rows.one hn72) (one_cons (Row.one ha73) one_nil))) hB12 rfl rfl (fun w819 g820 hB821 => ?_)
  have hs822 := World.grownBy.size g820
  replace hR := hR.grown g820 (by intro h; injection h with h; omega)
  replace G := grown_far G g820 (fun k hk => by injection hk with hk; subst hk; omega)
  replace hB4 := hB4.grown g820 (by intro h; injection h with h; omega)
  replace hn27 := hn27.stored g820 hB12 (by decide) (by decide)
  replace ha28 := ha28.stored g820 hB12 (by decide)
  replace hn72 := hn72.stored g820 hB12 (by decide) (by decide)
  replace ha73 := ha73.stored g820 hB12 (by decide)
  replace hB12 := hB821
  refine Sq.nil ?_
  refine Eq.goes (fun h => absurd h (by decide)) ?_
  refine Gq.done (by kernel_rfl) ?_
  refine Eq.next ?_
  refine Cq.ret ?_
  refine Eq.retCC rfl rfl rfl agg26 agg26 hB4 hB12 rfl rfl ?_
  exact ⟨⟨_, by omega, hR, G⟩, _, _, _, _, rfl, ⟨_, _, rfl, hn27, ha28⟩, ⟨_, _, rfl, hn72, ha73⟩, by first | exact (Small.of hv793).mono (by omega) | exact Small.mono hv793 (by omega) | exact (Small.of hv774).mono (by omega) | exact Small.mono hv774 (by omega) | exact (Small.of hv742).mono (by omega) | exact Small.mono hv742 (by omega) | exact (Small.of hv711).mono (by omega) | exact Small.mono hv711 (by omega) | exact (Small.of hv696).mono (by omega) | exact Small.mono hv696 (by omega) | exact (Small.of hv681).mono (by omega) | exact Small.mono hv681 (by omega) | exact (Small.of hv650).mono (by omega) | exact Small.mono hv650 (by omega) | exact (Small.of hv635).mono (by omega) | exact Small.mono hv635 (by omega) | exact (Small.of hv620).mono (by omega) | exact Small.mono hv620 (by omega) | exact (Small.of hv567).mono (by omega) | exact Small.mono hv567 (by omega) | exact (Small.of hv548).mono (by omega) | exact Small.mono hv548 (by omega) | exact (Small.of hv516).mono (by omega) | exact Small.mono hv516 (by omega) | exact (Small.of hv485).mono (by omega) | exact Small.mono hv485 (by omega) | exact (Small.of hv470).mono (by omega) | exact Small.mono hv470 (by omega) | exact (Small.of hv455).mono (by omega) | exact Small.mono hv455 (by omega) | exact (Small.of hv424).mono (by omega) | exact Small.mono hv424 (by omega) | exact (Small.of hv409).mono (by omega) | exact Small.mono hv409 (by omega) | exact (Small.of hv394).mono (by omega) | exact Small.mono hv394 (by omega) | exact (Small.of hv363).mono (by omega) | exact Small.mono hv363 (by omega) | exact (Small.of hv321).mono (by omega) | exact Small.mono hv321 (by omega) | exact (Small.of hv302).mono (by omega) | exact Small.mono hv302 (by omega) | exact (Small.of hv270).mono (by omega) | exact Small.mono hv270 (by omega) | exact (Small.of hv239).mono (by omega) | exact Small.mono hv239 (by omega) | exact (Small.of hv224).mono (by omega) | exact Small.mono hv224 (by omega) | exact (Small.of hv209).mono (by omega) | exact Small.mono hv209 (by omega) | exact (Small.of hv178).mono (by omega) | exact Small.mono hv178 (by omega) | exact (Small.of hv163).mono (by omega) | exact Small.mono hv163 (by omega) | exact (Small.of hv148).mono (by omega) | exact Small.mono hv148 (by omega) | exact (Small.of hv116).mono (by omega) | exact Small.mono hv116 (by omega) | exact (Small.of hv74).mono (by omega) | exact Small.mono hv74 (by omega) | exact (Small.of hv59).mono (by omega) | exact Small.mono hv59 (by omega) | exact (Small.of hv29).mono (by omega) | exact Small.mono hv29 (by omega), by first | exact (Small.of hv793).mono (by omega) | exact Small.mono hv793 (by omega) | exact (Small.of hv774).mono (by omega) | exact Small.mono hv774 (by omega) | exact (Small.of hv742).mono (by omega) | exact Small.mono hv742 (by omega) | exact (Small.of hv711).mono (by omega) | exact Small.mono hv711 (by omega) | exact (Small.of hv696).mono (by omega) | exact Small.mono hv696 (by omega) | exact (Small.of hv681).mono (by omega) | exact Small.mono hv681 (by omega) | exact (Small.of hv650).mono (by omega) | exact Small.mono hv650 (by omega) | exact (Small.of hv635).mono (by omega) | exact Small.mono hv635 (by omega) | exact (Small.of hv620).mono (by omega) | exact Small.mono hv620 (by omega) | exact (Small.of hv567).mono (by omega) | exact Small.mono hv567 (by omega) | exact (Small.of hv548).mono (by omega) | exact Small.mono hv548 (by omega) | exact (Small.of hv516).mono (by omega) | exact Small.mono hv516 (by omega) | exact (Small.of hv485).mono (by omega) | exact Small.mono hv485 (by omega) | exact (Small.of hv470).mono (by omega) | exact Small.mono hv470 (by omega) | exact (Small.of hv455).mono (by omega) | exact Small.mono hv455 (by omega) | exact (Small.of hv424).mono (by omega) | exact Small.mono hv424 (by omega) | exact (Small.of hv409).mono (by omega) | exact Small.mono hv409 (by omega) | exact (Small.of hv394).mono (by omega) | exact Small.mono hv394 (by omega) | exact (Small.of hv363).mono (by omega) | exact Small.mono hv363 (by omega) | exact (Small.of hv321).mono (by omega) | exact Small.mono hv321 (by omega) | exact (Small.of hv302).mono (by omega) | exact Small.mono hv302 (by omega) | exact (Small.of hv270).mono (by omega) | exact Small.mono hv270 (by omega) | exact (Small.of hv239).mono (by omega) | exact Small.mono hv239 (by omega) | exact (Small.of hv224).mono (by omega) | exact Small.mono hv224 (by omega) | exact (Small.of hv209).mono (by omega) | exact Small.mono hv209 (by omega) | exact (Small.of hv178).mono (by omega) | exact Small.mono hv178 (by omega) | exact (Small.of hv163).mono (by omega) | exact Small.mono hv163 (by omega) | exact (Small.of hv148).mono (by omega) | exact Small.mono hv148 (by omega) | exact (Small.of hv116).mono (by omega) | exact Small.mono hv116 (by omega) | exact (Small.of hv74).mono (by omega) | exact Small.mono hv74 (by omega) | exact (Small.of hv59).mono (by omega) | exact Small.mono hv59 (by omega) | exact (Small.of hv29).mono (by omega) | exact Small.mono hv29 (by omega)⟩
set_option maxRecDepth 100000 in
theorem drawWithin_c (w0 : World) (e : TypeId) (a0 : Option Addr) (c0 : Nat) (cs : List UInt8) (hc : Bytes w0 e (.slice a0 cs.length c0) cs) (hcap : cs.length ≤ c0) : Ret Try.prog 12 #[Value.slice a0 cs.length c0] w0 (fun v w => (∃ (u u' : Value) (a b : A), v = .tuple #[u, u'] ∧ RowsA w u a ∧ RowsA w u' b ∧ Small 400 a ∧ Small 400 b) ∧ Ext w0 w) := by
  have E := Ext.refl w0
  refine Ret.of (args := [Value.slice a0 cs.length c0]) Try.func12 rfl rfl rfl ?_
  rintro _ rfl
  show Cq _ _ _ _ [(0, Value.slice a0 cs.length c0)] _
  refine Cq.seq ?_
  refine Cq.region ?_
  refine Sq.alloc zero26 .plain rfl (fun b1 w2 e3 hB4 hlo5 => ?_)
  have hd6 := Nat.le_trans (Below.size E) hlo5
  have hs7 := Below.size e3
  replace E := E.trans e3
  refine Sq.alloc zero26 .plain rfl (fun b8 w9 e10 hB11 hlo12 => ?_)
  have hd13 := Nat.le_trans (Below.size E) hlo12
  have hd14 := Nat.lt_of_lt_of_le hB4.lt hlo12
  have hs15 := Below.size e10
  replace E := E.trans e10
  replace hB4 := hB4.ext e10
  refine Sq.nil ?_
  refine Eq.next ?_
  refine Cq.seq ?_
  refine Cq.region ?_
  refine Sq.move .plain rfl rfl ?_
  refine Sq.call fn39 .plain rfl rfl (open_c _ _ _ _ _ (hc.ext E) hcap) ?_
  rintro _ w16 ⟨⟨rb, bv, bs, rfl, hrb, hR, hb, hbl⟩, e17⟩
  have hrlt := hR.lt
  have hd18 := Nat.le_trans (Below.size E) hrb
  have hd19 := Nat.lt_of_lt_of_le hB4.lt hrb
  have hd20 := Nat.lt_of_lt_of_le hB11.lt hrb
  have hs21 := Below.size e17
  replace E := E.trans e17
  replace hB4 := hB4.ext e17
  replace hB11 := hB11.ext e17
  have G := World.grownBy.refl w16 (some rb)
  refine Sq.call fn38 .plain rfl rfl (l4Pair_c _ _ _ _ _ _ hR (hb.go G) hbl (by omega) ) ?_
  rintro _ w23 ⟨⟨p24, hp27, hB26, g25⟩, ⟨u28, v29, aX30, aY31, rfl, ⟨nxX32, acX33, rfl, hnX34, haX35⟩, ⟨nxY36, acY37, rfl, hnY38, haY39⟩, hsmX40, hsmY41⟩⟩
  have hs42 := World.grownBy.size g25
  have hs43 := Below.size E
  have hs44 := World.grownBy.size G
  have hs45 := World.grownBy.size g25
  replace E := E.grown g25 (fun k hk => by injection hk with hk; subst hk; omega)
  replace hB4 := hB4.grown g25 (by intro h; injection h with h; omega)
  replace hB11 := hB11.grown g25 (by intro h; injection h with h; omega)
  refine Sq.extract .plain rfl rfl rfl ?_
  refine Sq.extract .plain rfl rfl rfl ?_
  refine Sq.storeAgg agg26 .plain rfl rfl (one_cons rfl (one_cons (Rows.one hnX34) (one_cons (Row.one haX35) one_nil))) hB4 rfl rfl (fun w46 g47 hB48 => ?_)
  have hs49 := World.grownBy.size g47
  replace E := E.grown g47 (fun k hk => by injection hk with hk; subst hk; omega)
  replace hB11 := hB11.grown g47 (by intro h; injection h with h; omega)
  replace hnX34 := hnX34.stored g47 hB4 (by decide) (by decide)
  replace haX35 := haX35.stored g47 hB4 (by decide)
  replace hnY38 := hnY38.stored g47 hB4 (by decide) (by decide)
  replace haY39 := haY39.stored g47 hB4 (by decide)
  replace hB4 := hB48
  refine Sq.storeAgg agg26 .plain rfl rfl (one_cons rfl (one_cons (Rows.one hnY38) (one_cons (Row.one haY39) one_nil))) hB11 rfl rfl (fun w50 g51 hB52 => ?_)
  have hs53 := World.grownBy.size g51
  replace E := E.grown g51 (fun k hk => by injection hk with hk; subst hk; omega)
  replace hB4 := hB4.grown g51 (by intro h; injection h with h; omega)
  replace hnX34 := hnX34.stored g51 hB11 (by decide) (by decide)
  replace haX35 := haX35.stored g51 hB11 (by decide)
  replace hnY38 := hnY38.stored g51 hB11 (by decide) (by decide)
  replace haY39 := haY39.stored g51 hB11 (by decide)
  replace hB11 := hB52
  refine Sq.nil ?_
  refine Eq.next ?_
  refine Cq.ret ?_
  refine Eq.retCC rfl rfl rfl agg26 agg26 hB4 hB11 rfl rfl ?_
  exact ⟨⟨_, _, _, _, rfl, ⟨_, _, rfl, hnX34, haX35⟩, ⟨_, _, rfl, hnY38, haY39⟩, by first | exact (Small.of hsmY41).mono (by omega) | exact Small.mono hsmY41 (by omega) | exact (Small.of hsmX40).mono (by omega) | exact Small.mono hsmX40 (by omega), by first | exact (Small.of hsmY41).mono (by omega) | exact Small.mono hsmY41 (by omega) | exact (Small.of hsmX40).mono (by omega) | exact Small.mono hsmX40 (by omega)⟩, E⟩
end Go.Proofs.Ytoboklelbbgcnaa
set_option linter.unusedSimpArgs false
set_option linter.unusedVariables false
namespace Go.Proofs.Ytoboklelbbgcnaa
open Go.RowKit
set_option maxRecDepth 100000 in
theorem letterByte_c (x : Int) (hx : 0 ≤ x ∧ x ≤ 100) (w0 : World) : Ret Try.prog 119 #[Value.int .i64 x] w0 (fun v w => v = .int .u8 (97 + x) ∧ w0 = w) := by
  refine Ret.of (args := [Value.int .i64 x]) Try.func119 rfl rfl rfl ?_
  rintro _ rfl
  show Cq _ _ _ _ [(0, Value.int .i64 x)] _
  refine Cq.seq ?_
  refine Cq.region ?_
  refine Sq.assign .plain rfl rfl ?_
  refine Sq.nil ?_
  refine Eq.next ?_
  refine Cq.seq ?_
  refine Cq.region ?_
  refine Sq.move .plain rfl rfl ?_
  refine Sq.add .plain rfl rfl rfl (by omega) ?_
  refine Sq.conv8 conv3_5 .plain rfl rfl (by omega) ?_
  refine Sq.assign .plain rfl rfl ?_
  refine Sq.nil ?_
  refine Eq.next ?_
  refine Cq.ret ?_
  refine Eq.ret1 rfl rfl ?_
  exact ⟨rfl, rfl⟩
set_option maxRecDepth 100000 in
theorem reverse_c (w0 : World) (B : Nat) (r : Value) (xs : List UInt8) (ho : Own w0 B 5 r (xs.map fun b => Value.int .u8 (b.toNat : Int))) (hl : xs.length ≤ 1000) : Ret Try.prog 120 #[r] w0 (fun v w => v = .tuple #[] ∧ Own w B 5 r (xs.reverse.map fun b => Value.int .u8 (b.toNat : Int)) ∧ w0.grownBy w r.ownBlock) := by
  have hgo := World.grownBy.refl w0 r.ownBlock
  refine Ret.of (args := [r]) Try.func120 rfl rfl rfl ?_
  rintro _ rfl
  show Cq _ _ _ _ [(0, r)] _
  refine Cq.seq ?_
  refine Cq.region ?_
  refine Sq.move .plain rfl rfl ?_
  refine Sq.lenBytes (Own.row ho) .plain rfl und22 rfl ?_
  refine Sq.sub .plain rfl rfl rfl (by omega) ?_
  refine Sq.assign .plain rfl rfl ?_
  refine Sq.assign .plain rfl rfl ?_
  refine Sq.nil ?_
  refine Eq.next ?_
  refine Cq.block ?_
  rw [show ((xs.length : Int) - 1) = (xs.length : Int) - 1 - 0 by omega]
  refine Cq.loop (fun nn w ls => ∃ (i : Int), ∃ (ys : List UInt8), ls = [(0, r), (2, Value.int .i64 i), (3, Value.int .i64 ((xs.length : Int) - 1 - i))] ∧ (0 ≤ i ∧ i ≤ xs.length) ∧ Own w B 5 r (ys.map fun b => Value.int .u8 (b.toNat : Int)) ∧ RevAt xs i.toNat ys ∧ World.grownBy w0 w r.ownBlock ∧ nn = ((xs.length : Int) - i).toNat) _ _ ⟨0, _, rfl, by omega, ho, RevAt.zero xs, hgo, rfl⟩ (.cons rfl (.cons rfl (.cons rfl (.nil)))) ?_
  rintro nn wl1 ls ⟨i, ys, rfl, hi, ho, hr, hgo, rfl⟩
  have hyl := hr.1
  refine Cq.seq ?_
  refine Cq.seq ?_
  refine Cq.region ?_
  refine Sq.move .plain rfl rfl ?_
  refine Sq.move .plain rfl rfl ?_
  refine Sq.lss .plain rfl rfl rfl ?_
  refine Sq.part (fun c1 => ?_) (fun c1 => ?_)
  · refine Sq.nil ?_
    refine Eq.next ?_
    refine Cq.thn rfl ?_
    refine Cq.skip ?_
    refine Eq.next ?_
    refine Cq.seq ?_
    refine Cq.block ?_
    refine Cq.drawS 14 (fun w' => World.grownBy w0 w' r.ownBlock) mixed (hgo) (fun w2 e3 hS => ?_)
    clear hS
    have hs4 := Below.size e3
    replace hgo := grown_trans hgo (Ext.to_grown e3 _)
    replace ho := ho.ext e3
    have ho_w2 := ho
    refine Gq.st 0 rfl (by kernel_rfl) rfl .plain rfl (fun _ _ _ h => h) hgo (fun w' x => Still.move rfl) ?_
    refine Gq.st 1 rfl (by kernel_rfl) rfl .plain rfl (fun _ _ _ h => h) hgo (fun w' x => Still.move rfl) ?_
    refine Gq.st 2 rfl (by kernel_rfl) rfl .plain rfl (fun _ _ _ h => h) hgo (fun w' x => Still.move rfl) ?_
    refine Gq.st 3 rfl (by kernel_rfl) rfl .plain rfl (fun _ _ _ h => h) hgo (fun w' x => Still.move rfl) ?_
    refine Gq.st 4 rfl (by kernel_rfl) rfl .plain rfl (fun _ _ _ h => h) hgo (fun w' x => Still.move rfl) ?_
    refine Gq.st 5 rfl (by kernel_rfl) rfl .plain rfl (fun _ _ _ h => h) hgo (fun w' x => Still.move rfl) ?_
    refine Gq.st 8 rfl (by kernel_rfl) rfl .plain rfl (fun _ _ _ h => h) hgo (fun w' x => Still.move rfl) ?_
    refine Gq.st 9 rfl (by kernel_rfl) rfl .plain rfl (fun _ _ _ h => h) hgo (fun w' x => Still.move rfl) ?_
    refine Gq.two 6 10 rfl rfl (by kernel_rfl) ?_ ?_
    · obtain ⟨p5, hp6⟩ := Bytes.at (Own.row ho) (i := ((xs.length : Int) - 1 - i)) (by omega) (by omega)
      refine Sq.val .plain rfl rfl (Still.at' sl22 hp6 rfl rfl) ?_
      refine Sq.nil ?_
      refine Eq.goes (fun _ => hgo) ?_
      refine Gq.two 7 10 rfl rfl (by kernel_rfl) ?_ ?_
      · refine Sq.val .plain rfl rfl (Still.loadA one5 rfl hp6.1) ?_
        refine Sq.nil ?_
        refine Eq.goes (fun _ => hgo) ?_
        refine Gq.one 10 rfl (by kernel_rfl) ?_
        obtain ⟨p7, hp8⟩ := Bytes.at (Own.row ho) (i := i) (by omega) (by omega)
        refine Sq.val .plain rfl rfl (Still.at' sl22 hp8 rfl rfl) ?_
        refine Sq.nil ?_
        refine Eq.goes (fun _ => hgo) ?_
        refine Gq.one 11 rfl (by kernel_rfl) ?_
        refine Sq.val .plain rfl rfl (Still.loadA one5 rfl hp8.1) ?_
        refine Sq.nil ?_
        refine Eq.goes (fun _ => hgo) ?_
        obtain ⟨p9, hp10_w2⟩ := Bytes.at (Own.row ho_w2) (i := i) (by omega) (by omega)
        have hp10o := AtO.of ho_w2 hp10_w2
        refine Gq.st 12 rfl (by kernel_rfl) rfl .plain rfl (fun _ _ _ h => h) hgo (fun w' x => Still.at' sl22 hp10_w2 rfl rfl) ?_
        refine Gq.one 13 rfl (by kernel_rfl) ?_
        refine Sq.storeO one5 ho hp10o .plain rfl rfl rfl (fun w11 g12 ho13 => ?_)
        have hs14 := World.grownBy.size g12
        replace hgo := grown_trans hgo g12
        replace ho := ho13
        refine Sq.nil ?_
        refine Eq.goes (fun _ => hgo) ?_
        refine Gq.one 14 rfl (by kernel_rfl) ?_
        obtain ⟨p15, hp16o⟩ := Own.at ho (i := ((xs.length : Int) - 1 - i)) (by omega) (by first | (simp only [List.length_map]; omega) | (simp; omega))
        refine Sq.atO sl22 hp16o .plain rfl rfl rfl ?_
        refine Sq.nil ?_
        refine Eq.goes (fun h => absurd h (by decide)) ?_
        refine Gq.one 15 rfl (by kernel_rfl) ?_
        refine Sq.storeO one5 ho hp16o .plain rfl rfl rfl (fun w17 g18 ho19 => ?_)
        have hs20 := World.grownBy.size g18
        replace hgo := grown_trans hgo g18
        replace ho := ho19
        refine Sq.nil ?_
        refine Eq.goes (fun h => absurd h (by decide)) ?_
        refine Gq.done (by kernel_rfl) ?_
        refine Eq.end ?_
        refine Eq.next ?_
        refine Cq.region ?_
        refine Sq.move .plain rfl rfl ?_
        refine Sq.add .plain rfl rfl rfl (by omega) ?_
        refine Sq.move .plain rfl rfl ?_
        refine Sq.sub .plain rfl rfl rfl (by omega) ?_
        refine Sq.assign .plain rfl rfl ?_
        refine Sq.assign .plain rfl rfl ?_
        refine Sq.nil ?_
        have e1 := toNat_succ hi.1
        have e2 : (((xs.length : Int) - 1 - i) - 1) = (xs.length : Int) - 1 - (i + 1) := by omega
        have e3 := hr.step (by omega)
        have e4 : ((xs.length : Int) - 1 - i).toNat = xs.length - 1 - i.toNat := by omega
        rw [e2]
        refine Eq.round _ _ ⟨i + 1, _, rfl, by omega, Own.setU2 ho, by rw [e1, e4]; exact e3, hgo, rfl⟩ (by omega) (.cons rfl (.cons rfl (.cons rfl (.nil))))
      obtain ⟨p21, hp22⟩ := Bytes.at (Own.row ho) (i := i) (by omega) (by omega)
      refine Sq.val .plain rfl rfl (Still.at' sl22 hp22 rfl rfl) ?_
      refine Sq.nil ?_
      refine Eq.goes (fun _ => hgo) ?_
      refine Gq.two 7 11 rfl rfl (by kernel_rfl) ?_ ?_
      · refine Sq.val .plain rfl rfl (Still.loadA one5 rfl hp6.1) ?_
        refine Sq.nil ?_
        refine Eq.goes (fun _ => hgo) ?_
        refine Gq.one 11 rfl (by kernel_rfl) ?_
        refine Sq.val .plain rfl rfl (Still.loadA one5 rfl hp22.1) ?_
        refine Sq.nil ?_
        refine Eq.goes (fun _ => hgo) ?_
        obtain ⟨p23, hp24_w2⟩ := Bytes.at (Own.row ho_w2) (i := i) (by omega) (by omega)
        have hp24o := AtO.of ho_w2 hp24_w2
        refine Gq.st 12 rfl (by kernel_rfl) rfl .plain rfl (fun _ _ _ h => h) hgo (fun w' x => Still.at' sl22 hp24_w2 rfl rfl) ?_
        refine Gq.one 13 rfl (by kernel_rfl) ?_
        refine Sq.storeO one5 ho hp24o .plain rfl rfl rfl (fun w25 g26 ho27 => ?_)
        have hs28 := World.grownBy.size g26
        replace hgo := grown_trans hgo g26
        replace ho := ho27
        refine Sq.nil ?_
        refine Eq.goes (fun _ => hgo) ?_
        refine Gq.one 14 rfl (by kernel_rfl) ?_
        obtain ⟨p29, hp30o⟩ := Own.at ho (i := ((xs.length : Int) - 1 - i)) (by omega) (by first | (simp only [List.length_map]; omega) | (simp; omega))
        refine Sq.atO sl22 hp30o .plain rfl rfl rfl ?_
        refine Sq.nil ?_
        refine Eq.goes (fun h => absurd h (by decide)) ?_
        refine Gq.one 15 rfl (by kernel_rfl) ?_
        refine Sq.storeO one5 ho hp30o .plain rfl rfl rfl (fun w31 g32 ho33 => ?_)
        have hs34 := World.grownBy.size g32
        replace hgo := grown_trans hgo g32
        replace ho := ho33
        refine Sq.nil ?_
        refine Eq.goes (fun h => absurd h (by decide)) ?_
        refine Gq.done (by kernel_rfl) ?_
        refine Eq.end ?_
        refine Eq.next ?_
        refine Cq.region ?_
        refine Sq.move .plain rfl rfl ?_
        refine Sq.add .plain rfl rfl rfl (by omega) ?_
        refine Sq.move .plain rfl rfl ?_
        refine Sq.sub .plain rfl rfl rfl (by omega) ?_
        refine Sq.assign .plain rfl rfl ?_
        refine Sq.assign .plain rfl rfl ?_
        refine Sq.nil ?_
        have e1 := toNat_succ hi.1
        have e2 : (((xs.length : Int) - 1 - i) - 1) = (xs.length : Int) - 1 - (i + 1) := by omega
        have e3 := hr.step (by omega)
        have e4 : ((xs.length : Int) - 1 - i).toNat = xs.length - 1 - i.toNat := by omega
        rw [e2]
        refine Eq.round _ _ ⟨i + 1, _, rfl, by omega, Own.setU2 ho, by rw [e1, e4]; exact e3, hgo, rfl⟩ (by omega) (.cons rfl (.cons rfl (.cons rfl (.nil))))
      refine Sq.val .plain rfl rfl (Still.loadA one5 rfl hp22.1) ?_
      refine Sq.nil ?_
      refine Eq.goes (fun _ => hgo) ?_
      refine Gq.one 7 rfl (by kernel_rfl) ?_
      refine Sq.val .plain rfl rfl (Still.loadA one5 rfl hp6.1) ?_
      refine Sq.nil ?_
      refine Eq.goes (fun _ => hgo) ?_
      obtain ⟨p35, hp36_w2⟩ := Bytes.at (Own.row ho_w2) (i := i) (by omega) (by omega)
      have hp36o := AtO.of ho_w2 hp36_w2
      refine Gq.st 12 rfl (by kernel_rfl) rfl .plain rfl (fun _ _ _ h => h) hgo (fun w' x => Still.at' sl22 hp36_w2 rfl rfl) ?_
      refine Gq.one 13 rfl (by kernel_rfl) ?_
      refine Sq.storeO one5 ho hp36o .plain rfl rfl rfl (fun w37 g38 ho39 => ?_)
      have hs40 := World.grownBy.size g38
      replace hgo := grown_trans hgo g38
      replace ho := ho39
      refine Sq.nil ?_
      refine Eq.goes (fun _ => hgo) ?_
      refine Gq.one 14 rfl (by kernel_rfl) ?_
      obtain ⟨p41, hp42o⟩ := Own.at ho (i := ((xs.length : Int) - 1 - i)) (by omega) (by first | (simp only [List.length_map]; omega) | (simp; omega))
      refine Sq.atO sl22 hp42o .plain rfl rfl rfl ?_
      refine Sq.nil ?_
      refine Eq.goes (fun h => absurd h (by decide)) ?_
      refine Gq.one 15 rfl (by kernel_rfl) ?_
      refine Sq.storeO one5 ho hp42o .plain rfl rfl rfl (fun w43 g44 ho45 => ?_)
      have hs46 := World.grownBy.size g44
      replace hgo := grown_trans hgo g44
      replace ho := ho45
      refine Sq.nil ?_
      refine Eq.goes (fun h => absurd h (by decide)) ?_
      refine Gq.done (by kernel_rfl) ?_
      refine Eq.end ?_
      refine Eq.next ?_
      refine Cq.region ?_
      refine Sq.move .plain rfl rfl ?_
      refine Sq.add .plain rfl rfl rfl (by omega) ?_
      refine Sq.move .plain rfl rfl ?_
      refine Sq.sub .plain rfl rfl rfl (by omega) ?_
      refine Sq.assign .plain rfl rfl ?_
      refine Sq.assign .plain rfl rfl ?_
      refine Sq.nil ?_
      have e1 := toNat_succ hi.1
      have e2 : (((xs.length : Int) - 1 - i) - 1) = (xs.length : Int) - 1 - (i + 1) := by omega
      have e3 := hr.step (by omega)
      have e4 : ((xs.length : Int) - 1 - i).toNat = xs.length - 1 - i.toNat := by omega
      rw [e2]
      refine Eq.round _ _ ⟨i + 1, _, rfl, by omega, Own.setU2 ho, by rw [e1, e4]; exact e3, hgo, rfl⟩ (by omega) (.cons rfl (.cons rfl (.cons rfl (.nil))))
    obtain ⟨p47, hp48⟩ := Bytes.at (Own.row ho) (i := i) (by omega) (by omega)
    refine Sq.val .plain rfl rfl (Still.at' sl22 hp48 rfl rfl) ?_
    refine Sq.nil ?_
    refine Eq.goes (fun _ => hgo) ?_
    refine Gq.two 6 11 rfl rfl (by kernel_rfl) ?_ ?_
    · obtain ⟨p49, hp50⟩ := Bytes.at (Own.row ho) (i := ((xs.length : Int) - 1 - i)) (by omega) (by omega)
      refine Sq.val .plain rfl rfl (Still.at' sl22 hp50 rfl rfl) ?_
      refine Sq.nil ?_
      refine Eq.goes (fun _ => hgo) ?_
      refine Gq.two 7 11 rfl rfl (by kernel_rfl) ?_ ?_
      · refine Sq.val .plain rfl rfl (Still.loadA one5 rfl hp50.1) ?_
        refine Sq.nil ?_
        refine Eq.goes (fun _ => hgo) ?_
        refine Gq.one 11 rfl (by kernel_rfl) ?_
        refine Sq.val .plain rfl rfl (Still.loadA one5 rfl hp48.1) ?_
        refine Sq.nil ?_
        refine Eq.goes (fun _ => hgo) ?_
        obtain ⟨p51, hp52_w2⟩ := Bytes.at (Own.row ho_w2) (i := i) (by omega) (by omega)
        have hp52o := AtO.of ho_w2 hp52_w2
        refine Gq.st 12 rfl (by kernel_rfl) rfl .plain rfl (fun _ _ _ h => h) hgo (fun w' x => Still.at' sl22 hp52_w2 rfl rfl) ?_
        refine Gq.one 13 rfl (by kernel_rfl) ?_
        refine Sq.storeO one5 ho hp52o .plain rfl rfl rfl (fun w53 g54 ho55 => ?_)
        have hs56 := World.grownBy.size g54
        replace hgo := grown_trans hgo g54
        replace ho := ho55
        refine Sq.nil ?_
        refine Eq.goes (fun _ => hgo) ?_
        refine Gq.one 14 rfl (by kernel_rfl) ?_
        obtain ⟨p57, hp58o⟩ := Own.at ho (i := ((xs.length : Int) - 1 - i)) (by omega) (by first | (simp only [List.length_map]; omega) | (simp; omega))
        refine Sq.atO sl22 hp58o .plain rfl rfl rfl ?_
        refine Sq.nil ?_
        refine Eq.goes (fun h => absurd h (by decide)) ?_
        refine Gq.one 15 rfl (by kernel_rfl) ?_
        refine Sq.storeO one5 ho hp58o .plain rfl rfl rfl (fun w59 g60 ho61 => ?_)
        have hs62 := World.grownBy.size g60
        replace hgo := grown_trans hgo g60
        replace ho := ho61
        refine Sq.nil ?_
        refine Eq.goes (fun h => absurd h (by decide)) ?_
        refine Gq.done (by kernel_rfl) ?_
        refine Eq.end ?_
        refine Eq.next ?_
        refine Cq.region ?_
        refine Sq.move .plain rfl rfl ?_
        refine Sq.add .plain rfl rfl rfl (by omega) ?_
        refine Sq.move .plain rfl rfl ?_
        refine Sq.sub .plain rfl rfl rfl (by omega) ?_
        refine Sq.assign .plain rfl rfl ?_
        refine Sq.assign .plain rfl rfl ?_
        refine Sq.nil ?_
        have e1 := toNat_succ hi.1
        have e2 : (((xs.length : Int) - 1 - i) - 1) = (xs.length : Int) - 1 - (i + 1) := by omega
        have e3 := hr.step (by omega)
        have e4 : ((xs.length : Int) - 1 - i).toNat = xs.length - 1 - i.toNat := by omega
        rw [e2]
        refine Eq.round _ _ ⟨i + 1, _, rfl, by omega, Own.setU2 ho, by rw [e1, e4]; exact e3, hgo, rfl⟩ (by omega) (.cons rfl (.cons rfl (.cons rfl (.nil))))
      refine Sq.val .plain rfl rfl (Still.loadA one5 rfl hp48.1) ?_
      refine Sq.nil ?_
      refine Eq.goes (fun _ => hgo) ?_
      refine Gq.one 7 rfl (by kernel_rfl) ?_
      refine Sq.val .plain rfl rfl (Still.loadA one5 rfl hp50.1) ?_
      refine Sq.nil ?_
      refine Eq.goes (fun _ => hgo) ?_
      obtain ⟨p63, hp64_w2⟩ := Bytes.at (Own.row ho_w2) (i := i) (by omega) (by omega)
      have hp64o := AtO.of ho_w2 hp64_w2
      refine Gq.st 12 rfl (by kernel_rfl) rfl .plain rfl (fun _ _ _ h => h) hgo (fun w' x => Still.at' sl22 hp64_w2 rfl rfl) ?_
      refine Gq.one 13 rfl (by kernel_rfl) ?_
      refine Sq.storeO one5 ho hp64o .plain rfl rfl rfl (fun w65 g66 ho67 => ?_)
      have hs68 := World.grownBy.size g66
      replace hgo := grown_trans hgo g66
      replace ho := ho67
      refine Sq.nil ?_
      refine Eq.goes (fun _ => hgo) ?_
      refine Gq.one 14 rfl (by kernel_rfl) ?_
      obtain ⟨p69, hp70o⟩ := Own.at ho (i := ((xs.length : Int) - 1 - i)) (by omega) (by first | (simp only [List.length_map]; omega) | (simp; omega))
      refine Sq.atO sl22 hp70o .plain rfl rfl rfl ?_
      refine Sq.nil ?_
      refine Eq.goes (fun h => absurd h (by decide)) ?_
      refine Gq.one 15 rfl (by kernel_rfl) ?_
      refine Sq.storeO one5 ho hp70o .plain rfl rfl rfl (fun w71 g72 ho73 => ?_)
      have hs74 := World.grownBy.size g72
      replace hgo := grown_trans hgo g72
      replace ho := ho73
      refine Sq.nil ?_
      refine Eq.goes (fun h => absurd h (by decide)) ?_
      refine Gq.done (by kernel_rfl) ?_
      refine Eq.end ?_
      refine Eq.next ?_
      refine Cq.region ?_
      refine Sq.move .plain rfl rfl ?_
      refine Sq.add .plain rfl rfl rfl (by omega) ?_
      refine Sq.move .plain rfl rfl ?_
      refine Sq.sub .plain rfl rfl rfl (by omega) ?_
      refine Sq.assign .plain rfl rfl ?_
      refine Sq.assign .plain rfl rfl ?_
      refine Sq.nil ?_
      have e1 := toNat_succ hi.1
      have e2 : (((xs.length : Int) - 1 - i) - 1) = (xs.length : Int) - 1 - (i + 1) := by omega
      have e3 := hr.step (by omega)
      have e4 : ((xs.length : Int) - 1 - i).toNat = xs.length - 1 - i.toNat := by omega
      rw [e2]
      refine Eq.round _ _ ⟨i + 1, _, rfl, by omega, Own.setU2 ho, by rw [e1, e4]; exact e3, hgo, rfl⟩ (by omega) (.cons rfl (.cons rfl (.cons rfl (.nil))))
    refine Sq.val .plain rfl rfl (Still.loadA one5 rfl hp48.1) ?_
    refine Sq.nil ?_
    refine Eq.goes (fun _ => hgo) ?_
    refine Gq.one 6 rfl (by kernel_rfl) ?_
    obtain ⟨p75, hp76⟩ := Bytes.at (Own.row ho) (i := ((xs.length : Int) - 1 - i)) (by omega) (by omega)
    refine Sq.val .plain rfl rfl (Still.at' sl22 hp76 rfl rfl) ?_
    refine Sq.nil ?_
    refine Eq.goes (fun _ => hgo) ?_
    refine Gq.one 7 rfl (by kernel_rfl) ?_
    refine Sq.val .plain rfl rfl (Still.loadA one5 rfl hp76.1) ?_
    refine Sq.nil ?_
    refine Eq.goes (fun _ => hgo) ?_
    obtain ⟨p77, hp78_w2⟩ := Bytes.at (Own.row ho_w2) (i := i) (by omega) (by omega)
    have hp78o := AtO.of ho_w2 hp78_w2
    refine Gq.st 12 rfl (by kernel_rfl) rfl .plain rfl (fun _ _ _ h => h) hgo (fun w' x => Still.at' sl22 hp78_w2 rfl rfl) ?_
    refine Gq.one 13 rfl (by kernel_rfl) ?_
    refine Sq.storeO one5 ho hp78o .plain rfl rfl rfl (fun w79 g80 ho81 => ?_)
    have hs82 := World.grownBy.size g80
    replace hgo := grown_trans hgo g80
    replace ho := ho81
    refine Sq.nil ?_
    refine Eq.goes (fun _ => hgo) ?_
    refine Gq.one 14 rfl (by kernel_rfl) ?_
    obtain ⟨p83, hp84o⟩ := Own.at ho (i := ((xs.length : Int) - 1 - i)) (by omega) (by first | (simp only [List.length_map]; omega) | (simp; omega))
    refine Sq.atO sl22 hp84o .plain rfl rfl rfl ?_
    refine Sq.nil ?_
    refine Eq.goes (fun h => absurd h (by decide)) ?_
    refine Gq.one 15 rfl (by kernel_rfl) ?_
    refine Sq.storeO one5 ho hp84o .plain rfl rfl rfl (fun w85 g86 ho87 => ?_)
    have hs88 := World.grownBy.size g86
    replace hgo := grown_trans hgo g86
    replace ho := ho87
    refine Sq.nil ?_
    refine Eq.goes (fun h => absurd h (by decide)) ?_
    refine Gq.done (by kernel_rfl) ?_
    refine Eq.end ?_
    refine Eq.next ?_
    refine Cq.region ?_
    refine Sq.move .plain rfl rfl ?_
    refine Sq.add .plain rfl rfl rfl (by omega) ?_
    refine Sq.move .plain rfl rfl ?_
    refine Sq.sub .plain rfl rfl rfl (by omega) ?_
    refine Sq.assign .plain rfl rfl ?_
    refine Sq.assign .plain rfl rfl ?_
    refine Sq.nil ?_
    have e1 := toNat_succ hi.1
    have e2 : (((xs.length : Int) - 1 - i) - 1) = (xs.length : Int) - 1 - (i + 1) := by omega
    have e3 := hr.step (by omega)
    have e4 : ((xs.length : Int) - 1 - i).toNat = xs.length - 1 - i.toNat := by omega
    rw [e2]
    refine Eq.round _ _ ⟨i + 1, _, rfl, by omega, Own.setU2 ho, by rw [e1, e4]; exact e3, hgo, rfl⟩ (by omega) (.cons rfl (.cons rfl (.cons rfl (.nil))))
  refine Sq.nil ?_
  refine Eq.next ?_
  refine Cq.els rfl ?_
  refine Cq.exit ?_
  refine Eq.past ?_
  refine Eq.past ?_
  refine Eq.hit ?_
  refine Eq.fall0 rfl ?_
  exact ⟨rfl, by rw [← hr.done (by omega)]; exact ho, hgo⟩
end Go.Proofs.Ytoboklelbbgcnaa
set_option linter.unusedSimpArgs false
set_option linter.unusedVariables false
namespace Go.Proofs.Ytoboklelbbgcnaa
open Go.RowKit
set_option maxRecDepth 100000 in
theorem l4In_c (w0 : World) (xs : List Int) (r : Value) (hr : Ints w0 3 r xs) (n : Int) (hl : xs.length ≤ 1000000) : Ret Try.prog 112 #[r, Value.int .i64 n] w0 (fun v w => v = .bool (decide (n ∈ xs)) ∧ w0 = w) := by
  refine Ret.of (args := [r, Value.int .i64 n]) Try.func112 rfl rfl rfl ?_
  rintro _ rfl
  show Cq _ _ _ _ [(0, r), (1, Value.int .i64 n)] _
  refine Cq.seq ?_
  refine Cq.region ?_
  refine Sq.assign .plain rfl rfl ?_
  refine Sq.nil ?_
  refine Eq.next ?_
  refine Cq.seq ?_
  refine Cq.seq ?_
  refine Cq.region ?_
  refine Sq.assign .plain rfl rfl ?_
  refine Sq.nil ?_
  refine Eq.next ?_
  refine Cq.block ?_
  refine Cq.loop (fun nn w ls => ∃ (k : Int), ls = [(0, r), (1, Value.int .i64 n), (5, Value.int .i64 k)] ∧ w0 = w ∧ (0 ≤ k ∧ k ≤ xs.length) ∧ n ∉ xs.take k.toNat ∧ nn = ((xs.length : Int) - k).toNat) _ _ ⟨0, rfl, rfl, by omega, by simp, rfl⟩ (.cons rfl (.cons rfl (.cons rfl (.nil)))) ?_
  rintro n1 w ls ⟨k, rfl, rfl, hk, hp, rfl⟩
  refine Cq.seq ?_
  refine Cq.seq ?_
  refine Cq.region ?_
  refine Sq.move .plain rfl rfl ?_
  refine Sq.move .plain rfl rfl ?_
  refine Sq.lenInts hr .plain rfl und55 rfl ?_
  refine Sq.lss .plain rfl rfl rfl ?_
  refine Sq.part (fun c1 => ?_) (fun c1 => ?_)
  · refine Sq.nil ?_
    refine Eq.next ?_
    refine Cq.thn rfl ?_
    refine Cq.skip ?_
    refine Eq.next ?_
    refine Cq.seq ?_
    refine Cq.block ?_
    refine Cq.seq ?_
    refine Cq.region ?_
    refine Sq.move .plain rfl rfl ?_
    refine Sq.move .plain rfl rfl ?_
    refine Sq.idxInts sl55 one3 hr .plain rfl rfl rfl .plain rfl rfl (by omega) (by omega) ?_
    refine Sq.move .plain rfl rfl ?_
    refine Sq.eql .plain rfl rfl rfl ?_
    refine Sq.part (fun hne => ?_) (fun hne => ?_)
    · refine Sq.nil ?_
      refine Eq.next ?_
      refine Cq.thn rfl ?_
      refine Cq.seq ?_
      refine Cq.region ?_
      refine Sq.assign .plain rfl rfl ?_
      refine Sq.nil ?_
      refine Eq.next ?_
      refine Cq.ret ?_
      refine Eq.outRet ?_
      refine Eq.pastRet ?_
      refine Eq.pastRet ?_
      refine Eq.outRet ?_
      refine Eq.pastRet ?_
      refine Eq.ret1 rfl rfl ?_
      exact ⟨by rw [decide_eq_true (hne ▸ getD_mem (by omega))], rfl⟩
    refine Sq.nil ?_
    refine Eq.next ?_
    refine Cq.els rfl ?_
    refine Cq.skip ?_
    refine Eq.end ?_
    refine Eq.next ?_
    refine Cq.region ?_
    refine Sq.move .plain rfl rfl ?_
    refine Sq.add .plain rfl rfl rfl (by omega) ?_
    refine Sq.assign .plain rfl rfl ?_
    refine Sq.nil ?_
    have e1 := toNat_succ hk.1
    refine Eq.round _ _ ⟨k + 1, rfl, rfl, by omega, by rw [e1]; exact notin_snoc hp (by omega) hne, rfl⟩ (by omega) (.cons rfl (.cons rfl (.cons rfl (.nil))))
  refine Sq.nil ?_
  refine Eq.next ?_
  refine Cq.els rfl ?_
  refine Cq.exit ?_
  refine Eq.past ?_
  refine Eq.past ?_
  refine Eq.hit ?_
  refine Eq.next ?_
  refine Cq.seq ?_
  refine Cq.region ?_
  refine Sq.assign .plain rfl rfl ?_
  refine Sq.nil ?_
  refine Eq.next ?_
  refine Cq.ret ?_
  refine Eq.ret1 rfl rfl ?_
  exact ⟨by rw [decide_eq_false (notin_done hp (by omega))], rfl⟩
end Go.Proofs.Ytoboklelbbgcnaa
set_option linter.unusedSimpArgs false
set_option linter.unusedVariables false
namespace Go.Proofs.Ytoboklelbbgcnaa
open Go.RowKit
set_option maxRecDepth 100000 in
theorem pathWord_c (w0 : World) (B : Nat) (tv : Value) (rs : List (Int × Int × Value)) (f : Int → Int → Int) (s : Int) (ws : List (List Int)) (hW : Wid w0 B 108 3 tv (rows3 rs)) (hSt : Trail w0 3 f s ws rs) (wd : List Int) (hwd : ws[ws.length - 1]? = some wd) (hwl : wd.length ≤ 1000) (hsl : ws.length ≤ 1000) : Ret Try.prog 107 #[tv] w0 (fun v w => v = .string (txt wd) ∧ Ext w0 w) := by
  have E := Ext.refl w0
  have hwn := (List.getElem?_eq_some_iff.1 hwd).1
  have hrl := hSt.len
  refine Ret.of (args := [tv]) Try.func107 rfl rfl rfl ?_
  rintro _ rfl
  show Cq _ _ _ _ [(0, tv)] _
  refine Cq.seq ?_
  refine Cq.region ?_
  refine Sq.assign .plain rfl rfl ?_
  refine Sq.nil ?_
  refine Eq.next ?_
  refine Cq.seq ?_
  refine Cq.region ?_
  refine Sq.assign .plain rfl rfl ?_
  refine Sq.nil ?_
  refine Eq.next ?_
  refine Cq.seq ?_
  refine Cq.seq ?_
  refine Cq.region ?_
  refine Sq.move .plain rfl rfl ?_
  refine Sq.lenWid hW .plain rfl und106 rfl ?_
  rw [rows3_length]
  refine Sq.sub .plain rfl rfl rfl (by omega) ?_
  refine Sq.assign .plain rfl rfl ?_
  refine Sq.nil ?_
  refine Eq.next ?_
  refine Cq.block ?_
  refine Cq.loop (fun nn w ls => ∃ (j : Int), ∃ (u : List Int), ∃ (t : List Int), ∃ (ov : Value), ls = [(0, tv), (3, ov), (4, Value.int .i64 j)] ∧ (0 ≤ j) ∧ ws[j.toNat]? = some u ∧ wd = u ++ t ∧ Own w w0.heap.size 5 ov ((txb t.reverse).map fun b => Value.int .u8 (b.toNat : Int)) ∧ Ext w0 w ∧ Wid w B 108 3 tv (rows3 rs) ∧ nn = u.length) _ _ ⟨(List.length rs : Int) - 1, wd, [], _, rfl, by omega, by rw [show ((List.length rs : Int) - 1).toNat = ws.length - 1 by omega]; exact hwd, by simp, Own.nil _ _ _, E, hW, rfl⟩ (.cons rfl (.cons rfl (.cons rfl (.nil)))) ?_
  rintro nn wl1 ls ⟨j, u, t, ov, rfl, hj, hu, hut, ho, E, hW, rfl⟩
  have hs1 := Below.size E
  obtain ⟨p, l, fv, hr, hlk, hfv⟩ := hSt.row _ _ hu
  have hlt := (List.getElem?_eq_some_iff.1 hr).1
  have htl : t.length ≤ 1000 := by rw [hut, List.length_append] at hwl; omega
  have htx : (txb t.reverse).length = t.length := by simp [txb]
  refine Cq.seq ?_
  refine Cq.seq ?_
  refine Cq.region ?_
  refine Sq.move .plain rfl rfl ?_
  refine Sq.move .plain rfl rfl ?_
  obtain ⟨gq2, kq2, hvq2, hlq2, haq2, hbq2, hcq2⟩ := Wid.triple hW (i := j) (by omega) hr
  refine Sq.val .plain rfl rfl (Still.ixV slw106 hvq2 rfl rfl (by omega)) ?_
  refine Sq.fieldAddr fld108_0 .plain rfl rfl ?_
  refine Sq.val .plain rfl rfl (Still.load one3 rfl haq2) ?_
  refine Sq.geq .plain rfl rfl rfl ?_
  refine Sq.part (fun hp => ?_) (fun hp => ?_)
  · refine Sq.nil ?_
    refine Eq.next ?_
    refine Cq.thn rfl ?_
    refine Cq.skip ?_
    refine Eq.next ?_
    refine Cq.seq ?_
    refine Cq.block ?_
    refine Cq.region ?_
    obtain ⟨u2, hu2, hp0, hu3⟩ : ∃ u2, u = u2 ++ [l] ∧ 0 ≤ p ∧ ws[p.toNat]? = some u2 := hlk.resolve_left (fun h => by have := h.2; omega)
    have hll := hSt.lets u (List.mem_of_getElem? hu) l (by rw [hu2]; simp)
    refine Sq.move .plain rfl rfl ?_
    refine Sq.move .plain rfl rfl ?_
    refine Sq.move .plain rfl rfl ?_
    obtain ⟨gq3, kq3, hvq3, hlq3, haq3, hbq3, hcq3⟩ := Wid.triple hW (i := j) (by omega) hr
    refine Sq.val .plain rfl rfl (Still.ixV slw106 hvq3 rfl rfl (by omega)) ?_
    refine Sq.fieldAddr fld108_1 .plain rfl rfl ?_
    refine Sq.val .plain rfl rfl (Still.load one3 rfl hbq3) ?_
    refine Sq.call fn119 .plain rfl rfl (letterByte_c l (by omega) _) ?_
    rintro _ _ ⟨rfl, rfl⟩
    refine Sq.app1 sl22 ho (by omega) (by first | omega | (rw [List.length_map]; omega)) .plain rfl rfl rfl rfl rfl rfl rfl (fun v4 w5 ho7 g6 _ => ?_)
    have hs8 := g6.size
    replace E := E.owned ho g6 (by omega)
    replace hW := hW.owned ho g6 (by decide)
    refine Sq.assign .plain rfl rfl ?_
    refine Sq.nil ?_
    refine Eq.end ?_
    refine Eq.next ?_
    refine Cq.region ?_
    refine Sq.move .plain rfl rfl ?_
    refine Sq.move .plain rfl rfl ?_
    obtain ⟨gq9, kq9, hvq9, hlq9, haq9, hbq9, hcq9⟩ := Wid.triple hW (i := j) (by omega) hr
    refine Sq.val .plain rfl rfl (Still.ixV slw106 hvq9 rfl rfl (by omega)) ?_
    refine Sq.fieldAddr fld108_0 .plain rfl rfl ?_
    refine Sq.val .plain rfl rfl (Still.load one3 rfl haq9) ?_
    refine Sq.assign .plain rfl rfl ?_
    refine Sq.nil ?_
    refine Eq.round _ _ ⟨p, u2, l :: t, _, rfl, hp0, hu3, by rw [hut, hu2]; simp, Own.snocT ho7 hll, E, hW, rfl⟩ (by rw [hu2, List.length_append]; simp) (.cons rfl (.cons rfl (.cons rfl (.nil))))
  refine Sq.nil ?_
  refine Eq.next ?_
  refine Cq.els rfl ?_
  refine Cq.exit ?_
  refine Eq.past ?_
  refine Eq.past ?_
  refine Eq.hit ?_
  refine Eq.next ?_
  refine Cq.seq ?_
  refine Cq.region ?_
  refine Sq.move .plain rfl rfl ?_
  refine Sq.call fn120 .plain rfl rfl (reverse_c _ _ _ _ ho (by omega)) ?_
  rintro _ w10 ⟨rfl, ho12, g11⟩
  have hs13 := World.grownBy.size g11
  replace E := E.owned ho g11 (by omega)
  replace ho := ho12
  refine Sq.nil ?_
  refine Eq.next ?_
  refine Cq.seq ?_
  refine Cq.region ?_
  refine Sq.move .plain rfl rfl ?_
  refine Sq.val .plain rfl rfl (Still.text und22 und8_22 und9 (Own.row ho) rfl) ?_
  refine Sq.assign .plain rfl rfl ?_
  refine Sq.nil ?_
  refine Eq.next ?_
  refine Cq.ret ?_
  refine Eq.ret1 rfl rfl ?_
  rcases hlk with ⟨rfl, _⟩ | ⟨_, _, h0, _⟩
  · exact ⟨by rw [txb_rev, hut]; rfl, E⟩
  exact absurd h0 (by omega)
end Go.Proofs.Ytoboklelbbgcnaa
set_option linter.unusedSimpArgs false
set_option linter.unusedVariables false
namespace Go.Proofs.Ytoboklelbbgcnaa
open Go.RowKit
set_option maxRecDepth 100000 in
theorem visit_c (w0 wb : World) (B bs bt bg n : Nat) (gv nv : Value) (f : Int → Int → Int) (s : Int) (ws : List (List Int)) (D : Int → Prop) (G : Int → Bool) (hclo : GClo Try.prog wb gv D G) (hM : SMem wb w0 3 4 24 108 106 51 B bs bt bg gv n f s ws) (p l q : Int) (v0 : List Int) (hq : q = nodeOf f s v0) (hx : Ints w0 3 nv [q]) (hl : Link ws p l v0) (hv0 : ∀ x ∈ v0, 0 ≤ x ∧ x < 6) (hD : D q) (hqn : 0 ≤ q ∧ q < n) (hwl : ws.length ≤ 1000) : Ret Try.prog 106 #[Value.int .i64 p, Value.int .i64 l, nv, Value.pointer (some ⟨bs, 0, none⟩), Value.pointer (some ⟨bg, 0, none⟩), Value.pointer (some ⟨bt, 0, none⟩)] w0 (fun v w => v = .bool (!decide (q ∈ (ws.map (nodeOf f s))) && G q) ∧ SMem wb w 3 4 24 108 106 51 B bs bt bg gv n f s (wadd f s ws v0)) := by
  obtain ⟨sv, tv, rs, hSb, hSeen, hTb, hW, hSt, hGb, E, hB0, hB1, hB2, hB3⟩ := hM
  obtain ⟨kg, fg, cg, hgv, hFg, hgoal⟩ := hclo
  have hrl := hSt.len
  have hwb := Below.size E
  have hne1 := hSb.ne hTb (by decide)
  have hne2 := hGb.ne hTb (by decide)
  have hne3 := hGb.ne hSb (by decide)
  refine Ret.of (args := [Value.int .i64 p, Value.int .i64 l, nv, Value.pointer (some ⟨bs, 0, none⟩), Value.pointer (some ⟨bg, 0, none⟩), Value.pointer (some ⟨bt, 0, none⟩)]) Try.func106 rfl rfl rfl ?_
  rintro _ rfl
  show Cq _ _ _ _ [(0, Value.int .i64 p), (1, Value.int .i64 l), (2, nv), (3, Value.pointer (some ⟨bs, 0, none⟩)), (4, Value.pointer (some ⟨bg, 0, none⟩)), (5, Value.pointer (some ⟨bt, 0, none⟩))] _
  refine Cq.seq ?_
  refine Cq.region ?_
  refine Sq.assign .plain rfl rfl ?_
  refine Sq.nil ?_
  refine Eq.next ?_
  refine Cq.seq ?_
  refine Cq.region ?_
  refine Sq.assign .plain rfl rfl ?_
  refine Sq.nil ?_
  refine Eq.next ?_
  refine Cq.seq ?_
  refine Cq.region ?_
  refine Sq.assign .plain rfl rfl ?_
  refine Sq.nil ?_
  refine Eq.next ?_
  refine Cq.seq ?_
  refine Cq.seq ?_
  refine Cq.region ?_
  refine Sq.move .plain rfl rfl ?_
  refine Sq.lenInts hx .plain rfl und55 rfl ?_
  refine Sq.move .plain rfl rfl ?_
  refine Sq.nil ?_
  refine Eq.next ?_
  refine Cq.block ?_
  refine Cq.loop (fun nn w ls => ∃ (k : Int), ∃ (ov : Value), ∃ (xs : List Int), ∃ (ms : List Int), ∃ (bv : Bool), ls = [(0, Value.int .i64 p), (1, Value.int .i64 l), (3, Value.pointer (some ⟨bs, 0, none⟩)), (4, Value.pointer (some ⟨bg, 0, none⟩)), (5, Value.pointer (some ⟨bt, 0, none⟩)), (10, ov), (11, Value.bool bv), (14, nv), (15, Value.int .i64 ((List.length ([q] : List Int) : Int))), (16, Value.int .i64 k)] ∧ (0 ≤ k ∧ k ≤ 1) ∧ (w0.heap.size ≤ w.heap.size) ∧ Own w B 4 sv ((seenOf n ms).map Value.bool) ∧ ms = (if k = 0 then (ws.map (nodeOf f s)) else addNode (ws.map (nodeOf f s)) q) ∧ (k = 0 → ov = .slice none 0 0) ∧ Own w w0.heap.size 3 ov (xs.map (Value.int .i64)) ∧ xs = (if k = 0 ∨ q ∈ (ws.map (nodeOf f s)) then [] else [q]) ∧ bv = (decide (k = 1) && (!decide (q ∈ (ws.map (nodeOf f s))) && G q)) ∧ Ext wb w ∧ Blk w bs 24 [sv] ∧ Blk w bg 51 [gv] ∧ Blk w bt 106 [tv] ∧ Wid w B 108 3 tv (rows3 rs) ∧ Ints w 3 nv [q] ∧ Trail w 3 f s ws rs ∧ nn = (1 - k).toNat) _ _ ⟨0, _, [], _, _, rfl, by omega, Nat.le_refl _, hSeen, rfl, fun _ => rfl, Own.nil _ _ _, rfl, rfl, E, hSb, hGb, hTb, hW, hx, hSt, rfl⟩ (.cons rfl (.cons rfl (.cons rfl (.cons rfl (.cons rfl (.cons rfl (.cons rfl (.cons rfl (.cons rfl (.cons rfl (.nil))))))))))) ?_
  rintro nn wl1 ls ⟨k, ov, xs, ms, bv, rfl, hk, hsz, hSeen, hms, hov, ho, hxs, hbv, E, hSb, hGb, hTb, hW, hx, hSt, rfl⟩
  have hs1 := Below.size E
  have hsl := seenOf_length n ms
  have hl1 : (List.length ([q] : List Int) : Int) = 1 := rfl
  refine Cq.seq ?_
  refine Cq.region ?_
  refine Sq.lss .plain rfl rfl rfl ?_
  refine Sq.part (fun c2 => ?_) (fun c2 => ?_)
  · refine Sq.nil ?_
    refine Eq.next ?_
    refine Cq.seq ?_
    refine Cq.thn rfl ?_
    refine Cq.skip ?_
    refine Eq.next ?_
    refine Cq.seq ?_
    refine Cq.block ?_
    refine Cq.seq ?_
    refine Cq.region ?_
    have hk0 : k = 0 := by omega
    obtain rfl := hov hk0
    have hms0 : ms = (ws.map (nodeOf f s)) := by rw [hms, if_pos hk0]
    have hk1 : ([q] : List Int).getD k.toNat 0 = q := by rw [hk0]; rfl
    refine Sq.idxInts sl55 one3 hx .plain rfl rfl rfl .plain rfl rfl (by omega) (by simp only [List.length_singleton]; omega) ?_
    rw [hk1]
    refine Sq.assign .plain rfl rfl ?_
    refine Sq.nil ?_
    refine Eq.next ?_
    refine Cq.seq ?_
    refine Cq.region ?_
    refine Sq.loadB one24 .plain rfl rfl hSb rfl ?_
    refine Sq.move .plain rfl rfl ?_
    refine Sq.idxBools sl24 one4 (Own.row hSeen) .plain rfl rfl rfl .plain rfl rfl (by omega) (by omega) ?_
    refine Sq.partB (fun hse => ?_) (fun hse => ?_)
    · refine Sq.notT .plain rfl rfl ?_
      refine Sq.nil ?_
      refine Eq.next ?_
      refine Cq.els rfl ?_
      refine Cq.skip ?_
      refine Eq.end ?_
      refine Eq.next ?_
      refine Cq.region ?_
      refine Sq.add .plain rfl rfl rfl (by omega) ?_
      refine Sq.move .plain rfl rfl ?_
      refine Sq.nil ?_
      have hnin : q ∈ (ws.map (nodeOf f s)) := by rw [seenOf_at hqn, hms0] at hse; simpa using hse
      refine Eq.round _ _ ⟨k + 1, _, [], _, _, rfl, by omega, by omega, hSeen, by rw [if_neg (by omega), addNode_T hnin, hms0], fun h => absurd h (by omega), Own.nil _ _ _, by rw [if_pos (.inr hnin)], by rw [hbv]; simp [hk0, hnin], E, hSb, hGb, hTb, hW, hx, hSt, rfl⟩ (by omega) (.cons rfl (.cons rfl (.cons rfl (.cons rfl (.cons rfl (.cons rfl (.cons rfl (.cons rfl (.cons rfl (.cons rfl (.nil)))))))))))
    refine Sq.notF .plain rfl rfl ?_
    refine Sq.nil ?_
    refine Eq.next ?_
    refine Cq.thn rfl ?_
    refine Cq.seq ?_
    refine Cq.region ?_
    refine Sq.loadB one24 .plain rfl rfl hSb rfl ?_
    refine Sq.move .plain rfl rfl ?_
    obtain ⟨p3, hp4o⟩ := Own.at hSeen (i := q) (by omega) (by first | (simp only [List.length_map]; omega) | (simp; omega))
    refine Sq.atO sl24 hp4o .plain rfl rfl rfl ?_
    refine Sq.storeO one4 hSeen hp4o .plain rfl rfl rfl (fun w5 g6 ho7 => ?_)
    have hs8 := World.grownBy.size g6
    replace E := E.owned hSeen g6 (by omega)
    replace hSb := hSb.owned hSeen g6 (by decide)
    replace hGb := hGb.owned hSeen g6 (by decide)
    replace hTb := hTb.owned hSeen g6 (by decide)
    replace hW := hW.owned hSeen g6 (by decide)
    replace hx := hx.owned hSeen g6 (by decide)
    replace hSt := hSt.owned hSeen g6 (by decide)
    replace hSeen := ho7
    refine Sq.nil ?_
    refine Eq.next ?_
    refine Cq.seq ?_
    refine Cq.region ?_
    refine Sq.move .plain rfl rfl ?_
    refine Sq.move .plain rfl rfl ?_
    refine Sq.lit sl55 rfl rfl .plain rfl rfl (one_cons rfl one_nil) (fun b9 w10 e11 hlo12 ho13 hk14 => ?_)
    have hs15 := Below.size e11
    replace E := E.trans e11
    replace hSb := hSb.ext e11
    replace hGb := hGb.ext e11
    replace hTb := hTb.ext e11
    replace hW := hW.ext e11
    replace hx := hx.ext e11
    replace hSt := hSt.ext e11
    replace hSeen := hSeen.ext e11
    refine Sq.app1F sl55 (Own.nil _ w0.heap.size 3) (by simp) (by omega) (by simp) hk14 rfl .plain rfl rfl rfl (fun v16 w17 ho19 g18 _ _ => ?_)
    have e20 := Ext.of_grown g18
    have hs21 := Below.size e20
    replace E := E.trans e20
    replace hSb := hSb.ext e20
    replace hGb := hGb.ext e20
    replace hTb := hTb.ext e20
    replace hW := hW.ext e20
    replace hx := hx.ext e20
    replace hSt := hSt.ext e20
    replace hSeen := hSeen.ext e20
    refine Sq.assign .plain rfl rfl ?_
    refine Sq.nil ?_
    refine Eq.next ?_
    refine Cq.region ?_
    refine Sq.move .plain rfl rfl ?_
    refine Sq.beF (by rw [hbv, hk0]; rfl) ?_
    refine Sq.move .plain rfl rfl ?_
    refine Sq.loadB one51 (.met rfl rfl rfl) rfl rfl hGb rfl ?_
    refine Sq.move (.met rfl rfl rfl) rfl rfl ?_
    refine Sq.callC hFg (.met rfl rfl rfl) rfl (by rw [← hgv]; rfl) rfl (hgoal _ q E hD) ?_
    rintro _ w22 ⟨rfl, e23⟩
    have hs24 := Below.size e23
    replace E := E.trans e23
    replace hSb := hSb.ext e23
    replace hGb := hGb.ext e23
    replace hTb := hTb.ext e23
    replace hW := hW.ext e23
    replace hx := hx.ext e23
    replace hSt := hSt.ext e23
    replace hSeen := hSeen.ext e23
    replace ho19 := ho19.ext e23
    refine Sq.pickF .plain rfl rfl rfl ?_
    refine Sq.assign .plain rfl rfl ?_
    refine Sq.partB (fun hgq => ?_) (fun hgq => ?_)
    · refine Sq.nil ?_
      refine Eq.end ?_
      refine Eq.next ?_
      refine Cq.region ?_
      refine Sq.add .plain rfl rfl rfl (by omega) ?_
      refine Sq.move .plain rfl rfl ?_
      refine Sq.nil ?_
      have hnin : q ∉ (ws.map (nodeOf f s)) := by rw [seenOf_at hqn, hms0] at hse; simpa using hse
      refine Eq.round _ _ ⟨k + 1, _, [q], _, _, rfl, by omega, by omega, by rw [← seenOf_set hqn.1, List.map_set]; exact hSeen, by rw [if_neg (by omega), addNode_F hnin, hms0], fun h => absurd h (by omega), by simpa using ho19, by rw [if_neg (by rintro (h | h); omega; exact hnin h)], by simp [hk0, hnin, hgq], E, hSb, hGb, hTb, hW, hx, hSt, rfl⟩ (by omega) (.cons rfl (.cons rfl (.cons rfl (.cons rfl (.cons rfl (.cons rfl (.cons rfl (.cons rfl (.cons rfl (.cons rfl (.nil)))))))))))
    refine Sq.nil ?_
    refine Eq.end ?_
    refine Eq.next ?_
    refine Cq.region ?_
    refine Sq.add .plain rfl rfl rfl (by omega) ?_
    refine Sq.move .plain rfl rfl ?_
    refine Sq.nil ?_
    have hnin : q ∉ (ws.map (nodeOf f s)) := by rw [seenOf_at hqn, hms0] at hse; simpa using hse
    refine Eq.round _ _ ⟨k + 1, _, [q], _, _, rfl, by omega, by omega, by rw [← seenOf_set hqn.1, List.map_set]; exact hSeen, by rw [if_neg (by omega), addNode_F hnin, hms0], fun h => absurd h (by omega), by simpa using ho19, by rw [if_neg (by rintro (h | h); omega; exact hnin h)], by simp [hk0, hnin, hgq], E, hSb, hGb, hTb, hW, hx, hSt, rfl⟩ (by omega) (.cons rfl (.cons rfl (.cons rfl (.cons rfl (.cons rfl (.cons rfl (.cons rfl (.cons rfl (.cons rfl (.cons rfl (.nil)))))))))))
  refine Sq.nil ?_
  refine Eq.next ?_
  refine Cq.seq ?_
  refine Cq.els rfl ?_
  refine Cq.exit ?_
  refine Eq.past ?_
  refine Eq.past ?_
  refine Eq.hit ?_
  refine Eq.next ?_
  refine Cq.seq ?_
  refine Cq.seq ?_
  refine Cq.region ?_
  have hkk : k = 1 := by omega
  refine Sq.move .plain rfl rfl ?_
  refine Sq.lenInts (Own.row ho) .plain rfl und55 rfl ?_
  refine Sq.gtr .plain rfl rfl rfl ?_
  refine Sq.part (fun hfr => ?_) (fun hfr => ?_)
  · refine Sq.nil ?_
    refine Eq.next ?_
    refine Cq.thn rfl ?_
    refine Cq.region ?_
    have hnin : q ∉ (ws.map (nodeOf f s)) := fun h => by rw [hxs, if_pos (.inr h)] at hfr; exact absurd hfr (by decide)
    have hx1 : (xs.map (Value.int .i64)) = [q].map (Value.int .i64) := by rw [hxs, if_neg (by rintro (h | h); omega; exact hnin h)]
    refine Sq.loadB one106 .plain rfl rfl hTb rfl ?_
    refine Sq.move .plain rfl rfl ?_
    refine Sq.move .plain rfl rfl ?_
    refine Sq.move .plain rfl rfl ?_
    refine Sq.build st108 rfl rfl .plain rfl rfl (one_cons rfl (one_cons rfl (one_cons (Row.one (Own.row ho)) one_nil))) rfl ?_
    refine Sq.litW slw106 rfl rfl (by decide) .plain rfl (rows := [[Value.int .i64 p, Value.int .i64 l, ov]]) rfl (fun r hr => by rw [List.mem_singleton.1 hr]; exact ⟨rfl, one_cons rfl (one_cons rfl (one_cons (Row.one (Own.row ho)) one_nil))⟩) (fun b25 w26 e27 hlo28 hw29 hk30 => ?_)
    have hs35 := Below.size e27
    replace E := E.trans e27
    replace hSb := hSb.ext e27
    replace hGb := hGb.ext e27
    replace hTb := hTb.ext e27
    replace hW := hW.ext e27
    replace hSt := hSt.ext e27
    replace hSeen := hSeen.ext e27
    replace ho := ho.ext e27
    refine Sq.appS slw106 hW (by omega) (by rw [rows3_length]; omega) (r := [Value.int .i64 p, Value.int .i64 l, ov]) hk30 ⟨rfl, one_cons rfl (one_cons rfl (one_cons (Row.one (Own.row ho)) one_nil))⟩ .plain rfl rfl rfl (fun v31 w32 hW34 g33 _ _ => ?_)
    have hs36 := World.grownBy.size g33
    replace E := E.wid hW g33 (by omega)
    replace hSb := hSb.wid hW g33 (by decide)
    replace hGb := hGb.wid hW g33 (by decide)
    replace hTb := hTb.wid hW g33 (by decide)
    replace hSt := hSt.wid hW g33 (by decide)
    replace hSeen := hSeen.wid hW g33 (by decide)
    replace ho := ho.wid hW g33 (by decide)
    replace hW : Wid w32 B 108 3 v31 (rows3 (rs ++ [(p, l, ov)])) := by rw [rows3_snoc]; exact hW34
    refine Sq.store one106 .plain rfl rfl (Wid.one hW) hTb (by simp) (fun w37 g38 hB39 => ?_)
    have hs40 := World.grownBy.size g38
    replace E := E.grown g38 (fun k hk => by injection hk with hk; subst hk; omega)
    replace hSb := hSb.grown g38 (by intro h; injection h with h; omega)
    replace hGb := hGb.grown g38 (by intro h; injection h with h; omega)
    replace hW := hW.stored g38 hTb (by decide)
    replace hSt := hSt.stored g38 hTb (by decide)
    replace hSeen := hSeen.stored g38 hTb (by decide)
    replace ho := ho.stored g38 hTb (by decide)
    replace hTb := hB39
    refine Sq.nil ?_
    refine Eq.next ?_
    refine Cq.seq ?_
    refine Cq.region ?_
    refine Sq.move .plain rfl rfl ?_
    refine Sq.assign .plain rfl rfl ?_
    refine Sq.nil ?_
    refine Eq.next ?_
    refine Cq.ret ?_
    refine Eq.ret1 rfl rfl ?_
    have hq2 := hq
    have hn2 : nodeOf f s v0 ∉ (ws.map (nodeOf f s)) := by rw [← hq]; exact hnin
    refine ⟨by rw [hbv]; simp [hkk, hnin], ?_⟩
    rw [wadd_F hn2]
    rw [hms, if_neg (by omega), addNode_F hnin] at hSeen
    exact ⟨sv, _, _, hSb, by rw [List.map_append, List.map_cons, List.map_nil, ← hq]; exact hSeen, hTb, hW, hSt.snoc hl (by rw [← hq]; show Row _ _ _ ([q].map (Value.int .i64)); rw [← hx1]; exact Own.row ho) hv0, hGb, E, by omega, by omega, by omega, by omega⟩
  refine Sq.nil ?_
  refine Eq.next ?_
  refine Cq.els rfl ?_
  refine Cq.skip ?_
  refine Eq.next ?_
  refine Cq.seq ?_
  refine Cq.region ?_
  have hnin : q ∈ (ws.map (nodeOf f s)) := Classical.byContradiction fun h => hfr (by rw [hxs, if_neg (by rintro (h' | h'); omega; exact h h')]; show (0 : Int) < 1; decide)
  refine Sq.move .plain rfl rfl ?_
  refine Sq.assign .plain rfl rfl ?_
  refine Sq.nil ?_
  refine Eq.next ?_
  refine Cq.ret ?_
  refine Eq.ret1 rfl rfl ?_
  have hn2 : nodeOf f s v0 ∈ (ws.map (nodeOf f s)) := by rw [← hq]; exact hnin
  refine ⟨by rw [hbv]; simp [hkk, hnin], ?_⟩
  rw [wadd_T hn2]
  rw [hms, if_neg (by omega), addNode_T hnin] at hSeen
  exact ⟨sv, _, _, hSb, hSeen, hTb, hW, hSt, hGb, E, by omega, by omega, by omega, by omega⟩
end Go.Proofs.Ytoboklelbbgcnaa
set_option linter.unusedSimpArgs false
set_option linter.unusedVariables false
namespace Go.Proofs.Ytoboklelbbgcnaa
open Go.RowKit
set_option maxRecDepth 100000 in
theorem firstPath_c (w0 : World) (nI : Int) (n : Nat) (s : Int) (L : List Int) (sv0 lv fv gv : Value) (f : Int → Int → Int) (G : Int → Bool) (D : Int → Prop) (hnI : nI = n) (hs0 : Ints w0 3 sv0 [s]) (hx : Ints w0 3 lv L) (hLl : L.length ≤ 100) (hL : ∀ x ∈ L, 0 ≤ x ∧ x < 6) (hD0 : D s) (hD : ∀ q, D q → ∀ x ∈ L, D (f q x)) (hDn : ∀ q, D q → 0 ≤ q ∧ q < n) (hn : n ≤ 150) (hclo : NClo Try.prog w0 3 fv D f) (hgo : GClo Try.prog w0 gv D G) : Ret Try.prog 77 #[Value.int .i64 nI, sv0, lv, fv, gv] w0 (fun v w => v = .tuple #[.string (txt ((firstOf f s L G).getD [])), .bool (firstOf f s L G).isSome] ∧ Ext w0 w) := by
  have E := Ext.refl w0
  have hgo2 := hgo
  obtain ⟨kg, fg, cg, hgv0, hFg0, hgoal0⟩ := hgo2
  obtain ⟨kf, fnf, cf, hfv0, hFn, hcall⟩ := hclo
  have hbw := bfsw_range (f := f) (s := s) (L := L) hD0 hD hDn
  refine Ret.of (args := [Value.int .i64 nI, sv0, lv, fv, gv]) Try.func77 rfl rfl rfl ?_
  rintro _ rfl
  show Cq _ _ _ _ [(0, Value.int .i64 nI), (1, sv0), (2, lv), (3, fv), (4, gv)] _
  refine Cq.seq ?_
  refine Cq.region ?_
  refine Sq.box1 .plain rfl rfl (by rw [hgv0]; rfl) (fun b1 w2 e3 hB4 hlo5 => ?_)
  have hd6 := Nat.le_trans (Below.size E) hlo5
  have hs7 := Below.size e3
  replace E := E.trans e3
  refine Sq.assign .plain rfl rfl ?_
  refine Sq.assign .plain rfl rfl ?_
  refine Sq.nil ?_
  refine Eq.next ?_
  refine Cq.seq ?_
  refine Cq.region ?_
  refine Sq.move .plain rfl rfl ?_
  refine Sq.make sl24 .plain rfl rfl rfl rfl (by omega) (fun b8 w9 e10 hlo11 hB12 => ?_)
  replace hB12 := hB12 w2.heap.size (Nat.le_refl _)
  have hs13 := Below.size e10
  replace E := E.trans e10
  replace hB4 := hB4.ext e10
  refine Sq.alloc1 zero24 rfl .plain rfl (fun b14 w15 e16 hB17 hlo18 => ?_)
  have hd19 := Nat.le_trans (Below.size E) hlo18
  have hd20 := Nat.lt_of_lt_of_le hB4.lt hlo18
  have hs21 := Below.size e16
  replace E := E.trans e16
  replace hB4 := hB4.ext e16
  replace hB12 := hB12.ext e16
  refine Sq.store one24 .plain rfl rfl (Row.one (Own.row hB12)) hB17 (by simp) (fun w22 g23 hB24 => ?_)
  have hs25 := World.grownBy.size g23
  replace E := E.grown g23 (fun k hk => by injection hk with hk; subst hk; omega)
  replace hB4 := hB4.grown g23 (by intro h; injection h with h; omega)
  replace hB12 := hB12.stored g23 hB17 (by decide)
  replace hB17 := hB24
  refine Sq.nil ?_
  refine Eq.next ?_
  refine Cq.seq ?_
  refine Cq.region ?_
  refine Sq.alloc1 zero106 rfl .plain rfl (fun b26 w27 e28 hB29 hlo30 => ?_)
  have hd31 := Nat.le_trans (Below.size E) hlo30
  have hd32 := Nat.lt_of_lt_of_le hB4.lt hlo30
  have hd33 := Nat.lt_of_lt_of_le hB17.lt hlo30
  have hs34 := Below.size e28
  replace E := E.trans e28
  replace hB4 := hB4.ext e28
  replace hB12 := hB12.ext e28
  replace hB17 := hB17.ext e28
  refine Sq.nil ?_
  refine Eq.next ?_
  refine Cq.seq ?_
  refine Cq.region ?_
  refine Sq.makeFunc .plain rfl rfl ?_
  refine Sq.assign .plain rfl rfl ?_
  refine Sq.nil ?_
  refine Eq.next ?_
  refine Cq.seq ?_
  refine Cq.seq ?_
  refine Cq.region ?_
  refine Sq.move .plain rfl rfl ?_
  refine Sq.move .plain rfl rfl ?_
  have hM : SMem w0 w27 3 4 24 108 106 51 w2.heap.size b14 b26 b1 gv n f s [] := ⟨_, _, [], hB17, Own.seen0 (seen_n (by omega) hB12), hB29, Wid.nil _ _ _ _, Trail.nil _ _ _ _, hB4, E, by omega, by omega, by omega, by omega⟩
  refine Sq.callC fn106 .plain rfl rfl rfl (visit_c _ _ _ _ _ _ _ _ _ f s _ D G hgo hM _ _ s [] rfl (hs0.ext E) (.inl ⟨rfl, rfl⟩) (by simp) hD0 (hDn _ hD0) (by simp)) ?_
  rintro _ w35 ⟨rfl, hM'⟩
  clear hM
  have hM := hM'
  clear hM'
  replace E := SMem.base hM
  have hs37 := Below.size E
  refine Sq.partB (fun hg0 => ?_) (fun hg0 => ?_)
  · refine Sq.nil ?_
    refine Eq.next ?_
    refine Cq.thn rfl ?_
    refine Cq.seq ?_
    refine Cq.region ?_
    refine Sq.assign .plain rfl rfl ?_
    refine Sq.assign .plain rfl rfl ?_
    refine Sq.nil ?_
    refine Eq.next ?_
    refine Cq.ret ?_
    refine Eq.pastRet ?_
    refine Eq.ret2 rfl rfl rfl ?_
    have e1 := first_here (f := f) (L := L) (by simpa using hg0 : G s = true)
    exact ⟨by rw [e1]; rfl, E⟩
  refine Sq.nil ?_
  refine Eq.next ?_
  refine Cq.els rfl ?_
  refine Cq.skip ?_
  refine Eq.next ?_
  refine Cq.seq ?_
  refine Cq.seq ?_
  refine Cq.region ?_
  refine Sq.assign .plain rfl rfl ?_
  refine Sq.nil ?_
  refine Eq.next ?_
  refine Cq.block ?_
  have hw0 : wadd f s [] [] = bfsw f s L 0 := wadd_F (by simp)
  rw [hw0] at hM
  refine Cq.loop (fun nn w ls => ∃ (i : Int), ls = [(2, lv), (3, fv), (13, Value.pointer (some ⟨b26, 0, none⟩)), (14, Value.func (.func 106) #[] #[Value.pointer (some ⟨b14, 0, none⟩), Value.pointer (some ⟨b1, 0, none⟩), Value.pointer (some ⟨b26, 0, none⟩)]), (15, Value.int .i64 i)] ∧ (0 ≤ i ∧ i ≤ (List.length (bfsw f s L i.toNat) : Int)) ∧ SMem w0 w 3 4 24 108 106 51 w2.heap.size b14 b26 b1 gv n f s (bfsw f s L i.toNat) ∧ (∀ v ∈ (bfsw f s L i.toNat), G (nodeOf f s v) = false) ∧ Ext w0 w ∧ nn = (151 - i).toNat) _ _ ⟨0, rfl, ⟨by omega, by show (0 : Int) ≤ ((1 : Nat) : Int); omega⟩, hM, (fun v hv => by rw [show v = [] by simpa [bfsw] using hv]; simpa [nodeOf] using hg0), E, rfl⟩ (.cons rfl (.cons rfl (.cons rfl (.cons rfl (.cons rfl (.nil)))))) ?_
  rintro nn wl1 ls ⟨i, rfl, hi, hM, hG, E, rfl⟩
  have hs38 := Below.size E
  have hbl := hbw i.toNat
  have hbl1 := hbw (i.toNat + 1)
  refine Cq.seq ?_
  refine Cq.seq ?_
  refine Cq.region ?_
  refine Sq.move .plain rfl rfl ?_
  have M39 := hM
  obtain ⟨svM39, tvM39, rsM39, _, _, hTM39, hWM39, hSM39, _⟩ := M39
  refine Sq.loadB one106 .plain rfl rfl hTM39 rfl ?_
  refine Sq.lenWid hWM39 .plain rfl und106 rfl ?_
  rw [rows3_length, hSM39.len]
  refine Sq.lss .plain rfl rfl rfl ?_
  refine Sq.part (fun c40 => ?_) (fun c40 => ?_)
  · refine Sq.nil ?_
    refine Eq.next ?_
    refine Cq.thn rfl ?_
    refine Cq.skip ?_
    refine Eq.next ?_
    refine Cq.seq ?_
    refine Cq.block ?_
    refine Cq.seq ?_
    refine Cq.region ?_
    refine Sq.move .plain rfl rfl ?_
    refine Sq.lenInts (hx.ext E) .plain rfl und55 rfl ?_
    refine Sq.move .plain rfl rfl ?_
    refine Sq.nil ?_
    refine Eq.next ?_
    refine Cq.block ?_
    obtain ⟨u, hu⟩ : ∃ u, (bfsw f s L i.toNat)[i.toNat]? = some u := ⟨_, List.getElem?_eq_getElem (by omega)⟩
    have hDu : D (nodeOf f s u) := nodeOf_in hD0 hD _ _ (List.mem_of_getElem? hu)
    have hul := bfsw_lets (f := f) (s := s) (i := i.toNat) hL u (List.mem_of_getElem? hu)
    refine Cq.loop (fun nn w ls => ∃ (k : Int), ls = [(2, lv), (3, fv), (13, Value.pointer (some ⟨b26, 0, none⟩)), (14, Value.func (.func 106) #[] #[Value.pointer (some ⟨b14, 0, none⟩), Value.pointer (some ⟨b1, 0, none⟩), Value.pointer (some ⟨b26, 0, none⟩)]), (15, Value.int .i64 i), (33, lv), (34, Value.int .i64 (List.length L : Int)), (35, Value.int .i64 k)] ∧ (0 ≤ k ∧ k ≤ L.length) ∧ SMem w0 w 3 4 24 108 106 51 w2.heap.size b14 b26 b1 gv n f s (wmid f s L i.toNat u k.toNat) ∧ (∀ v ∈ (wmid f s L i.toNat u k.toNat), G (nodeOf f s v) = false) ∧ Ext w0 w ∧ nn = ((L.length : Int) - k).toNat) _ _ ⟨0, rfl, by omega, hM, hG, E, rfl⟩ (.cons rfl (.cons rfl (.cons rfl (.cons rfl (.cons rfl (.cons rfl (.cons rfl (.cons rfl (.nil))))))))) ?_
    rintro nn wl2 ls ⟨k, rfl, hk, hM, hG, E, rfl⟩
    have hs41 := Below.size E
    have hmh := (wmid_last (f := f) (s := s) (L := L) (k := k.toNat) hu).length_le
    have hum : (wmid f s L i.toNat u k.toNat)[i.toNat]? = some u := by
      obtain ⟨t, ht⟩ := wmid_more (f := f) (s := s) (L := L) i.toNat u k.toNat
      rw [← ht, List.getElem?_append_left (List.getElem?_eq_some_iff.1 hu).1]; exact hu
    refine Cq.seq ?_
    refine Cq.region ?_
    refine Sq.lss .plain rfl rfl rfl ?_
    refine Sq.part (fun c42 => ?_) (fun c42 => ?_)
    · refine Sq.nil ?_
      refine Eq.next ?_
      refine Cq.seq ?_
      refine Cq.thn rfl ?_
      refine Cq.skip ?_
      refine Eq.next ?_
      refine Cq.seq ?_
      refine Cq.block ?_
      refine Cq.seq ?_
      refine Cq.region ?_
      refine Sq.idxInts sl55 one3 (hx.ext E) .plain rfl rfl rfl .plain rfl rfl (by omega) (by omega) ?_
      refine Sq.assign .plain rfl rfl ?_
      refine Sq.nil ?_
      refine Eq.next ?_
      refine Cq.seq ?_
      refine Cq.region ?_
      refine Sq.assign .plain rfl rfl ?_
      refine Sq.nil ?_
      refine Eq.next ?_
      refine Cq.seq ?_
      refine Cq.seq ?_
      refine Cq.region ?_
      have M43 := hM
      obtain ⟨svM43, tvM43, rsM43, _, _, hTM43, hWM43, hSM43, _⟩ := M43
      obtain ⟨pp, ll, fvv, hr, hlk, hfv⟩ := hSM43.row _ _ hum
      have hlt := (List.getElem?_eq_some_iff.1 hr).1
      refine Sq.loadB one106 .plain rfl rfl hTM43 rfl ?_
      refine Sq.move .plain rfl rfl ?_
      obtain ⟨gq44, kq44, hvq44, hlq44, haq44, hbq44, hcq44⟩ := Wid.triple hWM43 (i := i) (by omega) hr
      refine Sq.val .plain rfl rfl (Still.ixV slw106 hvq44 rfl rfl (by omega)) ?_
      refine Sq.fieldAddr fld108_2 .plain rfl rfl ?_
      refine Sq.val .plain rfl rfl (Still.load one55 rfl hcq44) ?_
      refine Sq.lenInts hfv .plain rfl und55 rfl ?_
      refine Sq.move .plain rfl rfl ?_
      refine Sq.nil ?_
      refine Eq.next ?_
      refine Cq.block ?_
      have hXm : (L.getD k.toNat 0) ∈ L := getD_mem (by omega)
      have hXr := hL _ hXm
      have hlu : ∀ x ∈ u ++ [(L.getD k.toNat 0)], 0 ≤ x ∧ x < 6 := by
        intro x hx
        rcases List.mem_append.1 hx with h | h
        · exact hul x h
        · rw [List.mem_singleton.1 h]; exact hXr
      have hul2 : u.length ≤ 150 := by have := bfsw_lenw hu; omega
      have hone : (List.length ([(nodeOf f s u)] : List Int) : Int) = 1 := rfl
      refine Cq.loop (fun nn w ls => ∃ (j : Int), ∃ (rv : Value), ls = [(2, lv), (3, fv), (13, Value.pointer (some ⟨b26, 0, none⟩)), (14, Value.func (.func 106) #[] #[Value.pointer (some ⟨b14, 0, none⟩), Value.pointer (some ⟨b1, 0, none⟩), Value.pointer (some ⟨b26, 0, none⟩)]), (15, Value.int .i64 i), (17, Value.int .i64 (L.getD k.toNat 0)), (18, rv), (33, lv), (34, Value.int .i64 (List.length L : Int)), (35, Value.int .i64 k), (43, fvv), (44, Value.int .i64 ((List.length ([(nodeOf f s u)] : List Int) : Int))), (45, Value.int .i64 j)] ∧ (0 ≤ j ∧ j ≤ 1) ∧ (j = 0 → rv = .slice none 0 0) ∧ (j = 1 → Ints w 3 rv [f (nodeOf f s u) (L.getD k.toNat 0)]) ∧ Ext w0 w ∧ Ints w 3 fvv [(nodeOf f s u)] ∧ SMem w0 w 3 4 24 108 106 51 w2.heap.size b14 b26 b1 gv n f s (wmid f s L i.toNat u k.toNat) ∧ nn = (1 - j).toNat) _ _ ⟨0, _, rfl, by omega, fun _ => rfl, fun h => absurd h (by decide), E, hfv, hM, rfl⟩ (.cons rfl (.cons rfl (.cons rfl (.cons rfl (.cons rfl (.cons rfl (.cons rfl (.cons rfl (.cons rfl (.cons rfl (.cons rfl (.cons rfl (.cons rfl (.nil)))))))))))))) ?_
      rintro nn wl3 ls ⟨j, rv, rfl, hj, hrv, hrr, E, hfv, hM, rfl⟩
      have hs45 := Below.size E
      refine Cq.seq ?_
      refine Cq.region ?_
      refine Sq.lss .plain rfl rfl rfl ?_
      refine Sq.part (fun c46 => ?_) (fun c46 => ?_)
      · refine Sq.nil ?_
        refine Eq.next ?_
        refine Cq.seq ?_
        refine Cq.thn rfl ?_
        refine Cq.skip ?_
        refine Eq.next ?_
        refine Cq.seq ?_
        refine Cq.block ?_
        refine Cq.seq ?_
        refine Cq.region ?_
        have hj0 : j = 0 := by omega
        obtain rfl := hrv hj0
        have hj1 : ([(nodeOf f s u)] : List Int).getD j.toNat 0 = (nodeOf f s u) := by rw [hj0]; rfl
        refine Sq.idxInts sl55 one3 hfv .plain rfl rfl rfl .plain rfl rfl (by omega) (by simp only [List.length_singleton]; omega) ?_
        rw [hj1]
        refine Sq.assign .plain rfl rfl ?_
        refine Sq.nil ?_
        refine Eq.next ?_
        refine Cq.region ?_
        refine Sq.move .plain rfl rfl ?_
        refine Sq.move .plain rfl rfl ?_
        refine Sq.move .plain rfl rfl ?_
        refine Sq.move .plain rfl rfl ?_
        refine Sq.callC hFn .plain rfl (by rw [← hfv0]; rfl) rfl (hcall _ _ _ E hDu hXr) ?_
        rintro vw47 w47 ⟨ho48, e49⟩
        have hs50 := Below.size e49
        replace E := E.trans e49
        replace hfv := hfv.ext e49
        replace hM := hM.ext e49
        refine Sq.assign .plain rfl rfl ?_
        refine Sq.nil ?_
        refine Eq.end ?_
        refine Eq.next ?_
        refine Cq.region ?_
        refine Sq.add .plain rfl rfl rfl (by omega) ?_
        refine Sq.move .plain rfl rfl ?_
        refine Sq.nil ?_
        refine Eq.round _ _ ⟨j + 1, _, rfl, by omega, fun h => absurd h (by omega), fun _ => Own.row ho48, E, hfv, hM, rfl⟩ (by omega) (.cons rfl (.cons rfl (.cons rfl (.cons rfl (.cons rfl (.cons rfl (.cons rfl (.cons rfl (.cons rfl (.cons rfl (.cons rfl (.cons rfl (.cons rfl (.nil))))))))))))))
      refine Sq.nil ?_
      refine Eq.next ?_
      refine Cq.seq ?_
      refine Cq.els rfl ?_
      refine Cq.exit ?_
      refine Eq.past ?_
      refine Eq.past ?_
      refine Eq.hit ?_
      refine Eq.next ?_
      refine Cq.seq ?_
      refine Cq.region ?_
      refine Sq.move .plain rfl rfl ?_
      refine Sq.move .plain rfl rfl ?_
      refine Sq.move .plain rfl rfl ?_
      refine Sq.move .plain rfl rfl ?_
      refine Sq.callC fn106 .plain rfl rfl rfl (visit_c _ _ _ _ _ _ _ _ _ f s _ D G hgo hM i (L.getD k.toNat 0) _ (u ++ [(L.getD k.toNat 0)]) (nodeOf_snoc ..).symm (hrr (by omega)) (.inr ⟨u, rfl, hi.1, hum⟩) hlu (hD _ hDu _ hXm) (hDn _ (hD _ hDu _ hXm)) (by omega)) ?_
      rintro _ w51 ⟨rfl, hM'⟩
      clear hM
      have hM := hM'
      clear hM'
      replace E := SMem.base hM
      have hs53 := Below.size E
      refine Sq.partB (fun hfd => ?_) (fun hfd => ?_)
      · refine Sq.nil ?_
        refine Eq.next ?_
        refine Cq.thn rfl ?_
        refine Cq.seq ?_
        refine Cq.region ?_
        have hnew : nodeOf f s (u ++ [(L.getD k.toNat 0)]) ∉ (wmid f s L i.toNat u k.toNat).map (nodeOf f s) ∧ G (nodeOf f s (u ++ [(L.getD k.toNat 0)])) = true := by rw [nodeOf_snoc]; simpa using hfd
        rw [wadd_F hnew.1] at hM
        have M54 := hM
        obtain ⟨svM54, tvM54, rsM54, _, _, hTM54, hWM54, hSM54, _⟩ := M54
        refine Sq.loadB one106 .plain rfl rfl hTM54 rfl ?_
        refine Sq.call fn107 .plain rfl rfl (pathWord_c _ _ _ _ f s _ hWM54 hSM54 (u ++ [(L.getD k.toNat 0)]) (by rw [List.length_append, List.length_singleton, Nat.add_sub_cancel, List.getElem?_append_right (Nat.le_refl _), Nat.sub_self]; rfl) (by rw [List.length_append, List.length_singleton]; omega) (by rw [List.length_append, List.length_singleton]; omega)) ?_
        rintro _ w55 ⟨rfl, e56⟩
        have hs57 := Below.size e56
        replace E := E.trans e56
        refine Sq.assign .plain rfl rfl ?_
        refine Sq.assign .plain rfl rfl ?_
        refine Sq.nil ?_
        refine Eq.next ?_
        refine Cq.ret ?_
        refine Eq.outRet ?_
        refine Eq.pastRet ?_
        refine Eq.pastRet ?_
        refine Eq.outRet ?_
        refine Eq.outRet ?_
        refine Eq.pastRet ?_
        refine Eq.pastRet ?_
        refine Eq.outRet ?_
        refine Eq.pastRet ?_
        refine Eq.ret2 rfl rfl rfl ?_
        have e1 := first_found hu (by omega) (by omega) hG hnew.1 hnew.2
        exact ⟨by rw [e1]; rfl, E⟩
      refine Sq.nil ?_
      refine Eq.next ?_
      refine Cq.els rfl ?_
      refine Cq.skip ?_
      refine Eq.end ?_
      refine Eq.next ?_
      refine Cq.region ?_
      refine Sq.add .plain rfl rfl rfl (by omega) ?_
      refine Sq.move .plain rfl rfl ?_
      refine Sq.nil ?_
      have e2 := toNat_succ hk.1
      have e5 := wmid_succ (f := f) (s := s) (i := i.toNat) (u := u) (k := k.toNat) (L := L) (by omega)
      refine Eq.round _ _ ⟨k + 1, rfl, by omega, by rw [e2, e5]; exact hM, by rw [e2, e5]; exact wadd_miss hG (by rw [nodeOf_snoc]; exact hfd), E, rfl⟩ (by omega) (.cons rfl (.cons rfl (.cons rfl (.cons rfl (.cons rfl (.cons rfl (.cons rfl (.cons rfl (.nil)))))))))
    refine Sq.nil ?_
    refine Eq.next ?_
    refine Cq.seq ?_
    refine Cq.els rfl ?_
    refine Cq.exit ?_
    refine Eq.past ?_
    refine Eq.past ?_
    refine Eq.hit ?_
    refine Eq.end ?_
    refine Eq.next ?_
    refine Cq.region ?_
    refine Sq.move .plain rfl rfl ?_
    refine Sq.add .plain rfl rfl rfl (by omega) ?_
    refine Sq.assign .plain rfl rfl ?_
    refine Sq.nil ?_
    have e1 := toNat_succ hi.1
    have e3 := wmid_done (k := k.toNat) (by omega) hu
    have e4 := (bfsw_prefix1 (f := f) (s := s) (L := L) i.toNat).length_le
    refine Eq.round _ _ ⟨i + 1, rfl, by rw [e1]; omega, by rw [e1, ← e3]; exact hM, by rw [e1, ← e3]; exact hG, E, rfl⟩ (by omega) (.cons rfl (.cons rfl (.cons rfl (.cons rfl (.cons rfl (.nil))))))
  refine Sq.nil ?_
  refine Eq.next ?_
  refine Cq.els rfl ?_
  refine Cq.exit ?_
  refine Eq.past ?_
  refine Eq.past ?_
  refine Eq.hit ?_
  refine Eq.next ?_
  refine Cq.seq ?_
  refine Cq.region ?_
  refine Sq.assign .plain rfl rfl ?_
  refine Sq.assign .plain rfl rfl ?_
  refine Sq.nil ?_
  refine Eq.next ?_
  refine Cq.ret ?_
  refine Eq.ret2 rfl rfl rfl ?_
  have e1 := first_missed (f := f) (s := s) (L := L) (G := G) (i := i.toNat) (by omega) (by omega) hG
  exact ⟨by rw [e1]; rfl, E⟩
end Go.Proofs.Ytoboklelbbgcnaa
set_option linter.unusedSimpArgs false
set_option linter.unusedVariables false
namespace Go.Proofs.Ytoboklelbbgcnaa
open Go.RowKit
set_option maxRecDepth 100000 in
theorem l4Sizes_c (w0 : World) (aa : List A) (av sv : Value) (ss : List Int) (lt kd gl : Int) (hN : NetA w0 26 55 3 4 av aa) (hS : Ints w0 3 sv ss) (hlen : aa.length ≤ 2) : Ret Try.prog 82 #[Value.agg #[Value.slice none 0 0, av, sv, Value.int .i64 lt, Value.int .i64 kd, Value.int .i64 gl]] w0 (fun v w => Own w w0.heap.size 3 v ((szs aa).map (Value.int .i64)) ∧ Ext w0 w) := by
  have E := Ext.refl w0
  obtain ⟨BN, rows, hW, hrl, hat⟩ := id hN
  refine Ret.of (args := [Value.agg #[Value.slice none 0 0, av, sv, Value.int .i64 lt, Value.int .i64 kd, Value.int .i64 gl]]) Try.func82 rfl rfl rfl ?_
  rintro _ rfl
  show Cq _ _ _ _ [(0, Value.agg #[Value.slice none 0 0, av, sv, Value.int .i64 lt, Value.int .i64 kd, Value.int .i64 gl])] _
  refine Cq.seq ?_
  refine Cq.region ?_
  refine Sq.box .plain rfl rfl (fun b1 w2 e3 hB4 hlo5 => ?_)
  have hd6 := Nat.le_trans (Below.size E) hlo5
  have hs7 := Below.size e3
  replace E := E.trans e3
  replace hW := hW.ext e3
  refine Sq.assign .plain rfl rfl ?_
  refine Sq.nil ?_
  refine Eq.next ?_
  refine Cq.seq ?_
  refine Cq.region ?_
  refine Sq.lit sl55 rfl rfl .plain rfl rfl one_nil (fun b8 w9 e10 hlo11 ho12 _ => ?_)
  replace ho12 := ho12 w2.heap.size (Nat.le_refl _)
  have hs14 := Below.size e10
  replace E := E.trans e10
  replace hW := hW.ext e10
  replace hB4 := hB4.ext e10
  refine Sq.assign .plain rfl rfl ?_
  refine Sq.nil ?_
  refine Eq.next ?_
  refine Cq.seq ?_
  refine Cq.seq ?_
  refine Cq.region ?_
  refine Sq.assign .plain rfl rfl ?_
  refine Sq.nil ?_
  refine Eq.next ?_
  refine Cq.block ?_
  refine Cq.loop (fun nn w ls => ∃ (k : Int), ∃ (ov : Value), ls = [(1, Value.pointer (some ⟨b1, 0, none⟩)), (3, ov), (4, Value.int .i64 k)] ∧ k = 0 ∧ Own w w0.heap.size 3 ov ([] : List Value) ∧ Ext w0 w ∧ Blk w b1 70 [Value.slice none 0 0, av, sv, Value.int .i64 lt, Value.int .i64 kd, Value.int .i64 gl] ∧ Wid w BN 26 3 av rows ∧ nn = k.toNat) _ _ ⟨0, _, rfl, rfl, Own.mono ho12 (by omega), E, hB4, hW, rfl⟩ (.cons rfl (.cons rfl (.cons rfl (.nil)))) ?_
  rintro nn wl1 ls ⟨k, ov, rfl, hk, ho, E, hB4, hW, rfl⟩
  have hs15 := Below.size E
  refine Cq.seq ?_
  refine Cq.seq ?_
  refine Cq.region ?_
  refine Sq.move .plain rfl rfl ?_
  refine Sq.fieldAddr fld70_0 .plain rfl rfl ?_
  refine Sq.loadB one68 .plain rfl rfl hB4 rfl ?_
  refine Sq.len .plain rfl und68 rfl ?_
  refine Sq.lss .plain rfl rfl rfl ?_
  refine Sq.part (fun c16 => ?_) (fun c16 => ?_)
  · refine Sq.nil ?_
    refine Eq.next ?_
    refine Cq.thn rfl ?_
    refine Cq.skip ?_
    refine Eq.next ?_
    refine Cq.seq ?_
    refine Cq.block ?_
    refine Cq.region ?_
    exfalso
    omega
  refine Sq.nil ?_
  refine Eq.next ?_
  refine Cq.els rfl ?_
  refine Cq.exit ?_
  refine Eq.past ?_
  refine Eq.past ?_
  refine Eq.hit ?_
  refine Eq.next ?_
  refine Cq.seq ?_
  refine Cq.seq ?_
  refine Cq.region ?_
  refine Sq.assign .plain rfl rfl ?_
  refine Sq.nil ?_
  refine Eq.next ?_
  refine Cq.block ?_
  refine Cq.loop (fun nn w ls => ∃ (k : Int), ∃ (ov : Value), ls = [(1, Value.pointer (some ⟨b1, 0, none⟩)), (3, ov), (5, Value.int .i64 k)] ∧ (0 ≤ k ∧ k ≤ aa.length) ∧ Own w w0.heap.size 3 ov (((szs aa).take k.toNat).map (Value.int .i64)) ∧ Ext w0 w ∧ Blk w b1 70 [Value.slice none 0 0, av, sv, Value.int .i64 lt, Value.int .i64 kd, Value.int .i64 gl] ∧ Wid w BN 26 3 av rows ∧ nn = ((aa.length : Int) - k).toNat) _ _ ⟨0, _, rfl, by omega, Own.mono ho (by omega), E, hB4, hW, rfl⟩ (.cons rfl (.cons rfl (.cons rfl (.nil)))) ?_
  rintro nn wl2 ls ⟨k, ov, rfl, hk, ho, E, hB4, hW, rfl⟩
  have hs17 := Below.size E
  refine Cq.seq ?_
  refine Cq.seq ?_
  refine Cq.region ?_
  refine Sq.move .plain rfl rfl ?_
  refine Sq.fieldAddr fld70_1 .plain rfl rfl ?_
  refine Sq.loadB one67 .plain rfl rfl hB4 rfl ?_
  refine Sq.lenWid hW .plain rfl und67 rfl ?_
  rw [hrl]
  refine Sq.lss .plain rfl rfl rfl ?_
  refine Sq.part (fun c18 => ?_) (fun c18 => ?_)
  · refine Sq.nil ?_
    refine Eq.next ?_
    refine Cq.thn rfl ?_
    refine Cq.skip ?_
    refine Eq.next ?_
    refine Cq.seq ?_
    refine Cq.block ?_
    refine Cq.region ?_
    refine Sq.move .plain rfl rfl ?_
    refine Sq.fieldAddr fld70_1 .plain rfl rfl ?_
    refine Sq.loadB one67 .plain rfl rfl hB4 rfl ?_
    refine Sq.move .plain rfl rfl ?_
    obtain ⟨nxq19, acq19, hrq19, hnxq19, hacq19⟩ := hat k.toNat (aa.getD k.toNat zeroA) (at_getD (by omega))
    obtain ⟨gq19, cq19, hvq19, hlq19⟩ := Wid.rowAt hW (i := k) (by omega) hrq19
    refine Sq.val .plain rfl rfl (Still.ixV slw67 hvq19 rfl rfl (by omega)) ?_
    refine Sq.fieldAddr fld26_1 .plain rfl rfl ?_
    refine Sq.val .plain rfl rfl (Still.load one23 rfl (Wid.cellR hvq19 hW (by omega) hrq19 (j := 1) (by decide))) ?_
    refine Sq.lenRows (hnxq19.ext E) .plain rfl und23 rfl ?_
    refine Sq.app1 sl55 ho (by omega) (by rw [List.length_map, List.length_take]; omega) .plain rfl rfl rfl rfl rfl rfl rfl (fun v20 w21 ho23 g22 _ => ?_)
    have hs24 := g22.size
    replace E := E.owned ho g22 (by omega)
    replace hB4 := hB4.owned ho g22 (by decide)
    replace hW := hW.owned ho g22 (by decide)
    refine Sq.assign .plain rfl rfl ?_
    refine Sq.nil ?_
    refine Eq.end ?_
    refine Eq.next ?_
    refine Cq.region ?_
    refine Sq.move .plain rfl rfl ?_
    refine Sq.add .plain rfl rfl rfl (by omega) ?_
    refine Sq.assign .plain rfl rfl ?_
    refine Sq.nil ?_
    have e1 := toNat_succ hk.1
    refine Eq.round _ _ ⟨k + 1, _, rfl, by omega, by rw [e1, take_snoc 0 (by rw [szs_length]; omega), List.map_append, szs_at (by omega)]; exact ho23, E, hB4, hW, rfl⟩ (by omega) (.cons rfl (.cons rfl (.cons rfl (.nil))))
  refine Sq.nil ?_
  refine Eq.next ?_
  refine Cq.els rfl ?_
  refine Cq.exit ?_
  refine Eq.past ?_
  refine Eq.past ?_
  refine Eq.hit ?_
  refine Eq.next ?_
  refine Cq.seq ?_
  refine Cq.region ?_
  refine Sq.move .plain rfl rfl ?_
  refine Sq.assign .plain rfl rfl ?_
  refine Sq.nil ?_
  refine Eq.next ?_
  refine Cq.ret ?_
  refine Eq.ret1 rfl rfl ?_
  rw [List.take_of_length_le (by rw [szs_length]; omega)] at ho
  exact ⟨ho, E⟩
set_option maxRecDepth 100000 in
theorem l4Decode_c (w0 : World) (ss : List Int) (r : Value) (hr : Ints w0 3 r ss) (q : Int) (hs : SzOk ss) (hq : 0 ≤ q ∧ q ≤ 1000) : Ret Try.prog 85 #[r, Value.int .i64 q] w0 (fun v w => Own w w0.heap.size 3 v ((decL ss q).map (Value.int .i64)) ∧ Ext w0 w) := by
  have E := Ext.refl w0
  have hsl := hs.1
  refine Ret.of (args := [r, Value.int .i64 q]) Try.func85 rfl rfl rfl ?_
  rintro _ rfl
  show Cq _ _ _ _ [(0, r), (1, Value.int .i64 q)] _
  refine Cq.seq ?_
  refine Cq.region ?_
  refine Sq.assign .plain rfl rfl ?_
  refine Sq.nil ?_
  refine Eq.next ?_
  refine Cq.seq ?_
  refine Cq.region ?_
  refine Sq.move .plain rfl rfl ?_
  refine Sq.lenInts (hr.ext E) .plain rfl und55 rfl ?_
  refine Sq.make sl55 .plain rfl rfl rfl rfl (by omega) (fun b1 w2 e3 hlo4 hB5 => ?_)
  replace hB5 := hB5 w0.heap.size (Nat.le_refl _)
  have hs6 := Below.size e3
  replace E := E.trans e3
  refine Sq.assign .plain rfl rfl ?_
  refine Sq.nil ?_
  refine Eq.next ?_
  refine Cq.seq ?_
  refine Cq.seq ?_
  refine Cq.region ?_
  refine Sq.move .plain rfl rfl ?_
  refine Sq.lenInts (hr.ext E) .plain rfl und55 rfl ?_
  refine Sq.sub .plain rfl rfl rfl (by omega) ?_
  refine Sq.assign .plain rfl rfl ?_
  refine Sq.nil ?_
  refine Eq.next ?_
  refine Cq.block ?_
  refine Cq.loop (fun nn w ls => ∃ (i : Int), ∃ (qv : Int), ls = [(0, r), (1, Value.int .i64 qv), (5, Value.slice (some ⟨b1, 0, none⟩) (List.length ss : Int).toNat (List.length ss : Int).toNat), (6, Value.int .i64 i)] ∧ (-1 ≤ i ∧ i < ss.length) ∧ qv = q / prodFrom ss (i + 1).toNat ∧ Own w w0.heap.size 3 (Value.slice (some ⟨b1, 0, none⟩) (List.length ss : Int).toNat (List.length ss : Int).toNat) ((decTo ss q (i + 1).toNat).map (Value.int .i64)) ∧ Ext w0 w ∧ nn = (i + 1).toNat) _ _ ⟨(List.length ss : Int) - 1, q, rfl, by omega, by rw [prodFrom_end (by omega), Int.ediv_one], by rw [decTo_all q (by omega), List.map_replicate]; exact hB5, E, rfl⟩ (.cons rfl (.cons rfl (.cons rfl (.cons rfl (.nil))))) ?_
  rintro nn wl1 ls ⟨i, qv, rfl, hi, hqv, ho, E, rfl⟩
  have hs7 := Below.size E
  have hnb := node_bd hs hq (i + 1).toNat
  rw [← hqv] at hnb
  have hdl := decTo_length ss q (i + 1).toNat
  have hsi : 0 ≤ i → 1 ≤ ss.getD i.toNat 0 ∧ ss.getD i.toNat 0 ≤ 12 := fun h => hs.2 _ (by omega)
  refine Cq.seq ?_
  refine Cq.seq ?_
  refine Cq.region ?_
  refine Sq.move .plain rfl rfl ?_
  refine Sq.geq .plain rfl rfl rfl ?_
  refine Sq.part (fun c8 => ?_) (fun c8 => ?_)
  · refine Sq.nil ?_
    refine Eq.next ?_
    refine Cq.thn rfl ?_
    refine Cq.skip ?_
    refine Eq.next ?_
    refine Cq.seq ?_
    refine Cq.block ?_
    refine Cq.seq ?_
    refine Cq.region ?_
    refine Sq.move .plain rfl rfl ?_
    refine Sq.move .plain rfl rfl ?_
    refine Sq.move .plain rfl rfl ?_
    refine Sq.move .plain rfl rfl ?_
    refine Sq.move .plain rfl rfl ?_
    refine Sq.idxInts sl55 one3 (hr.ext E) .plain rfl rfl rfl .plain rfl rfl (by omega) (by omega) ?_
    refine Sq.rem .plain rfl rfl rfl (by have := hsi (by omega); omega) ?_
    obtain ⟨p9, hp10o⟩ := Own.at ho (i := i) (by omega) (by first | (simp only [List.length_map]; omega) | (simp; omega))
    refine Sq.atO sl55 hp10o .plain rfl rfl rfl ?_
    refine Sq.storeO one3 ho hp10o .plain rfl rfl rfl (fun w11 g12 ho13 => ?_)
    have hs14 := World.grownBy.size g12
    replace E := E.owned ho g12 (by omega)
    replace ho := ho13
    refine Sq.nil ?_
    refine Eq.next ?_
    refine Cq.region ?_
    refine Sq.move .plain rfl rfl ?_
    refine Sq.move .plain rfl rfl ?_
    refine Sq.move .plain rfl rfl ?_
    refine Sq.idxInts sl55 one3 (hr.ext E) .plain rfl rfl rfl .plain rfl rfl (by omega) (by omega) ?_
    refine Sq.quo .plain rfl rfl rfl (by have := hsi (by omega); omega) ?_
    refine Sq.assign .plain rfl rfl ?_
    refine Sq.nil ?_
    refine Eq.end ?_
    refine Eq.next ?_
    refine Cq.region ?_
    refine Sq.move .plain rfl rfl ?_
    refine Sq.sub .plain rfl rfl rfl (by omega) ?_
    refine Sq.assign .plain rfl rfl ?_
    refine Sq.nil ?_
    have e1 : (i + 1).toNat = i.toNat + 1 := toNat_succ (by omega)
    have e2 : (i - 1 + 1).toNat = i.toNat := by omega
    refine Eq.round _ _ ⟨i - 1, _, rfl, by omega, by rw [e2, hqv, e1, prod_node (by omega) hs], by rw [e2, ← decTo_step (q := q) (m := i.toNat) (by omega), List.map_set, ← e1, ← hqv]; exact ho, E, rfl⟩ (by omega) (.cons rfl (.cons rfl (.cons rfl (.cons rfl (.nil)))))
  refine Sq.nil ?_
  refine Eq.next ?_
  refine Cq.els rfl ?_
  refine Cq.exit ?_
  refine Eq.past ?_
  refine Eq.past ?_
  refine Eq.hit ?_
  refine Eq.next ?_
  refine Cq.seq ?_
  refine Cq.region ?_
  refine Sq.move .plain rfl rfl ?_
  refine Sq.assign .plain rfl rfl ?_
  refine Sq.nil ?_
  refine Eq.next ?_
  refine Cq.ret ?_
  refine Eq.ret1 rfl rfl ?_
  have e3 : (i + 1).toNat = 0 := by omega
  rw [e3, decTo_zero] at ho
  exact ⟨ho, E⟩
set_option maxRecDepth 100000 in
theorem l4Encode_c (w0 : World) (ss st : List Int) (r u : Value) (hr : Ints w0 3 r ss) (hu : Ints w0 3 u st) (hs : SzOk ss) (hst : StOk ss st) (hl : st.length = ss.length) : Ret Try.prog 87 #[r, u] w0 (fun v w => v = .int .i64 (encTo ss st ss.length) ∧ Ext w0 w) := by
  have E := Ext.refl w0
  have hsl := hs.1
  refine Ret.of (args := [r, u]) Try.func87 rfl rfl rfl ?_
  rintro _ rfl
  show Cq _ _ _ _ [(0, r), (1, u)] _
  refine Cq.seq ?_
  refine Cq.region ?_
  refine Sq.assign .plain rfl rfl ?_
  refine Sq.nil ?_
  refine Eq.next ?_
  refine Cq.seq ?_
  refine Cq.region ?_
  refine Sq.assign .plain rfl rfl ?_
  refine Sq.nil ?_
  refine Eq.next ?_
  refine Cq.seq ?_
  refine Cq.seq ?_
  refine Cq.region ?_
  refine Sq.assign .plain rfl rfl ?_
  refine Sq.nil ?_
  refine Eq.next ?_
  refine Cq.block ?_
  refine Cq.loop (fun nn w ls => ∃ (k : Int), ls = [(0, r), (1, u), (5, Value.int .i64 (encTo ss st k.toNat)), (6, Value.int .i64 k)] ∧ (0 ≤ k ∧ k ≤ ss.length) ∧ Ext w0 w ∧ Ints w 3 r ss ∧ Ints w 3 u st ∧ nn = ((ss.length : Int) - k).toNat) _ _ ⟨0, rfl, by omega, E, hr, hu, rfl⟩ (.cons rfl (.cons rfl (.cons rfl (.cons rfl (.nil))))) ?_
  rintro nn wl1 ls ⟨k, rfl, hk, E, hr, hu, rfl⟩
  have hs1 := Below.size E
  refine Cq.seq ?_
  refine Cq.seq ?_
  refine Cq.region ?_
  refine Sq.move .plain rfl rfl ?_
  refine Sq.move .plain rfl rfl ?_
  refine Sq.lenInts hr .plain rfl und55 rfl ?_
  refine Sq.lss .plain rfl rfl rfl ?_
  refine Sq.part (fun c2 => ?_) (fun c2 => ?_)
  · refine Sq.nil ?_
    refine Eq.next ?_
    refine Cq.thn rfl ?_
    refine Cq.skip ?_
    refine Eq.next ?_
    refine Cq.seq ?_
    refine Cq.block ?_
    obtain ⟨phpA, hpA⟩ := Ints.at hr (i := k) (by omega) (by omega)
    obtain ⟨phpB, hpB⟩ := Ints.at hu (i := k) (by omega) (by omega)
    have heb := enc_bd hs hst (k := k.toNat) (by omega)
    have hsb := hst k.toNat (by omega)
    have hsb2 := hs.2 k.toNat (by omega)
    refine Cq.drawS 11 (fun w' => At w' 3 r k phpA (.int .i64 (ss.getD k.toNat 0)) ∧ At w' 3 u k phpB (.int .i64 (st.getD k.toNat 0))) mixed (⟨hpA, hpB⟩) (fun w3 e4 hS => ?_)
    clear hS
    have hs5 := Below.size e4
    replace E := E.trans e4
    replace hr := hr.ext e4
    replace hu := hu.ext e4
    replace hpA := hpA.ext e4
    replace hpB := hpB.ext e4
    refine Gq.st 0 rfl (by kernel_rfl) rfl .plain rfl (fun _ _ _ h => h) ⟨hpA, hpB⟩ (fun w' x => Still.move rfl) ?_
    refine Gq.st 1 rfl (by kernel_rfl) rfl .plain rfl (fun _ _ _ h => h) ⟨hpA, hpB⟩ (fun w' x => Still.move rfl) ?_
    refine Gq.st 2 rfl (by kernel_rfl) rfl .plain rfl (fun _ _ _ h => h) ⟨hpA, hpB⟩ (fun w' x => Still.move rfl) ?_
    refine Gq.st 3 rfl (by kernel_rfl) rfl .plain rfl (fun _ _ _ h => h) ⟨hpA, hpB⟩ (fun w' x => Still.at' sl55 hpA rfl rfl) ?_
    refine Gq.st 4 rfl (by kernel_rfl) rfl .plain rfl (fun _ _ _ h => h) ⟨hpA, hpB⟩ (fun w' x => Still.loadA one3 rfl (x.1).1) ?_
    refine Gq.st 5 rfl (by kernel_rfl) rfl .plain rfl (fun _ _ _ h => h) ⟨hpA, hpB⟩ (fun w' x => Still.mul rfl rfl (by omega)) ?_
    refine Gq.st 6 rfl (by kernel_rfl) rfl .plain rfl (fun _ _ _ h => h) ⟨hpA, hpB⟩ (fun w' x => Still.move rfl) ?_
    refine Gq.st 7 rfl (by kernel_rfl) rfl .plain rfl (fun _ _ _ h => h) ⟨hpA, hpB⟩ (fun w' x => Still.move rfl) ?_
    refine Gq.st 8 rfl (by kernel_rfl) rfl .plain rfl (fun _ _ _ h => h) ⟨hpA, hpB⟩ (fun w' x => Still.at' sl55 hpB rfl rfl) ?_
    refine Gq.st 9 rfl (by kernel_rfl) rfl .plain rfl (fun _ _ _ h => h) ⟨hpA, hpB⟩ (fun w' x => Still.loadA one3 rfl (x.2).1) ?_
    refine Gq.st 10 rfl (by kernel_rfl) rfl .plain rfl (fun _ _ _ h => h) ⟨hpA, hpB⟩ (fun w' x => Still.add rfl rfl (by omega)) ?_
    refine Gq.one 11 rfl (by kernel_rfl) ?_
    refine Sq.assign .plain rfl rfl ?_
    refine Sq.nil ?_
    refine Eq.goes (fun h => absurd h (by decide)) ?_
    refine Gq.done (by kernel_rfl) ?_
    refine Eq.end ?_
    refine Eq.next ?_
    refine Cq.region ?_
    refine Sq.move .plain rfl rfl ?_
    refine Sq.add .plain rfl rfl rfl (by omega) ?_
    refine Sq.assign .plain rfl rfl ?_
    refine Sq.nil ?_
    have e1 := toNat_succ hk.1
    rw [show encTo ss st k.toNat * ss.getD k.toNat 0 + st.getD k.toNat 0 = encTo ss st (k + 1).toNat by rw [e1]; rfl]
    refine Eq.round _ _ ⟨k + 1, rfl, by omega, E, hr, hu, rfl⟩ (by omega) (.cons rfl (.cons rfl (.cons rfl (.cons rfl (.nil)))))
  refine Sq.nil ?_
  refine Eq.next ?_
  refine Cq.els rfl ?_
  refine Cq.exit ?_
  refine Eq.past ?_
  refine Eq.past ?_
  refine Eq.hit ?_
  refine Eq.next ?_
  refine Cq.seq ?_
  refine Cq.region ?_
  refine Sq.move .plain rfl rfl ?_
  refine Sq.assign .plain rfl rfl ?_
  refine Sq.nil ?_
  refine Eq.next ?_
  refine Cq.ret ?_
  refine Eq.ret1 rfl rfl ?_
  have e2 : k.toNat = ss.length := by omega
  exact ⟨by rw [e2], E⟩
set_option maxRecDepth 100000 in
theorem l4Choices_c (w0 : World) (aa : List A) (av sv : Value) (ss : List Int) (lt kd gl : Int) (hN : NetA w0 26 55 3 4 av aa) (hS : Ints w0 3 sv ss) (hok : NetOk aa) (i q x : Int) (hi : 0 ≤ i ∧ i < aa.length) (hq : 0 ≤ q ∧ q < ((aa.getD i.toNat zeroA).next.length : Int)) (hx : 0 ≤ x ∧ x < 6) : Ret Try.prog 121 #[Value.agg #[Value.slice none 0 0, av, sv, Value.int .i64 lt, Value.int .i64 kd, Value.int .i64 gl], Value.int .i64 i, Value.int .i64 q, Value.int .i64 x] w0 (fun v w => Own w w0.heap.size 3 v [Value.int .i64 (goA (aa.getD i.toNat zeroA) q x)] ∧ Ext w0 w) := by
  have E := Ext.refl w0
  obtain ⟨BN, rows, hW, hrl, hat⟩ := id hN
  have hlen := hok.1
  have hv := (net_at hok (k := i.toNat) (by omega)).2.1
  refine Ret.of (args := [Value.agg #[Value.slice none 0 0, av, sv, Value.int .i64 lt, Value.int .i64 kd, Value.int .i64 gl], Value.int .i64 i, Value.int .i64 q, Value.int .i64 x]) Try.func121 rfl rfl rfl ?_
  rintro _ rfl
  show Cq _ _ _ _ [(0, Value.agg #[Value.slice none 0 0, av, sv, Value.int .i64 lt, Value.int .i64 kd, Value.int .i64 gl]), (1, Value.int .i64 i), (2, Value.int .i64 q), (3, Value.int .i64 x)] _
  refine Cq.seq ?_
  refine Cq.region ?_
  refine Sq.box .plain rfl rfl (fun b1 w2 e3 hB4 hlo5 => ?_)
  have hd6 := Nat.le_trans (Below.size E) hlo5
  have hs7 := Below.size e3
  replace E := E.trans e3
  replace hW := hW.ext e3
  refine Sq.assign .plain rfl rfl ?_
  refine Sq.nil ?_
  refine Eq.next ?_
  refine Cq.seq ?_
  refine Cq.seq ?_
  refine Cq.region ?_
  refine Sq.move .plain rfl rfl ?_
  refine Sq.fieldAddr fld70_0 .plain rfl rfl ?_
  refine Sq.loadB one68 .plain rfl rfl hB4 rfl ?_
  refine Sq.len .plain rfl und68 rfl ?_
  refine Sq.geq .plain rfl rfl rfl ?_
  refine Sq.isT (by omega) ?_
  refine Sq.nil ?_
  refine Eq.next ?_
  refine Cq.thn rfl ?_
  refine Cq.seq ?_
  refine Cq.region ?_
  refine Sq.fieldAddr fld70_1 .plain rfl rfl ?_
  refine Sq.loadB one67 .plain rfl rfl hB4 rfl ?_
  refine Sq.move .plain rfl rfl ?_
  refine Sq.fieldAddr fld70_0 .plain rfl rfl ?_
  refine Sq.loadB one68 .plain rfl rfl hB4 rfl ?_
  refine Sq.len .plain rfl und68 rfl ?_
  refine Sq.sub .plain rfl rfl rfl (by omega) ?_
  rw [show i - ((0 : Nat) : Int) = i by omega]
  obtain ⟨nxq8, acq8, hrq8, hnxq8, hacq8⟩ := hat i.toNat (aa.getD i.toNat zeroA) (at_getD (by omega))
  obtain ⟨gq8, cq8, hvq8, hlq8⟩ := Wid.rowAt hW (i := i) (by omega) hrq8
  refine Sq.val .plain rfl rfl (Still.ixV slw67 hvq8 rfl rfl (by omega)) ?_
  refine Sq.val .plain rfl rfl (Still.loadAggW agg26 rfl rfl (fun j hj => Wid.cellR hvq8 hW (by omega) hrq8 hj)) ?_
  refine Sq.move .plain rfl rfl ?_
  refine Sq.move .plain rfl rfl ?_
  have hd12 := hB4.lt
  refine Sq.call fn125 .plain rfl rfl (l3Go_c _ (aa.getD i.toNat zeroA) _ _ (hnxq8.ext E) (hacq8.ext E) hv q x (by omega) (by omega)) ?_
  rintro _ w10 ⟨rfl, e11⟩
  have hs13 := Below.size E
  have hs14 := Below.size e11
  replace E := E.trans e11
  refine Sq.lit sl55 rfl rfl .plain rfl rfl (one_cons rfl one_nil) (fun b15 w16 e17 hlo18 ho19 _ => ?_)
  replace ho19 := ho19 w10.heap.size (Nat.le_refl _)
  have hs21 := Below.size e17
  replace E := E.trans e17
  refine Sq.assign .plain rfl rfl ?_
  refine Sq.nil ?_
  refine Eq.next ?_
  refine Cq.ret ?_
  refine Eq.pastRet ?_
  refine Eq.ret1 rfl rfl ?_
  exact ⟨Own.mono ho19 (by omega), E⟩
end Go.Proofs.Ytoboklelbbgcnaa
set_option linter.unusedSimpArgs false
set_option linter.unusedVariables false
namespace Go.Proofs.Ytoboklelbbgcnaa
open Go.RowKit
set_option maxRecDepth 100000 in
theorem l4Ok_c (w0 : World) (aa : List A) (av sv : Value) (ss : List Int) (lt kd gl : Int) (hN : NetA w0 26 55 3 4 av aa) (hS : Ints w0 3 sv ss) (u : Value) (st : List Int) (hu : Ints w0 3 u st) (hok : NetOk aa) (hst : StOk (szs aa) st) (hsl : st.length = aa.length) (i : Int) (hi : 0 ≤ i ∧ i < aa.length) : Ret Try.prog 110 #[Value.agg #[Value.slice none 0 0, av, sv, Value.int .i64 lt, Value.int .i64 kd, Value.int .i64 gl], u, Value.int .i64 i] w0 (fun v w => v = .bool (accA (aa.getD i.toNat zeroA) (st.getD i.toNat 0)) ∧ Ext w0 w) := by
  have E := Ext.refl w0
  obtain ⟨BN, rows, hW, hrl, hat⟩ := id hN
  have hlen := hok.1
  refine Ret.of (args := [Value.agg #[Value.slice none 0 0, av, sv, Value.int .i64 lt, Value.int .i64 kd, Value.int .i64 gl], u, Value.int .i64 i]) Try.func110 rfl rfl rfl ?_
  rintro _ rfl
  show Cq _ _ _ _ [(0, Value.agg #[Value.slice none 0 0, av, sv, Value.int .i64 lt, Value.int .i64 kd, Value.int .i64 gl]), (1, u), (2, Value.int .i64 i)] _
  refine Cq.seq ?_
  refine Cq.region ?_
  refine Sq.box .plain rfl rfl (fun b1 w2 e3 hB4 hlo5 => ?_)
  have hd6 := Nat.le_trans (Below.size E) hlo5
  have hs7 := Below.size e3
  replace E := E.trans e3
  replace hW := hW.ext e3
  refine Sq.assign .plain rfl rfl ?_
  refine Sq.nil ?_
  refine Eq.next ?_
  refine Cq.seq ?_
  obtain ⟨nxq, acq, hrq, hnxq, hacq⟩ := hat i.toNat (aa.getD i.toNat zeroA) (at_getD (by omega))
  obtain ⟨gq, cq, hvq, hlq⟩ := Wid.rowAt hW (i := i) (by omega) hrq
  have hcC : Cell1 w2 ⟨gq, i.toNat * 3 + 2, none⟩ acq := Wid.cellR hvq hW (by omega) hrq (j := 2) (by decide)
  obtain ⟨phpS, hpS⟩ := Ints.at hu (i := i) (by omega) (by omega)
  replace hpS : At w2 3 u (((0 : Nat) : Int) + i) phpS (.int .i64 (st.getD i.toNat 0)) := by rw [show (((0 : Nat) : Int) + i) = i by omega]; exact hpS.ext E
  have hsti := st_at hst (k := i.toNat) (by omega)
  have hnat := net_at hok (k := i.toNat) (by omega)
  obtain ⟨phpC, hpC⟩ := Bools.at hacq (i := st.getD i.toNat 0) (by omega) (by omega)
  replace hpC := hpC.ext E
  refine Cq.drawS 16 (fun w' => Blk w' b1 70 [Value.slice none 0 0, av, sv, Value.int .i64 lt, Value.int .i64 kd, Value.int .i64 gl] ∧ Cell1 w' ⟨gq, i.toNat * 3 + 2, none⟩ acq ∧ At w' 3 u (((0 : Nat) : Int) + i) phpS (.int .i64 (st.getD i.toNat 0)) ∧ At w' 4 acq (st.getD i.toNat 0) phpC (.bool ((aa.getD i.toNat zeroA).acc.getD (st.getD i.toNat 0).toNat false))) mixed (⟨hB4, hcC, hpS, hpC⟩) (fun w8 e9 hS => ?_)
  clear hS
  have hs10 := Below.size e9
  replace E := E.trans e9
  replace hB4 := hB4.ext e9
  replace hcC := hcC.ext e9
  replace hpS := hpS.ext e9
  replace hpC := hpC.ext e9
  refine Gq.st 0 rfl (by kernel_rfl) rfl .plain rfl (fun _ _ _ h => h) ⟨hB4, hcC, hpS, hpC⟩ (fun w' x => Still.fieldAddr fld70_1 rfl) ?_
  refine Gq.st 1 rfl (by kernel_rfl) rfl .plain rfl (fun _ _ _ h => h) ⟨hB4, hcC, hpS, hpC⟩ (fun w' x => Still.loadB one67 rfl x.1 rfl) ?_
  refine Gq.st 2 rfl (by kernel_rfl) rfl .plain rfl (fun _ _ _ h => h) ⟨hB4, hcC, hpS, hpC⟩ (fun w' x => Still.move rfl) ?_
  refine Gq.st 3 rfl (by kernel_rfl) rfl .plain rfl (fun _ _ _ h => h) ⟨hB4, hcC, hpS, hpC⟩ (fun w' x => Still.ixV slw67 hvq rfl rfl (by omega)) ?_
  refine Gq.st 4 rfl (by kernel_rfl) rfl .plain rfl (fun _ _ _ h => h) ⟨hB4, hcC, hpS, hpC⟩ (fun w' x => Still.fieldAddr fld26_2 rfl) ?_
  refine Gq.st 5 rfl (by kernel_rfl) rfl .plain rfl (fun _ _ _ h => h) ⟨hB4, hcC, hpS, hpC⟩ (fun w' x => Still.load one24 rfl (x.2.1)) ?_
  refine Gq.st 6 rfl (by kernel_rfl) rfl .plain rfl (fun _ _ _ h => h) ⟨hB4, hcC, hpS, hpC⟩ (fun w' x => Still.move rfl) ?_
  refine Gq.st 7 rfl (by kernel_rfl) rfl .plain rfl (fun _ _ _ h => h) ⟨hB4, hcC, hpS, hpC⟩ (fun w' x => Still.fieldAddr fld70_0 rfl) ?_
  refine Gq.st 8 rfl (by kernel_rfl) rfl .plain rfl (fun _ _ _ h => h) ⟨hB4, hcC, hpS, hpC⟩ (fun w' x => Still.loadB one68 rfl x.1 rfl) ?_
  refine Gq.st 9 rfl (by kernel_rfl) rfl .plain rfl (fun _ _ _ h => h) ⟨hB4, hcC, hpS, hpC⟩ (fun w' x => Still.len und68 rfl) ?_
  refine Gq.st 10 rfl (by kernel_rfl) rfl .plain rfl (fun _ _ _ h => h) ⟨hB4, hcC, hpS, hpC⟩ (fun w' x => Still.move rfl) ?_
  refine Gq.st 11 rfl (by kernel_rfl) rfl .plain rfl (fun _ _ _ h => h) ⟨hB4, hcC, hpS, hpC⟩ (fun w' x => Still.add rfl rfl (by omega)) ?_
  refine Gq.st 12 rfl (by kernel_rfl) rfl .plain rfl (fun _ _ _ h => h) ⟨hB4, hcC, hpS, hpC⟩ (fun w' x => Still.at' sl55 hpS rfl rfl) ?_
  refine Gq.st 13 rfl (by kernel_rfl) rfl .plain rfl (fun _ _ _ h => h) ⟨hB4, hcC, hpS, hpC⟩ (fun w' x => Still.loadA one3 rfl (x.2.2.1).1) ?_
  refine Gq.st 14 rfl (by kernel_rfl) rfl .plain rfl (fun _ _ _ h => h) ⟨hB4, hcC, hpS, hpC⟩ (fun w' x => Still.at' sl24 hpC rfl rfl) ?_
  refine Gq.st 15 rfl (by kernel_rfl) rfl .plain rfl (fun _ _ _ h => h) ⟨hB4, hcC, hpS, hpC⟩ (fun w' x => Still.loadA one4 rfl (x.2.2.2).1) ?_
  refine Gq.one 16 rfl (by kernel_rfl) ?_
  refine Sq.assign .plain rfl rfl ?_
  refine Sq.nil ?_
  refine Eq.goes (fun h => absurd h (by decide)) ?_
  refine Gq.done (by kernel_rfl) ?_
  refine Eq.next ?_
  refine Cq.ret ?_
  refine Eq.ret1 rfl rfl ?_
  exact ⟨rfl, E⟩
set_option maxRecDepth 100000 in
theorem l4Found_c (w0 : World) (aa : List A) (av sv : Value) (ss : List Int) (lt kd gl : Int) (hN : NetA w0 26 55 3 4 av aa) (hS : Ints w0 3 sv ss) (u : Value) (st : List Int) (hu : Ints w0 3 u st) (hok : NetOk aa) (hst : StOk (szs aa) st) (hsl : st.length = aa.length) (mv : Value) (hk : KindOk kd aa) : Ret Try.prog 84 #[Value.agg #[Value.slice none 0 0, av, sv, Value.int .i64 lt, Value.int .i64 kd, Value.int .i64 gl], u, mv] w0 (fun v w => v = .bool (foundN kd gl aa st) ∧ Ext w0 w) := by
  have E := Ext.refl w0
  have hlen := hok.1
  have hk' : kd = 0 ∨ kd = 5 ∨ ((kd = 1 ∨ kd = 2) ∧ aa.length = 2) := hk
  refine Ret.of (args := [Value.agg #[Value.slice none 0 0, av, sv, Value.int .i64 lt, Value.int .i64 kd, Value.int .i64 gl], u, mv]) Try.func84 rfl rfl rfl ?_
  rintro _ rfl
  show Cq _ _ _ _ [(0, Value.agg #[Value.slice none 0 0, av, sv, Value.int .i64 lt, Value.int .i64 kd, Value.int .i64 gl]), (1, u), (2, mv)] _
  refine Cq.seq ?_
  refine Cq.region ?_
  refine Sq.box .plain rfl rfl (fun b1 w2 e3 hB4 hlo5 => ?_)
  have hd6 := Nat.le_trans (Below.size E) hlo5
  have hs7 := Below.size e3
  replace E := E.trans e3
  refine Sq.assign .plain rfl rfl ?_
  refine Sq.nil ?_
  refine Eq.next ?_
  refine Cq.seq ?_
  refine Cq.seq ?_
  refine Cq.region ?_
  refine Sq.fieldAddr fld70_4 .plain rfl rfl ?_
  refine Sq.loadB one3 .plain rfl rfl hB4 rfl ?_
  refine Sq.nil ?_
  refine Eq.next ?_
  refine Cq.block ?_
  refine Cq.seq ?_
  refine Cq.region ?_
  refine Sq.eql .plain rfl rfl rfl ?_
  refine Sq.part (fun hk0 => ?_) (fun hk0 => ?_)
  · refine Sq.assign .plain rfl rfl ?_
    refine Sq.nil ?_
    refine Eq.next ?_
    refine Cq.thn rfl ?_
    refine Cq.seq ?_
    refine Cq.region ?_
    refine Sq.loadAgg agg70 .plain rfl rfl hB4 rfl ?_
    refine Sq.move .plain rfl rfl ?_
    have hd11 := hB4.lt
    refine Sq.call fn110 .plain rfl rfl (l4Ok_c _ aa av sv ss lt kd gl (hN.ext E) (hS.ext E) u st (hu.ext E) hok hst hsl 0 (by omega)) ?_
    rintro _ w9 ⟨rfl, e10⟩
    have hs12 := Below.size E
    have hs13 := Below.size e10
    replace E := E.trans e10
    refine Sq.assign .plain rfl rfl ?_
    refine Sq.nil ?_
    refine Eq.next ?_
    refine Cq.ret ?_
    refine Eq.outRet ?_
    refine Eq.pastRet ?_
    refine Eq.ret1 rfl rfl ?_
    exact ⟨by unfold foundN; rw [if_pos hk0]; first | done | rfl | (have hx' : accA (aa.getD 0 zeroA) (st.getD 0 0) = _ := hx; rw [hx']; first | done | rfl | (rw [Bool.true_and]; done) | (rw [Bool.true_and]; rfl) | (rw [Bool.false_and]; done) | (rw [Bool.false_and]; rfl)), E⟩
  refine Sq.assign .plain rfl rfl ?_
  refine Sq.nil ?_
  refine Eq.next ?_
  refine Cq.els rfl ?_
  refine Cq.seq ?_
  refine Cq.region ?_
  refine Sq.eql .plain rfl rfl rfl ?_
  refine Sq.part (fun hk1 => ?_) (fun hk1 => ?_)
  · refine Sq.assign .plain rfl rfl ?_
    refine Sq.nil ?_
    refine Eq.next ?_
    refine Cq.thn rfl ?_
    refine Cq.seq ?_
    refine Cq.drawS 7 (fun w' => Blk w' b1 70 [Value.slice none 0 0, av, sv, Value.int .i64 lt, Value.int .i64 kd, Value.int .i64 gl]) mixed (hB4) (fun w14 e15 hS => ?_)
    clear hS
    have hs16 := Below.size e15
    replace E := E.trans e15
    replace hB4 := hB4.ext e15
    refine Gq.st 0 rfl (by kernel_rfl) rfl .plain rfl (fun _ _ _ h => h) hB4 (fun w' x => Still.loadAgg agg70 rfl x rfl) ?_
    refine Gq.st 1 rfl (by kernel_rfl) rfl .plain rfl (fun _ _ _ h => h) hB4 (fun w' x => Still.move rfl) ?_
    refine Gq.st 3 rfl (by kernel_rfl) rfl .plain rfl (fun _ _ _ h => h) hB4 (fun w' x => Still.loadAgg agg70 rfl x rfl) ?_
    refine Gq.st 4 rfl (by kernel_rfl) rfl .plain rfl (fun _ _ _ h => h) hB4 (fun w' x => Still.move rfl) ?_
    refine Gq.one 2 rfl (by kernel_rfl) ?_
    have hd20 := hB4.lt
    refine Sq.call fn110 .plain rfl rfl (l4Ok_c _ aa av sv ss lt kd gl (hN.ext E) (hS.ext E) u st (hu.ext E) hok hst hsl 0 (by omega)) ?_
    rintro _ w18 ⟨rfl, e19⟩
    have hs21 := Below.size E
    have hs22 := Below.size e19
    replace E := E.trans e19
    replace hB4 := hB4.ext e19
    refine Sq.nil ?_
    refine Eq.goes (fun _ => hB4) ?_
    refine Gq.one 5 rfl (by kernel_rfl) ?_
    have hd26 := hB4.lt
    refine Sq.call fn110 .plain rfl rfl (l4Ok_c _ aa av sv ss lt kd gl (hN.ext E) (hS.ext E) u st (hu.ext E) hok hst hsl 1 (by omega)) ?_
    rintro _ w24 ⟨rfl, e25⟩
    have hs27 := Below.size E
    have hs28 := Below.size e25
    replace E := E.trans e25
    replace hB4 := hB4.ext e25
    refine Sq.nil ?_
    refine Eq.goes (fun _ => hB4) ?_
    refine Gq.st 6 rfl (by kernel_rfl) rfl .plain rfl (fun _ _ _ h => h) hB4 (fun w' x => Still.neqB und4 rfl rfl) ?_
    refine Gq.one 7 rfl (by kernel_rfl) ?_
    refine Sq.assign .plain rfl rfl ?_
    refine Sq.nil ?_
    refine Eq.goes (fun h => absurd h (by decide)) ?_
    refine Gq.done (by kernel_rfl) ?_
    refine Eq.next ?_
    refine Cq.ret ?_
    refine Eq.outRet ?_
    refine Eq.pastRet ?_
    refine Eq.ret1 rfl rfl ?_
    exact ⟨by unfold foundN; rw [if_neg hk0]; rw [if_pos hk1]; first | done | rfl | (have hx' : accA (aa.getD 0 zeroA) (st.getD 0 0) = _ := hx; rw [hx']; first | done | rfl | (rw [Bool.true_and]; done) | (rw [Bool.true_and]; rfl) | (rw [Bool.false_and]; done) | (rw [Bool.false_and]; rfl)), E⟩
  refine Sq.assign .plain rfl rfl ?_
  refine Sq.nil ?_
  refine Eq.next ?_
  refine Cq.els rfl ?_
  refine Cq.seq ?_
  refine Cq.region ?_
  refine Sq.eql .plain rfl rfl rfl ?_
  refine Sq.part (fun hk2 => ?_) (fun hk2 => ?_)
  · refine Sq.assign .plain rfl rfl ?_
    refine Sq.nil ?_
    refine Eq.next ?_
    refine Cq.thn rfl ?_
    refine Cq.seq ?_
    refine Cq.region ?_
    refine Sq.loadAgg agg70 .plain rfl rfl hB4 rfl ?_
    refine Sq.move .plain rfl rfl ?_
    have hd32 := hB4.lt
    refine Sq.call fn110 .plain rfl rfl (l4Ok_c _ aa av sv ss lt kd gl (hN.ext E) (hS.ext E) u st (hu.ext E) hok hst hsl 0 (by omega)) ?_
    rintro _ w30 ⟨rfl, e31⟩
    have hs33 := Below.size E
    have hs34 := Below.size e31
    replace E := E.trans e31
    replace hB4 := hB4.ext e31
    refine Sq.partB (fun hx => ?_) (fun hx => ?_)
    · refine Sq.move .plain rfl rfl ?_
      refine Sq.loadAgg agg70 (.met rfl rfl rfl) rfl rfl hB4 rfl ?_
      refine Sq.move (.met rfl rfl rfl) rfl rfl ?_
      have hd38 := hB4.lt
      refine Sq.call fn110 (.met rfl rfl rfl) rfl rfl (l4Ok_c _ aa av sv ss lt kd gl (hN.ext E) (hS.ext E) u st (hu.ext E) hok hst hsl 1 (by omega)) ?_
      rintro _ w36 ⟨rfl, e37⟩
      have hs39 := Below.size E
      have hs40 := Below.size e37
      replace E := E.trans e37
      refine Sq.not (.met rfl rfl rfl) rfl rfl ?_
      refine Sq.pickT .plain rfl rfl rfl ?_
      refine Sq.assign .plain rfl rfl ?_
      refine Sq.nil ?_
      refine Eq.next ?_
      refine Cq.ret ?_
      refine Eq.outRet ?_
      refine Eq.pastRet ?_
      refine Eq.ret1 rfl rfl ?_
      exact ⟨by unfold foundN; rw [if_neg hk0]; rw [if_neg hk1]; rw [if_pos hk2]; first | done | rfl | (have hx' : accA (aa.getD 0 zeroA) (st.getD 0 0) = _ := hx; rw [hx']; first | done | rfl | (rw [Bool.true_and]; done) | (rw [Bool.true_and]; rfl) | (rw [Bool.false_and]; done) | (rw [Bool.false_and]; rfl)), E⟩
    refine Sq.move .plain rfl rfl ?_
    refine Sq.off rfl rfl rfl rfl rfl rfl ?_
    refine Sq.off rfl rfl rfl rfl rfl rfl ?_
    refine Sq.off rfl rfl rfl rfl rfl rfl ?_
    refine Sq.off rfl rfl rfl rfl rfl rfl ?_
    refine Sq.pickF .plain rfl rfl rfl ?_
    refine Sq.assign .plain rfl rfl ?_
    refine Sq.nil ?_
    refine Eq.next ?_
    refine Cq.ret ?_
    refine Eq.outRet ?_
    refine Eq.pastRet ?_
    refine Eq.ret1 rfl rfl ?_
    exact ⟨by unfold foundN; rw [if_neg hk0]; rw [if_neg hk1]; rw [if_pos hk2]; first | done | rfl | (have hx' : accA (aa.getD 0 zeroA) (st.getD 0 0) = _ := hx; rw [hx']; first | done | rfl | (rw [Bool.true_and]; done) | (rw [Bool.true_and]; rfl) | (rw [Bool.false_and]; done) | (rw [Bool.false_and]; rfl)), E⟩
  refine Sq.assign .plain rfl rfl ?_
  refine Sq.nil ?_
  refine Eq.next ?_
  refine Cq.els rfl ?_
  refine Cq.seq ?_
  refine Cq.region ?_
  refine Sq.eql .plain rfl rfl rfl ?_
  refine Sq.isF (by omega) ?_
  refine Sq.assign .plain rfl rfl ?_
  refine Sq.nil ?_
  refine Eq.next ?_
  refine Cq.els rfl ?_
  refine Cq.seq ?_
  refine Cq.region ?_
  refine Sq.eql .plain rfl rfl rfl ?_
  refine Sq.isT (by omega) ?_
  refine Sq.assign .plain rfl rfl ?_
  refine Sq.nil ?_
  refine Eq.next ?_
  refine Cq.thn rfl ?_
  refine Cq.seq ?_
  obtain ⟨phpS, hpS⟩ := Ints.at hu (i := ((0 : Nat) : Int)) (by omega) (by omega)
  replace hpS := hpS.ext E
  refine Cq.drawS 9 (fun w' => Blk w' b1 70 [Value.slice none 0 0, av, sv, Value.int .i64 lt, Value.int .i64 kd, Value.int .i64 gl] ∧ At w' 3 u ((0 : Nat) : Int) phpS (.int .i64 (st.getD 0 0))) mixed (⟨hB4, hpS⟩) (fun w41 e42 hS => ?_)
  clear hS
  have hs43 := Below.size e42
  replace E := E.trans e42
  replace hB4 := hB4.ext e42
  replace hpS := hpS.ext e42
  refine Gq.st 0 rfl (by kernel_rfl) rfl .plain rfl (fun _ _ _ h => h) ⟨hB4, hpS⟩ (fun w' x => Still.move rfl) ?_
  refine Gq.st 1 rfl (by kernel_rfl) rfl .plain rfl (fun _ _ _ h => h) ⟨hB4, hpS⟩ (fun w' x => Still.fieldAddr fld70_0 rfl) ?_
  refine Gq.st 2 rfl (by kernel_rfl) rfl .plain rfl (fun _ _ _ h => h) ⟨hB4, hpS⟩ (fun w' x => Still.loadB one68 rfl x.1 rfl) ?_
  refine Gq.st 3 rfl (by kernel_rfl) rfl .plain rfl (fun _ _ _ h => h) ⟨hB4, hpS⟩ (fun w' x => Still.len und68 rfl) ?_
  refine Gq.st 4 rfl (by kernel_rfl) rfl .plain rfl (fun _ _ _ h => h) ⟨hB4, hpS⟩ (fun w' x => Still.at' sl55 hpS rfl rfl) ?_
  refine Gq.st 5 rfl (by kernel_rfl) rfl .plain rfl (fun _ _ _ h => h) ⟨hB4, hpS⟩ (fun w' x => Still.loadA one3 rfl (x.2).1) ?_
  refine Gq.st 6 rfl (by kernel_rfl) rfl .plain rfl (fun _ _ _ h => h) ⟨hB4, hpS⟩ (fun w' x => Still.fieldAddr fld70_5 rfl) ?_
  refine Gq.st 7 rfl (by kernel_rfl) rfl .plain rfl (fun _ _ _ h => h) ⟨hB4, hpS⟩ (fun w' x => Still.loadB one3 rfl x.1 rfl) ?_
  refine Gq.st 8 rfl (by kernel_rfl) rfl .plain rfl (fun _ _ _ h => h) ⟨hB4, hpS⟩ (fun w' x => Still.eql rfl rfl) ?_
  refine Gq.one 9 rfl (by kernel_rfl) ?_
  refine Sq.assign .plain rfl rfl ?_
  refine Sq.nil ?_
  refine Eq.goes (fun h => absurd h (by decide)) ?_
  refine Gq.done (by kernel_rfl) ?_
  refine Eq.next ?_
  refine Cq.ret ?_
  refine Eq.outRet ?_
  refine Eq.pastRet ?_
  refine Eq.ret1 rfl rfl ?_
  exact ⟨by unfold foundN; rw [if_neg hk0]; rw [if_neg hk1]; rw [if_neg hk2]; first | done | rfl | (have hx' : accA (aa.getD 0 zeroA) (st.getD 0 0) = _ := hx; rw [hx']; first | done | rfl | (rw [Bool.true_and]; done) | (rw [Bool.true_and]; rfl) | (rw [Bool.false_and]; done) | (rw [Bool.false_and]; rfl)), E⟩
set_option maxRecDepth 100000 in
theorem l4Near_c (w0 : World) (rv dv : Value) (xss : List (List Int)) (ds : List Int) (d : Int) (hr : Rows w0 55 3 rv xss) (hd : Ints w0 3 dv ds) (hb : ∀ r ∈ xss, r.length ≤ 1000 ∧ ∀ x ∈ r, 0 ≤ x ∧ x < (ds.length : Int)) (hl : xss.length ≤ 1000) : Ret Try.prog 111 #[rv, dv, Value.int .i64 d] w0 (fun v w => v = .bool (nearX ds xss d) ∧ Ext w0 w) := by
  have E := Ext.refl w0
  refine Ret.of (args := [rv, dv, Value.int .i64 d]) Try.func111 rfl rfl rfl ?_
  rintro _ rfl
  show Cq _ _ _ _ [(0, rv), (1, dv), (2, Value.int .i64 d)] _
  refine Cq.seq ?_
  refine Cq.region ?_
  refine Sq.assign .plain rfl rfl ?_
  refine Sq.nil ?_
  refine Eq.next ?_
  refine Cq.seq ?_
  refine Cq.seq ?_
  refine Cq.region ?_
  refine Sq.assign .plain rfl rfl ?_
  refine Sq.nil ?_
  refine Eq.next ?_
  refine Cq.block ?_
  refine Cq.loop (fun nn w ls => ∃ (k : Int), ls = [(0, rv), (1, dv), (2, Value.int .i64 d), (7, Value.int .i64 k)] ∧ (0 ≤ k ∧ k ≤ xss.length) ∧ nearX ds (xss.take k.toNat) d = false ∧ Ext w0 w ∧ nn = ((xss.length : Int) - k).toNat) _ _ ⟨0, rfl, by omega, rfl, E, rfl⟩ (.cons rfl (.cons rfl (.cons rfl (.cons rfl (.nil))))) ?_
  rintro nn wl1 ls ⟨k, rfl, hk, hp, E, rfl⟩
  have hs1 := Below.size E
  refine Cq.seq ?_
  refine Cq.seq ?_
  refine Cq.region ?_
  refine Sq.move .plain rfl rfl ?_
  refine Sq.move .plain rfl rfl ?_
  refine Sq.lenRows (hr.ext E) .plain rfl und23 rfl ?_
  refine Sq.lss .plain rfl rfl rfl ?_
  refine Sq.part (fun c2 => ?_) (fun c2 => ?_)
  · refine Sq.nil ?_
    refine Eq.next ?_
    refine Cq.thn rfl ?_
    refine Cq.skip ?_
    refine Eq.next ?_
    refine Cq.seq ?_
    refine Cq.block ?_
    refine Cq.seq ?_
    refine Cq.region ?_
    refine Sq.assign .plain rfl rfl ?_
    refine Sq.nil ?_
    refine Eq.next ?_
    refine Cq.block ?_
    have hbr := hb (xss.getD k.toNat []) (getD_mem (by omega))
    have hbr1 := hbr.1
    refine Cq.loop (fun nn w ls => ∃ (i : Int), ls = [(0, rv), (1, dv), (2, Value.int .i64 d), (7, Value.int .i64 k), (8, Value.int .i64 i)] ∧ (0 ≤ i ∧ i ≤ (xss.getD k.toNat []).length) ∧ (((xss.getD k.toNat []).take i.toNat).any fun x => decide (ds.getD x.toNat 0 = d)) = false ∧ Ext w0 w ∧ nn = (((xss.getD k.toNat []).length : Int) - i).toNat) _ _ ⟨0, rfl, by omega, rfl, E, rfl⟩ (.cons rfl (.cons rfl (.cons rfl (.cons rfl (.cons rfl (.nil)))))) ?_
    rintro nn wl2 ls ⟨i, rfl, hi, hq, E, rfl⟩
    have hs3 := Below.size E
    have hbx : i < ((xss.getD k.toNat []).length : Int) → 0 ≤ (xss.getD k.toNat []).getD i.toNat 0 ∧ (xss.getD k.toNat []).getD i.toNat 0 < (ds.length : Int) := fun h => hbr.2 _ (getD_mem (by omega))
    refine Cq.seq ?_
    refine Cq.seq ?_
    refine Cq.region ?_
    refine Sq.move .plain rfl rfl ?_
    refine Sq.move .plain rfl rfl ?_
    refine Sq.move .plain rfl rfl ?_
    refine Sq.idxRows sl23 one55 (hr.ext E) .plain rfl rfl rfl .plain rfl rfl (by omega) (by omega) (fun r4 hr5 => ?_)
    refine Sq.lenInts hr5 .plain rfl und55 rfl ?_
    refine Sq.lss .plain rfl rfl rfl ?_
    refine Sq.part (fun c6 => ?_) (fun c6 => ?_)
    · refine Sq.nil ?_
      refine Eq.next ?_
      refine Cq.thn rfl ?_
      refine Cq.skip ?_
      refine Eq.next ?_
      refine Cq.seq ?_
      refine Cq.block ?_
      refine Cq.seq ?_
      refine Cq.region ?_
      refine Sq.move .plain rfl rfl ?_
      refine Sq.move .plain rfl rfl ?_
      refine Sq.move .plain rfl rfl ?_
      refine Sq.idxRows sl23 one55 (hr.ext E) .plain rfl rfl rfl .plain rfl rfl (by omega) (by omega) (fun r7 hr8 => ?_)
      refine Sq.move .plain rfl rfl ?_
      refine Sq.idxInts sl55 one3 hr8 .plain rfl rfl rfl .plain rfl rfl (by omega) (by omega) ?_
      refine Sq.idxInts sl55 one3 (hd.ext E) .plain rfl rfl rfl .plain rfl rfl (by have := hbx (by omega); omega) (by have := hbx (by omega); omega) ?_
      refine Sq.move .plain rfl rfl ?_
      refine Sq.eql .plain rfl rfl rfl ?_
      refine Sq.part (fun hne => ?_) (fun hne => ?_)
      · refine Sq.nil ?_
        refine Eq.next ?_
        refine Cq.thn rfl ?_
        refine Cq.seq ?_
        refine Cq.region ?_
        refine Sq.assign .plain rfl rfl ?_
        refine Sq.nil ?_
        refine Eq.next ?_
        refine Cq.ret ?_
        refine Eq.outRet ?_
        refine Eq.pastRet ?_
        refine Eq.pastRet ?_
        refine Eq.outRet ?_
        refine Eq.outRet ?_
        refine Eq.pastRet ?_
        refine Eq.pastRet ?_
        refine Eq.outRet ?_
        refine Eq.pastRet ?_
        refine Eq.ret1 rfl rfl ?_
        exact ⟨by rw [near_yes (k := k.toNat) (i := i.toNat) (by omega) (by omega) hne], E⟩
      refine Sq.nil ?_
      refine Eq.next ?_
      refine Cq.els rfl ?_
      refine Cq.skip ?_
      refine Eq.end ?_
      refine Eq.next ?_
      refine Cq.region ?_
      refine Sq.move .plain rfl rfl ?_
      refine Sq.add .plain rfl rfl rfl (by omega) ?_
      refine Sq.assign .plain rfl rfl ?_
      refine Sq.nil ?_
      have e2 := toNat_succ hi.1
      refine Eq.round _ _ ⟨i + 1, rfl, by omega, by rw [e2, take_snoc 0 (by omega), List.any_append, hq, Bool.false_or, List.any_cons, List.any_nil, Bool.or_false]; exact decide_eq_false hne, E, rfl⟩ (by omega) (.cons rfl (.cons rfl (.cons rfl (.cons rfl (.cons rfl (.nil))))))
    refine Sq.nil ?_
    refine Eq.next ?_
    refine Cq.els rfl ?_
    refine Cq.exit ?_
    refine Eq.past ?_
    refine Eq.past ?_
    refine Eq.hit ?_
    refine Eq.end ?_
    refine Eq.next ?_
    refine Cq.region ?_
    refine Sq.move .plain rfl rfl ?_
    refine Sq.add .plain rfl rfl rfl (by omega) ?_
    refine Sq.assign .plain rfl rfl ?_
    refine Sq.nil ?_
    have e1 := toNat_succ hk.1
    refine Eq.round _ _ ⟨k + 1, rfl, by omega, by rw [List.take_of_length_le (by omega)] at hq; rw [e1, take_snoc [] (by omega)]; unfold nearX at hp ⊢; rw [List.any_append, hp, Bool.false_or, List.any_cons, List.any_nil, Bool.or_false]; exact hq, E, rfl⟩ (by omega) (.cons rfl (.cons rfl (.cons rfl (.cons rfl (.nil)))))
  refine Sq.nil ?_
  refine Eq.next ?_
  refine Cq.els rfl ?_
  refine Cq.exit ?_
  refine Eq.past ?_
  refine Eq.past ?_
  refine Eq.hit ?_
  refine Eq.next ?_
  refine Cq.seq ?_
  refine Cq.region ?_
  refine Sq.assign .plain rfl rfl ?_
  refine Sq.nil ?_
  refine Eq.next ?_
  refine Cq.ret ?_
  refine Eq.ret1 rfl rfl ?_
  exact ⟨by rw [List.take_of_length_le (by omega)] at hp; rw [hp], E⟩
end Go.Proofs.Ytoboklelbbgcnaa
set_option linter.unusedSimpArgs false
set_option linter.unusedVariables false
namespace Go.Proofs.Ytoboklelbbgcnaa
open Go.RowKit
set_option maxRecDepth 100000 in
theorem l4Dist_c (w0 wm : World) (B : Nat) (mv dv : Value) (f : Int → Int → Int) (L : List Int) (G : Int → Bool) (n : Nat) (Em : Ext wm w0) (hm : Read3 wm 23 55 3 mv ((List.range n).map fun (q : Nat) => L.map fun x => [f (q : Int) x])) (hB : wm.heap.size ≤ B) (ho : Own w0 B 3 dv ((dsOf f L G n 0).map (Value.int .i64))) (hf : ∀ q l, l ∈ L → 0 ≤ f q l ∧ f q l < n) (hn : n ≤ 1000) (hLl : L.length ≤ 100) : Ret Try.prog 86 #[mv, dv] w0 (fun v w => v = .tuple #[] ∧ (∃ d, d ≤ n ∧ Own w B 3 dv ((dsOf f L G n d).map (Value.int .i64)) ∧ ∀ q, 0 ≤ q ∧ q < (n : Int) → disTo f L G (d + 1) q = disTo f L G d q) ∧ w0.grownBy w dv.ownBlock) := by
  have E := Em
  have hgo := World.grownBy.refl w0 dv.ownBlock
  refine Ret.of (args := [mv, dv]) Try.func86 rfl rfl rfl ?_
  rintro _ rfl
  show Cq _ _ _ _ [(0, mv), (1, dv)] _
  refine Cq.seq ?_
  refine Cq.region ?_
  refine Sq.assign .plain rfl rfl ?_
  refine Sq.nil ?_
  refine Eq.next ?_
  refine Cq.seq ?_
  refine Cq.region ?_
  refine Sq.assign .plain rfl rfl ?_
  refine Sq.nil ?_
  refine Eq.next ?_
  refine Cq.block ?_
  refine Cq.loop (fun nn w ls => ∃ (d : Nat), ∃ (more : Bool), ∃ (dI : Int), ls = [(0, mv), (1, dv), (4, Value.bool more), (5, Value.int .i64 dI)] ∧ Own w B 3 dv ((dsOf f L G n d).map (Value.int .i64)) ∧ dI = (d : Int) + 1 ∧ (more = true → d + todo f L G n d 0 ≤ n) ∧ (more = false → ∃ d', d' ≤ n ∧ dsOf f L G n d = dsOf f L G n d' ∧ ∀ q, 0 ≤ q ∧ q < (n : Int) → disTo f L G (d' + 1) q = disTo f L G d' q) ∧ Ext wm w ∧ World.grownBy w0 w dv.ownBlock ∧ nn = 2 * todo f L G n d 0 + (if more = true then 1 else 0)) _ _ ⟨0, true, 1, rfl, ho, rfl, fun _ => by have := todo_le (f := f) (L := L) (G := G) (n := n) 0 0; omega, fun h => absurd h (by decide), E, hgo, rfl⟩ (.cons rfl (.cons rfl (.cons rfl (.cons rfl (.nil))))) ?_
  rintro nn wl1 ls ⟨d, more, dI, rfl, ho, hdI, hdn, hst, E, hgo, rfl⟩
  have hs1 := Below.size E
  have hdl := dsOf_length (f := f) (L := L) (G := G) (n := n) d
  refine Cq.seq ?_
  refine Cq.seq ?_
  refine Cq.region ?_
  refine Sq.move .plain rfl rfl ?_
  refine Sq.partB (fun hmore => ?_) (fun hmore => ?_)
  · refine Sq.nil ?_
    refine Eq.next ?_
    refine Cq.thn rfl ?_
    refine Cq.skip ?_
    refine Eq.next ?_
    refine Cq.seq ?_
    refine Cq.block ?_
    refine Cq.seq ?_
    refine Cq.region ?_
    refine Sq.assign .plain rfl rfl ?_
    refine Sq.nil ?_
    refine Eq.next ?_
    refine Cq.seq ?_
    refine Cq.region ?_
    refine Sq.assign .plain rfl rfl ?_
    refine Sq.nil ?_
    refine Eq.next ?_
    refine Cq.block ?_
    refine Cq.loop (fun nn w ls => ∃ (i : Int), ∃ (m2 : Bool), ls = [(0, mv), (1, dv), (4, Value.bool m2), (5, Value.int .i64 dI), (6, Value.int .i64 i)] ∧ (0 ≤ i ∧ i ≤ (n : Int)) ∧ Own w B 3 dv ((dsAt f L G n d i.toNat).map (Value.int .i64)) ∧ (m2 = true → todo f L G n d i.toNat + 1 ≤ todo f L G n d 0) ∧ (m2 = false → ∀ j : Nat, j < i.toNat → disTo f L G (d + 1) (j : Int) = disTo f L G d (j : Int)) ∧ todo f L G n d i.toNat ≤ todo f L G n d 0 ∧ Ext wm w ∧ World.grownBy w0 w dv.ownBlock ∧ nn = ((n : Int) - i).toNat) _ _ ⟨0, false, rfl, by omega, by rw [show (0 : Int).toNat = 0 from rfl, dsAt_zero]; exact ho, fun h => absurd h (by decide), fun _ j hj => absurd hj (Nat.not_lt_zero _), Nat.le_refl _, E, hgo, rfl⟩ (.cons rfl (.cons rfl (.cons rfl (.cons rfl (.cons rfl (.nil)))))) ?_
    rintro nn wl2 ls ⟨i, m2, rfl, hi, ho, hmt, hmf, hml, E, hgo, rfl⟩
    have hs2 := Below.size E
    have hdl := dsAt_length (f := f) (L := L) (G := G) (n := n) d i.toNat
    have hdm := hdn hmore
    refine Cq.seq ?_
    refine Cq.seq ?_
    refine Cq.region ?_
    refine Sq.move .plain rfl rfl ?_
    refine Sq.move .plain rfl rfl ?_
    refine Sq.lenInts (Own.row ho) .plain rfl und55 rfl ?_
    refine Sq.lss .plain rfl rfl rfl ?_
    refine Sq.part (fun c3 => ?_) (fun c3 => ?_)
    · refine Sq.nil ?_
      refine Eq.next ?_
      refine Cq.thn rfl ?_
      refine Cq.skip ?_
      refine Eq.next ?_
      refine Cq.seq ?_
      refine Cq.block ?_
      refine Cq.seq ?_
      refine Cq.region ?_
      refine Sq.move .plain rfl rfl ?_
      refine Sq.move .plain rfl rfl ?_
      refine Sq.idxInts sl55 one3 (Own.row ho) .plain rfl rfl rfl .plain rfl rfl (by omega) (by omega) ?_
      refine Sq.lss .plain rfl rfl rfl ?_
      refine Sq.part (fun hlt => ?_) (fun hlt => ?_)
      · refine Sq.move .plain rfl rfl ?_
        refine Sq.move (.met rfl rfl rfl) rfl rfl ?_
        refine Sq.move (.met rfl rfl rfl) rfl rfl ?_
        obtain ⟨pq4, rq4, hpq4, hrq4⟩ := Read3.at (hm.ext E) (i := i) (by first | omega | (simp; omega)) (by first | omega | (simp; omega))
        refine Sq.val (.met rfl rfl rfl) rfl rfl (Still.at' sl86 hpq4 rfl rfl) ?_
        refine Sq.val (.met rfl rfl rfl) rfl rfl (Still.loadA one23 rfl hpq4.1) ?_
        refine Sq.move (.met rfl rfl rfl) rfl rfl ?_
        refine Sq.move (.met rfl rfl rfl) rfl rfl ?_
        refine Sq.sub (.met rfl rfl rfl) rfl rfl rfl (by omega) ?_
        refine Sq.call fn111 (.met rfl rfl rfl) rfl rfl (l4Near_c _ _ _ ((((List.range n).map fun (q : Nat) => L.map fun x => [f (q : Int) x]).getD i.toNat [])) (dsAt f L G n d i.toNat) (dI - 1) hrq4 (Own.row ho) (mv_ok hf hLl (by omega)) (by rw [moves_f (q := i) (by omega), List.length_map]; omega)) ?_
        rintro _ w6 ⟨rfl, e7⟩
        have hs8 := Below.size E
        have hs9 := Below.size e7
        replace E := E.trans e7
        replace hgo := grown_trans hgo (Ext.to_grown e7 _)
        replace ho := ho.ext e7
        refine Sq.partB (fun hnr => ?_) (fun hnr => ?_)
        · refine Sq.pickT .plain rfl rfl rfl ?_
          refine Sq.nil ?_
          refine Eq.next ?_
          refine Cq.thn rfl ?_
          refine Cq.seq ?_
          refine Cq.region ?_
          refine Sq.move .plain rfl rfl ?_
          refine Sq.move .plain rfl rfl ?_
          refine Sq.move .plain rfl rfl ?_
          obtain ⟨p10, hp11o⟩ := Own.at ho (i := i) (by omega) (by first | (simp only [List.length_map]; omega) | (simp; omega))
          refine Sq.atO sl55 hp11o .plain rfl rfl rfl ?_
          refine Sq.storeO one3 ho hp11o .plain rfl rfl rfl (fun w12 g13 ho14 => ?_)
          have hs15 := World.grownBy.size g13
          replace E := E.owned ho g13 (by omega)
          replace hgo := grown_trans hgo g13
          replace ho := ho14
          refine Sq.nil ?_
          refine Eq.next ?_
          refine Cq.region ?_
          refine Sq.assign .plain rfl rfl ?_
          refine Sq.nil ?_
          refine Eq.end ?_
          refine Eq.next ?_
          refine Cq.region ?_
          refine Sq.move .plain rfl rfl ?_
          refine Sq.add .plain rfl rfl rfl (by omega) ?_
          refine Sq.assign .plain rfl rfl ?_
          refine Sq.nil ?_
          have hlt' : disTo f L G d i < 0 := by rw [dsAt_get (q := i) (by omega), if_neg (by omega)] at hlt; exact hlt
          have ei : ((i.toNat : Nat) : Int) = i := Int.toNat_of_nonneg hi.1
          rw [show dI - 1 = (d : Int) by omega, moves_f (q := i) (by omega), nearX_eq (n := n) hf i] at hnr
          have hk1 := disTo_new hlt' hnr
          have hk2 : disTo f L G (d + 1) ((i.toNat : Nat) : Int) = dI := by rw [ei, hk1]; omega
          have htl := todo_less (f := f) (L := L) (G := G) (d := d) (i := i.toNat) (n := n) (by omega) (by rw [ei]; exact hlt') (by rw [ei, hk1]; omega)
          refine Eq.round _ _ ⟨i + 1, true, rfl, by omega, by rw [toNat_succ hi.1, ← dsAt_set (by omega), List.map_set, hk2]; exact ho, fun _ => by rw [toNat_succ hi.1]; omega, fun h => absurd h (by decide), by rw [toNat_succ hi.1]; omega, E, hgo, rfl⟩ (by omega) (.cons rfl (.cons rfl (.cons rfl (.cons rfl (.cons rfl (.nil))))))
        refine Sq.pickT .plain rfl rfl rfl ?_
        refine Sq.nil ?_
        refine Eq.next ?_
        refine Cq.els rfl ?_
        refine Cq.skip ?_
        refine Eq.end ?_
        refine Eq.next ?_
        refine Cq.region ?_
        refine Sq.move .plain rfl rfl ?_
        refine Sq.add .plain rfl rfl rfl (by omega) ?_
        refine Sq.assign .plain rfl rfl ?_
        refine Sq.nil ?_
        have hlt' : disTo f L G d i < 0 := by rw [dsAt_get (q := i) (by omega), if_neg (by omega)] at hlt; exact hlt
        have ei : ((i.toNat : Nat) : Int) = i := Int.toNat_of_nonneg hi.1
        rw [show dI - 1 = (d : Int) by omega, moves_f (q := i) (by omega), nearX_eq (n := n) hf i] at hnr
        have hk1 := disTo_far hlt' hnr
        have hk2 : disTo f L G (d + 1) ((i.toNat : Nat) : Int) = disTo f L G d ((i.toNat : Nat) : Int) := by rw [ei, hk1]; rcases disTo_cases (f := f) (L := L) (G := G) d i with h | ⟨z, h, _⟩; exact h.symm; omega
        refine Eq.round _ _ ⟨i + 1, m2, rfl, by omega, by rw [toNat_succ hi.1, dsAt_keep hk2]; exact ho, fun h => by rw [toNat_succ hi.1, todo_keep hk2]; exact hmt h, fun h => dis_more ei (hmf h) hk2 (toNat_succ hi.1), by rw [toNat_succ hi.1, todo_keep hk2]; exact hml, E, hgo, rfl⟩ (by omega) (.cons rfl (.cons rfl (.cons rfl (.cons rfl (.cons rfl (.nil))))))
      refine Sq.move .plain rfl rfl ?_
      refine Sq.off rfl rfl rfl rfl rfl rfl ?_
      refine Sq.off rfl rfl rfl rfl rfl rfl ?_
      refine Sq.off rfl rfl rfl rfl rfl rfl ?_
      refine Sq.off rfl rfl rfl rfl rfl rfl ?_
      refine Sq.off rfl rfl rfl rfl rfl rfl ?_
      refine Sq.off rfl rfl rfl rfl rfl rfl ?_
      refine Sq.off rfl rfl rfl rfl rfl rfl ?_
      refine Sq.off rfl rfl rfl rfl rfl rfl ?_
      refine Sq.pickF .plain rfl rfl rfl ?_
      refine Sq.nil ?_
      refine Eq.next ?_
      refine Cq.els rfl ?_
      refine Cq.skip ?_
      refine Eq.end ?_
      refine Eq.next ?_
      refine Cq.region ?_
      refine Sq.move .plain rfl rfl ?_
      refine Sq.add .plain rfl rfl rfl (by omega) ?_
      refine Sq.assign .plain rfl rfl ?_
      refine Sq.nil ?_
      have hk1 : disTo f L G (d + 1) i = disTo f L G d i := disTo_old (by rw [dsAt_get (q := i) (by omega), if_neg (by omega)] at hlt; omega)
      have ei : ((i.toNat : Nat) : Int) = i := Int.toNat_of_nonneg hi.1
      have hk2 : disTo f L G (d + 1) ((i.toNat : Nat) : Int) = disTo f L G d ((i.toNat : Nat) : Int) := by rw [ei]; exact hk1
      refine Eq.round _ _ ⟨i + 1, m2, rfl, by omega, by rw [toNat_succ hi.1, dsAt_keep hk2]; exact ho, fun h => by rw [toNat_succ hi.1, todo_keep hk2]; exact hmt h, fun h => dis_more ei (hmf h) hk2 (toNat_succ hi.1), by rw [toNat_succ hi.1, todo_keep hk2]; exact hml, E, hgo, rfl⟩ (by omega) (.cons rfl (.cons rfl (.cons rfl (.cons rfl (.cons rfl (.nil))))))
    refine Sq.nil ?_
    refine Eq.next ?_
    refine Cq.els rfl ?_
    refine Cq.exit ?_
    refine Eq.past ?_
    refine Eq.past ?_
    refine Eq.hit ?_
    refine Eq.end ?_
    refine Eq.next ?_
    refine Cq.region ?_
    refine Sq.move .plain rfl rfl ?_
    refine Sq.add .plain rfl rfl rfl (by omega) ?_
    refine Sq.assign .plain rfl rfl ?_
    refine Sq.nil ?_
    have en : i.toNat = n := by omega
    rw [en] at ho hmt hmf hml
    rw [dsAt_all (Nat.le_refl _)] at ho
    have etd := todo_round (f := f) (L := L) (G := G) (n := n) d n (Nat.le_refl _)
    rw [etd] at hmt hml
    have hst2 : m2 = false → dsOf f L G n (d + 1) = dsOf f L G n d := fun h => dsOf_same (hmf h)
    refine Eq.round _ _ ⟨d + 1, m2, _, rfl, ho, by omega, fun h => by have := hmt h; have := hdn hmore; omega, fun h => ⟨d, by have := hdn hmore; omega, hst2 h, dis_all (hmf h)⟩, E, hgo, rfl⟩ (by rw [if_pos hmore]; cases m2 with | true => (have := hmt rfl; simp; omega) | false => (simp; omega)) (.cons rfl (.cons rfl (.cons rfl (.cons rfl (.nil)))))
  refine Sq.nil ?_
  refine Eq.next ?_
  refine Cq.els rfl ?_
  refine Cq.exit ?_
  refine Eq.past ?_
  refine Eq.past ?_
  refine Eq.hit ?_
  refine Eq.fall0 rfl ?_
  obtain ⟨d', e0, e1, e2⟩ := hst (by assumption)
  rw [e1] at ho
  exact ⟨rfl, ⟨d', e0, ho, e2⟩, hgo⟩
end Go.Proofs.Ytoboklelbbgcnaa
set_option linter.unusedSimpArgs false
set_option linter.unusedVariables false
namespace Go.Proofs.Ytoboklelbbgcnaa
open Go.RowKit
set_option maxRecDepth 100000 in
theorem l4Closer_c (w0 : World) (mv dv av : Value) (xsss : List (List (List Int))) (ds : List Int) (q k d t : Int) (hm : Read3 w0 23 55 3 mv xsss) (hd : Ints w0 3 dv ds) (ha : Ints w0 3 av [q]) (hq : 0 ≤ q ∧ q < xsss.length) (hk : 0 ≤ k ∧ k < (xsss.getD q.toNat []).length) (ht : (xsss.getD q.toNat []).getD k.toNat [] = [t]) (htb : 0 ≤ t ∧ t < (ds.length : Int)) : Ret Try.prog 88 #[mv, dv, av, Value.int .i64 k, Value.int .i64 d] w0 (fun v w => Own w w0.heap.size 3 v ((if ds.getD t.toNat 0 = d then [t] else []).map (Value.int .i64)) ∧ Ext w0 w) := by
  have E := Ext.refl w0
  obtain ⟨p1, r1, hp1, hr1⟩ := Read3.at hm (i := q) (by omega) (by omega)
  obtain ⟨p2, r2, hp2, hr2⟩ := Rows.at hr1 (i := k) (by omega) (by omega)
  rw [ht] at hr2
  have hl1 : (List.length ([q] : List Int) : Int) = 1 := rfl
  have hl2 : (List.length ([t] : List Int) : Int) = 1 := rfl
  refine Ret.of (args := [mv, dv, av, Value.int .i64 k, Value.int .i64 d]) Try.func88 rfl rfl rfl ?_
  rintro _ rfl
  show Cq _ _ _ _ [(0, mv), (1, dv), (2, av), (3, Value.int .i64 k), (4, Value.int .i64 d)] _
  refine Cq.seq ?_
  refine Cq.region ?_
  refine Sq.assign .plain rfl rfl ?_
  refine Sq.nil ?_
  refine Eq.next ?_
  refine Cq.seq ?_
  refine Cq.region ?_
  refine Sq.lit sl55 rfl rfl .plain rfl rfl one_nil (fun b1 w2 e3 hlo4 ho5 _ => ?_)
  replace ho5 := ho5 w0.heap.size (Nat.le_refl _)
  have hs7 := Below.size e3
  replace E := E.trans e3
  refine Sq.assign .plain rfl rfl ?_
  refine Sq.nil ?_
  refine Eq.next ?_
  refine Cq.seq ?_
  refine Cq.seq ?_
  refine Cq.region ?_
  refine Sq.assign .plain rfl rfl ?_
  refine Sq.nil ?_
  refine Eq.next ?_
  refine Cq.block ?_
  refine Cq.loop (fun nn w ls => ∃ (j : Int), ∃ (ov : Value), ∃ (xs : List Int), ls = [(0, mv), (1, dv), (2, av), (3, Value.int .i64 k), (4, Value.int .i64 d), (11, ov), (12, Value.int .i64 j)] ∧ (0 ≤ j ∧ j ≤ 1) ∧ Own w w0.heap.size 3 ov (xs.map (Value.int .i64)) ∧ xs = (if j = 0 then [] else (if ds.getD t.toNat 0 = d then [t] else [])) ∧ Ext w0 w ∧ nn = (1 - j).toNat) _ _ ⟨0, _, [], rfl, by omega, Own.mono ho5 (by omega), rfl, E, rfl⟩ (.cons rfl (.cons rfl (.cons rfl (.cons rfl (.cons rfl (.cons rfl (.cons rfl (.nil)))))))) ?_
  rintro nn wl1 ls ⟨j, ov, xs, rfl, hj, ho, hxs, E, rfl⟩
  have hs8 := Below.size E
  refine Cq.seq ?_
  refine Cq.seq ?_
  refine Cq.region ?_
  refine Sq.move .plain rfl rfl ?_
  refine Sq.move .plain rfl rfl ?_
  refine Sq.lenInts (ha.ext E) .plain rfl und55 rfl ?_
  refine Sq.lss .plain rfl rfl rfl ?_
  refine Sq.part (fun c9 => ?_) (fun c9 => ?_)
  · refine Sq.nil ?_
    refine Eq.next ?_
    refine Cq.thn rfl ?_
    refine Cq.skip ?_
    refine Eq.next ?_
    refine Cq.seq ?_
    refine Cq.block ?_
    refine Cq.seq ?_
    refine Cq.region ?_
    refine Sq.move .plain rfl rfl ?_
    refine Sq.move .plain rfl rfl ?_
    refine Sq.move .plain rfl rfl ?_
    have hj0 : j = 0 := by omega
    have hqj : ([q] : List Int).getD j.toNat 0 = q := by rw [hj0]; rfl
    refine Sq.idxInts sl55 one3 (ha.ext E) .plain rfl rfl rfl .plain rfl rfl (by omega) (by simp only [List.length_singleton]; omega) ?_
    rw [hqj]
    refine Sq.val .plain rfl rfl (Still.at' sl86 (hp1.ext E) rfl rfl) ?_
    refine Sq.val .plain rfl rfl (Still.loadA one23 rfl (hp1.ext E).1) ?_
    refine Sq.move .plain rfl rfl ?_
    refine Sq.val .plain rfl rfl (Still.at' sl23 (hp2.ext E) rfl rfl) ?_
    refine Sq.val .plain rfl rfl (Still.loadA one55 rfl (hp2.ext E).1) ?_
    refine Sq.assign .plain rfl rfl ?_
    refine Sq.nil ?_
    refine Eq.next ?_
    refine Cq.seq ?_
    refine Cq.region ?_
    refine Sq.assign .plain rfl rfl ?_
    refine Sq.nil ?_
    refine Eq.next ?_
    refine Cq.block ?_
    refine Cq.loop (fun nn w ls => ∃ (m : Int), ∃ (ov2 : Value), ∃ (xs2 : List Int), ls = [(0, mv), (1, dv), (2, av), (3, Value.int .i64 k), (4, Value.int .i64 d), (11, ov2), (12, Value.int .i64 j), (13, r2), (14, Value.int .i64 m)] ∧ (0 ≤ m ∧ m ≤ 1) ∧ Own w w0.heap.size 3 ov2 (xs2.map (Value.int .i64)) ∧ xs2 = (if m = 0 then [] else (if ds.getD t.toNat 0 = d then [t] else [])) ∧ Ext w0 w ∧ nn = (1 - m).toNat) _ _ ⟨0, _, xs, rfl, by omega, ho, by rw [hxs, if_pos hj0, if_pos rfl], E, rfl⟩ (.cons rfl (.cons rfl (.cons rfl (.cons rfl (.cons rfl (.cons rfl (.cons rfl (.cons rfl (.cons rfl (.nil)))))))))) ?_
    rintro nn wl2 ls ⟨m, ov2, xs2, rfl, hm, ho, hxs2, E, rfl⟩
    have hs10 := Below.size E
    have hx2 : xs2.length ≤ 1 := by rw [hxs2]; split; decide; split <;> simp
    refine Cq.seq ?_
    refine Cq.seq ?_
    refine Cq.region ?_
    refine Sq.move .plain rfl rfl ?_
    refine Sq.move .plain rfl rfl ?_
    refine Sq.lenInts (hr2.ext E) .plain rfl und55 rfl ?_
    refine Sq.lss .plain rfl rfl rfl ?_
    refine Sq.part (fun c11 => ?_) (fun c11 => ?_)
    · refine Sq.nil ?_
      refine Eq.next ?_
      refine Cq.thn rfl ?_
      refine Cq.skip ?_
      refine Eq.next ?_
      refine Cq.seq ?_
      refine Cq.block ?_
      refine Cq.seq ?_
      refine Cq.region ?_
      refine Sq.move .plain rfl rfl ?_
      refine Sq.move .plain rfl rfl ?_
      refine Sq.move .plain rfl rfl ?_
      have hm0 : m = 0 := by omega
      have htm : ([t] : List Int).getD m.toNat 0 = t := by rw [hm0]; rfl
      refine Sq.idxInts sl55 one3 (hr2.ext E) .plain rfl rfl rfl .plain rfl rfl (by omega) (by simp only [List.length_singleton]; omega) ?_
      rw [htm]
      refine Sq.idxInts sl55 one3 (hd.ext E) .plain rfl rfl rfl .plain rfl rfl (by omega) (by omega) ?_
      refine Sq.move .plain rfl rfl ?_
      refine Sq.eql .plain rfl rfl rfl ?_
      refine Sq.part (fun hde => ?_) (fun hde => ?_)
      · refine Sq.move .plain rfl rfl ?_
        refine Sq.move (.met rfl rfl rfl) rfl rfl ?_
        refine Sq.move (.met rfl rfl rfl) rfl rfl ?_
        refine Sq.move (.met rfl rfl rfl) rfl rfl ?_
        refine Sq.idxInts sl55 one3 (hr2.ext E) (.met rfl rfl rfl) rfl rfl rfl (.met rfl rfl rfl) rfl rfl (by omega) (by simp only [List.length_singleton]; omega) ?_
        rw [htm]
        refine Sq.call fn112 (.met rfl rfl rfl) rfl rfl (l4In_c _ xs2 _ (Own.row ho) t (by omega)) ?_
        rintro _ _ ⟨rfl, rfl⟩
        refine Sq.isF (by rw [hxs2, if_pos hm0]; simp) ?_
        refine Sq.notF (.met rfl rfl rfl) rfl rfl ?_
        refine Sq.pickT .plain rfl rfl rfl ?_
        refine Sq.nil ?_
        refine Eq.next ?_
        refine Cq.thn rfl ?_
        refine Cq.region ?_
        refine Sq.move .plain rfl rfl ?_
        refine Sq.move .plain rfl rfl ?_
        refine Sq.move .plain rfl rfl ?_
        refine Sq.idxInts sl55 one3 (hr2.ext E) .plain rfl rfl rfl .plain rfl rfl (by omega) (by simp only [List.length_singleton]; omega) ?_
        rw [htm]
        refine Sq.app1 sl55 ho (by omega) (by rw [List.length_map]; omega) .plain rfl rfl rfl rfl rfl rfl rfl (fun v12 w13 ho15 g14 _ => ?_)
        have hs16 := g14.size
        replace E := E.owned ho g14 (by omega)
        refine Sq.assign .plain rfl rfl ?_
        refine Sq.nil ?_
        refine Eq.end ?_
        refine Eq.next ?_
        refine Cq.region ?_
        refine Sq.move .plain rfl rfl ?_
        refine Sq.add .plain rfl rfl rfl (by omega) ?_
        refine Sq.assign .plain rfl rfl ?_
        refine Sq.nil ?_
        have hx20 : xs2 = [] := by rw [hxs2, if_pos hm0]
        subst hx20
        refine Eq.round _ _ ⟨m + 1, _, [t], rfl, by omega, by simpa using ho15, by rw [if_neg (by omega), if_pos hde], E, rfl⟩ (by omega) (.cons rfl (.cons rfl (.cons rfl (.cons rfl (.cons rfl (.cons rfl (.cons rfl (.cons rfl (.cons rfl (.nil))))))))))
      refine Sq.move .plain rfl rfl ?_
      refine Sq.off rfl rfl rfl rfl rfl rfl ?_
      refine Sq.off rfl rfl rfl rfl rfl rfl ?_
      refine Sq.off rfl rfl rfl rfl rfl rfl ?_
      refine Sq.off rfl rfl rfl rfl rfl rfl ?_
      refine Sq.off rfl rfl rfl rfl rfl rfl ?_
      refine Sq.off rfl rfl rfl rfl rfl rfl ?_
      refine Sq.off rfl rfl rfl rfl rfl rfl ?_
      refine Sq.pickF .plain rfl rfl rfl ?_
      refine Sq.nil ?_
      refine Eq.next ?_
      refine Cq.els rfl ?_
      refine Cq.skip ?_
      refine Eq.end ?_
      refine Eq.next ?_
      refine Cq.region ?_
      refine Sq.move .plain rfl rfl ?_
      refine Sq.add .plain rfl rfl rfl (by omega) ?_
      refine Sq.assign .plain rfl rfl ?_
      refine Sq.nil ?_
      have hx20 : xs2 = [] := by rw [hxs2, if_pos hm0]
      subst hx20
      refine Eq.round _ _ ⟨m + 1, _, [], rfl, by omega, ho, by rw [if_neg (by omega), if_neg hde], E, rfl⟩ (by omega) (.cons rfl (.cons rfl (.cons rfl (.cons rfl (.cons rfl (.cons rfl (.cons rfl (.cons rfl (.cons rfl (.nil))))))))))
    refine Sq.nil ?_
    refine Eq.next ?_
    refine Cq.els rfl ?_
    refine Cq.exit ?_
    refine Eq.past ?_
    refine Eq.past ?_
    refine Eq.hit ?_
    refine Eq.end ?_
    refine Eq.next ?_
    refine Cq.region ?_
    refine Sq.move .plain rfl rfl ?_
    refine Sq.add .plain rfl rfl rfl (by omega) ?_
    refine Sq.assign .plain rfl rfl ?_
    refine Sq.nil ?_
    have hm1 : m = 1 := by omega
    refine Eq.round _ _ ⟨j + 1, _, xs2, rfl, by omega, ho, by rw [if_neg (by omega), hxs2, if_neg (by omega)], E, rfl⟩ (by omega) (.cons rfl (.cons rfl (.cons rfl (.cons rfl (.cons rfl (.cons rfl (.cons rfl (.nil))))))))
  refine Sq.nil ?_
  refine Eq.next ?_
  refine Cq.els rfl ?_
  refine Cq.exit ?_
  refine Eq.past ?_
  refine Eq.past ?_
  refine Eq.hit ?_
  refine Eq.next ?_
  refine Cq.seq ?_
  refine Cq.region ?_
  refine Sq.move .plain rfl rfl ?_
  refine Sq.assign .plain rfl rfl ?_
  refine Sq.nil ?_
  refine Eq.next ?_
  refine Cq.ret ?_
  refine Eq.ret1 rfl rfl ?_
  rw [hxs, if_neg (by omega)] at ho
  exact ⟨ho, E⟩
end Go.Proofs.Ytoboklelbbgcnaa
