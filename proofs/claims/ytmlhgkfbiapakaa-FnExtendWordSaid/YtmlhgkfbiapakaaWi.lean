/-
  Walks, printed by a program out of the translation and a contract for each function; each step is one law.
-/
import Derived.Test.YtmlhgkfbiapakaaWh
set_option linter.unusedSimpArgs false
set_option linter.unusedVariables false
namespace Go.Proofs.Ytmlhgkfbiapakaa
open Go.RowKit

set_option maxRecDepth 100000 in
theorem drawValid_c (w0 : World) (e : TypeId) (a0 : Option Addr) (c0 : Nat) (cs : List UInt8) (hc : Bytes w0 e (.slice a0 cs.length c0) cs) (hcap : cs.length ≤ c0) : Ret Try.prog 42 #[Value.slice a0 cs.length c0] w0 (fun v w => (∃ a, RowsA w v a ∧ Small 400 a) ∧ Ext w0 w) := by
  have E := Ext.refl w0
  refine Ret.of (args := [Value.slice a0 cs.length c0]) Try.func42 rfl rfl rfl ?_
  rintro _ rfl
  show Cq _ _ _ _ [(0, Value.slice a0 cs.length c0)] _
  refine Cq.seq ?_
  refine Cq.region ?_
  refine Sq.alloc zero26 .plain rfl (fun b1 w2 e3 hB4 hlo5 => ?_)
  have hd6 := Nat.le_trans (Below.size E) hlo5
  have hs7 := Below.size e3
  replace E := E.trans e3
  refine Sq.nil ?_
  refine Eq.next ?_
  refine Cq.seq ?_
  refine Cq.region ?_
  refine Sq.move .plain rfl rfl ?_
  refine Sq.call fn50 .plain rfl rfl (open_c _ _ _ _ _ (hc.ext E) hcap) ?_
  rintro _ w8 ⟨⟨rb, bv, bs, rfl, hrb, hR, hb, hbl⟩, e9⟩
  have hrlt := hR.lt
  have hd10 := Nat.le_trans (Below.size E) hrb
  have hd11 := Nat.lt_of_lt_of_le hB4.lt hrb
  have hs12 := Below.size e9
  replace E := E.trans e9
  replace hB4 := hB4.ext e9
  have G := World.grownBy.refl w8 (some rb)
  refine Sq.assign .plain rfl rfl ?_
  refine Sq.nil ?_
  refine Eq.next ?_
  refine Cq.seq ?_
  refine Cq.region ?_
  refine Sq.move .plain rfl rfl ?_
  refine Sq.move .plain rfl rfl ?_
  refine Sq.call fn51 .plain rfl rfl (l3Any_c _ _ _ _ _ _ hR (hb.go G) hbl (by omega) ) ?_
  rintro _ w14 ⟨⟨p15, hp18, hB17, g16⟩, ⟨a19, ⟨nx20, ac21, rfl, hn22, ha23⟩, hv24⟩⟩
  have hs25 := World.grownBy.size g16
  have hs26 := Below.size E
  have hs27 := World.grownBy.size G
  have hs28 := World.grownBy.size g16
  replace E := E.grown g16 (fun k hk => by injection hk with hk; subst hk; omega)
  replace hB4 := hB4.grown g16 (by intro h; injection h with h; omega)
  replace G := grown_trans G g16
  replace hR := hB17
  refine Sq.call fn71 .plain rfl rfl (l3Wrong_c _ _ _ _ _ _ hR (hb.go G) hbl (by omega) a19 _ _ hn22 ha23 _ (by omega) hv24) ?_
  rintro _ w30 ⟨⟨p31, hp34, hB33, g32⟩, ⟨a35, ⟨nx36, ac37, rfl, hn38, ha39⟩, hv40⟩⟩
  have hs41 := World.grownBy.size g32
  have hs42 := Below.size E
  have hs43 := World.grownBy.size G
  have hs44 := World.grownBy.size g32
  replace E := E.grown g32 (fun k hk => by injection hk with hk; subst hk; omega)
  replace hB4 := hB4.grown g32 (by intro h; injection h with h; omega)
  replace G := grown_trans G g32
  replace hn22 := hn22.stored g32 hR (by decide) (by decide)
  replace ha23 := ha23.stored g32 hR (by decide)
  replace hR := hB33
  refine Sq.storeAgg agg26 .plain rfl rfl (one_cons rfl (one_cons (Rows.one hn38) (one_cons (Row.one ha39) one_nil))) hB4 rfl rfl (fun w45 g46 hB47 => ?_)
  have hs48 := World.grownBy.size g46
  replace E := E.grown g46 (fun k hk => by injection hk with hk; subst hk; omega)
  replace hR := hR.grown g46 (by intro h; injection h with h; omega)
  replace hn22 := hn22.stored g46 hB4 (by decide) (by decide)
  replace ha23 := ha23.stored g46 hB4 (by decide)
  replace hn38 := hn38.stored g46 hB4 (by decide) (by decide)
  replace ha39 := ha39.stored g46 hB4 (by decide)
  replace hB4 := hB47
  refine Sq.nil ?_
  refine Eq.next ?_
  refine Cq.ret ?_
  refine Eq.retCell rfl rfl agg26 hB4 rfl ?_
  exact ⟨⟨_, ⟨_, _, rfl, hn38, ha39⟩, by first | exact (Small.of hv40).mono (by omega) | exact Small.mono hv40 (by omega) | exact (Small.of hv24).mono (by omega) | exact Small.mono hv24 (by omega)⟩, E⟩

set_option maxRecDepth 100000 in
theorem drawSafety_c (w0 : World) (e : TypeId) (a0 : Option Addr) (c0 : Nat) (cs : List UInt8) (hc : Bytes w0 e (.slice a0 cs.length c0) cs) (hcap : cs.length ≤ c0) : Ret Try.prog 15 #[Value.slice a0 cs.length c0] w0 (fun v w => (∃ a, RowsA w v a ∧ Small 400 a) ∧ Ext w0 w) := by
  have E := Ext.refl w0
  refine Ret.of (args := [Value.slice a0 cs.length c0]) Try.func15 rfl rfl rfl ?_
  rintro _ rfl
  show Cq _ _ _ _ [(0, Value.slice a0 cs.length c0)] _
  refine Cq.seq ?_
  refine Cq.region ?_
  refine Sq.alloc zero26 .plain rfl (fun b1 w2 e3 hB4 hlo5 => ?_)
  have hd6 := Nat.le_trans (Below.size E) hlo5
  have hs7 := Below.size e3
  replace E := E.trans e3
  refine Sq.nil ?_
  refine Eq.next ?_
  refine Cq.seq ?_
  refine Cq.region ?_
  refine Sq.move .plain rfl rfl ?_
  have hd17 := hB4.lt
  refine Sq.call fn42 .plain rfl rfl (drawValid_c _ _ _ _ _ (hc.ext E) hcap) ?_
  rintro _ w9 ⟨⟨a11, ⟨nx12, ac13, rfl, hn14, ha15⟩, hsm16⟩, e10⟩
  have hs18 := Below.size E
  have hs19 := Below.size e10
  replace E := E.trans e10
  replace hB4 := hB4.ext e10
  refine Sq.storeAgg agg26 .plain rfl rfl (one_cons rfl (one_cons (Rows.one hn14) (one_cons (Row.one ha15) one_nil))) hB4 rfl rfl (fun w20 g21 hB22 => ?_)
  have hs23 := World.grownBy.size g21
  replace E := E.grown g21 (fun k hk => by injection hk with hk; subst hk; omega)
  replace hn14 := hn14.stored g21 hB4 (by decide) (by decide)
  replace ha15 := ha15.stored g21 hB4 (by decide)
  replace hB4 := hB22
  refine Sq.nil ?_
  refine Eq.next ?_
  refine Cq.ret ?_
  refine Eq.retCell rfl rfl agg26 hB4 rfl ?_
  exact ⟨⟨_, ⟨_, _, rfl, hn14, ha15⟩, by first | exact (Small.of hsm16).mono (by omega) | exact Small.mono hsm16 (by omega) | exact (Small.of hsm16).mono (by omega) | exact Small.mono hsm16 (by omega)⟩, E⟩

set_option maxRecDepth 100000 in
theorem drawCompl_c (w0 : World) (e : TypeId) (a0 : Option Addr) (c0 : Nat) (cs : List UInt8) (hc : Bytes w0 e (.slice a0 cs.length c0) cs) (hcap : cs.length ≤ c0) : Ret Try.prog 38 #[Value.slice a0 cs.length c0] w0 (fun v w => (∃ a, RowsA w v a ∧ Small 400 a) ∧ Ext w0 w) := by
  have E := Ext.refl w0
  refine Ret.of (args := [Value.slice a0 cs.length c0]) Try.func38 rfl rfl rfl ?_
  rintro _ rfl
  show Cq _ _ _ _ [(0, Value.slice a0 cs.length c0)] _
  refine Cq.seq ?_
  refine Cq.region ?_
  refine Sq.alloc zero26 .plain rfl (fun b1 w2 e3 hB4 hlo5 => ?_)
  have hd6 := Nat.le_trans (Below.size E) hlo5
  have hs7 := Below.size e3
  replace E := E.trans e3
  refine Sq.nil ?_
  refine Eq.next ?_
  refine Cq.seq ?_
  refine Cq.region ?_
  refine Sq.move .plain rfl rfl ?_
  have hd17 := hB4.lt
  refine Sq.call fn42 .plain rfl rfl (drawValid_c _ _ _ _ _ (hc.ext E) hcap) ?_
  rintro _ w9 ⟨⟨a11, ⟨nx12, ac13, rfl, hn14, ha15⟩, hsm16⟩, e10⟩
  have hs18 := Below.size E
  have hs19 := Below.size e10
  replace E := E.trans e10
  replace hB4 := hB4.ext e10
  refine Sq.storeAgg agg26 .plain rfl rfl (one_cons rfl (one_cons (Rows.one hn14) (one_cons (Row.one ha15) one_nil))) hB4 rfl rfl (fun w20 g21 hB22 => ?_)
  have hs23 := World.grownBy.size g21
  replace E := E.grown g21 (fun k hk => by injection hk with hk; subst hk; omega)
  replace hn14 := hn14.stored g21 hB4 (by decide) (by decide)
  replace ha15 := ha15.stored g21 hB4 (by decide)
  replace hB4 := hB22
  refine Sq.nil ?_
  refine Eq.next ?_
  refine Cq.ret ?_
  refine Eq.retCell rfl rfl agg26 hB4 rfl ?_
  exact ⟨⟨_, ⟨_, _, rfl, hn14, ha15⟩, by first | exact (Small.of hsm16).mono (by omega) | exact Small.mono hsm16 (by omega) | exact (Small.of hsm16).mono (by omega) | exact Small.mono hsm16 (by omega)⟩, E⟩

set_option maxRecDepth 100000 in
theorem drawExtend_c (w0 : World) (e : TypeId) (a0 : Option Addr) (c0 : Nat) (cs : List UInt8) (hc : Bytes w0 e (.slice a0 cs.length c0) cs) (hcap : cs.length ≤ c0) : Ret Try.prog 21 #[Value.slice a0 cs.length c0] w0 (fun v w => (∃ (u : Value) (k : Int) (a : A), v = .tuple #[u, .int .i64 k] ∧ RowsA w u a ∧ Small 400 a ∧ -1 ≤ k ∧ k ≤ 64) ∧ Ext w0 w) := by
  have E := Ext.refl w0
  refine Ret.of (args := [Value.slice a0 cs.length c0]) Try.func21 rfl rfl rfl ?_
  rintro _ rfl
  show Cq _ _ _ _ [(0, Value.slice a0 cs.length c0)] _
  refine Cq.seq ?_
  refine Cq.region ?_
  refine Sq.alloc zero26 .plain rfl (fun b1 w2 e3 hB4 hlo5 => ?_)
  have hd6 := Nat.le_trans (Below.size E) hlo5
  have hs7 := Below.size e3
  replace E := E.trans e3
  refine Sq.assign .plain rfl rfl ?_
  refine Sq.nil ?_
  refine Eq.next ?_
  refine Cq.seq ?_
  refine Cq.region ?_
  refine Sq.move .plain rfl rfl ?_
  refine Sq.call fn50 .plain rfl rfl (open_c _ _ _ _ _ (hc.ext E) hcap) ?_
  rintro _ w8 ⟨⟨rb, bv, bs, rfl, hrb, hR, hb, hbl⟩, e9⟩
  have hrlt := hR.lt
  have hd10 := Nat.le_trans (Below.size E) hrb
  have hd11 := Nat.lt_of_lt_of_le hB4.lt hrb
  have hs12 := Below.size e9
  replace E := E.trans e9
  replace hB4 := hB4.ext e9
  have G := World.grownBy.refl w8 (some rb)
  refine Sq.assign .plain rfl rfl ?_
  refine Sq.nil ?_
  refine Eq.next ?_
  refine Cq.seq ?_
  refine Cq.region ?_
  refine Sq.move .plain rfl rfl ?_
  refine Sq.call fn51 .plain rfl rfl (l3Any_c _ _ _ _ _ _ hR (hb.go G) hbl (by omega) ) ?_
  rintro _ w14 ⟨⟨p15, hp18, hB17, g16⟩, ⟨a19, ⟨nx20, ac21, rfl, hn22, ha23⟩, hv24⟩⟩
  have hs25 := World.grownBy.size g16
  have hs26 := Below.size E
  have hs27 := World.grownBy.size G
  have hs28 := World.grownBy.size g16
  replace E := E.grown g16 (fun k hk => by injection hk with hk; subst hk; omega)
  replace hB4 := hB4.grown g16 (by intro h; injection h with h; omega)
  replace G := grown_trans G g16
  replace hR := hB17
  refine Sq.move .plain rfl rfl ?_
  refine Sq.move .plain rfl rfl ?_
  refine Sq.call fn53 .plain rfl rfl (l1Some_c _ _ _ _ _ _ hR (hb.go G) hbl (by omega) ) ?_
  rintro _ w30 ⟨⟨p31, hp34, hB33, g32⟩, ⟨k35, rfl, hk36⟩⟩
  have hs37 := World.grownBy.size g32
  have hs38 := Below.size E
  have hs39 := World.grownBy.size G
  have hs40 := World.grownBy.size g32
  replace E := E.grown g32 (fun k hk => by injection hk with hk; subst hk; omega)
  replace hB4 := hB4.grown g32 (by intro h; injection h with h; omega)
  replace G := grown_trans G g32
  replace hn22 := hn22.stored g32 hR (by decide) (by decide)
  replace ha23 := ha23.stored g32 hR (by decide)
  replace hR := hB33
  refine Sq.call fn52 .plain rfl rfl (l1Wrong_c _ _ _ _ _ _ hR (hb.go G) hbl (by omega) k35 (by omega)) ?_
  rintro _ w42 ⟨⟨p43, hp46, hB45, g44⟩, ⟨k47, rfl, hk48⟩⟩
  have hs49 := World.grownBy.size g44
  have hs50 := Below.size E
  have hs51 := World.grownBy.size G
  have hs52 := World.grownBy.size g44
  replace E := E.grown g44 (fun k hk => by injection hk with hk; subst hk; omega)
  replace hB4 := hB4.grown g44 (by intro h; injection h with h; omega)
  replace G := grown_trans G g44
  replace hn22 := hn22.stored g44 hR (by decide) (by decide)
  replace ha23 := ha23.stored g44 hR (by decide)
  replace hR := hB45
  refine Sq.storeAgg agg26 .plain rfl rfl (one_cons rfl (one_cons (Rows.one hn22) (one_cons (Row.one ha23) one_nil))) hB4 rfl rfl (fun w53 g54 hB55 => ?_)
  have hs56 := World.grownBy.size g54
  replace E := E.grown g54 (fun k hk => by injection hk with hk; subst hk; omega)
  replace hR := hR.grown g54 (by intro h; injection h with h; omega)
  replace hn22 := hn22.stored g54 hB4 (by decide) (by decide)
  replace ha23 := ha23.stored g54 hB4 (by decide)
  replace hB4 := hB55
  refine Sq.assign .plain rfl rfl ?_
  refine Sq.nil ?_
  refine Eq.next ?_
  refine Cq.ret ?_
  refine Eq.retCell2 rfl rfl agg26 hB4 rfl rfl ?_
  exact ⟨⟨_, _, _, rfl, ⟨_, _, rfl, hn22, ha23⟩, by first | exact (Small.of hv24).mono (by omega) | exact Small.mono hv24 (by omega), by omega⟩, E⟩

set_option maxRecDepth 100000 in
theorem drawCount_c (w0 : World) (e : TypeId) (a0 : Option Addr) (c0 : Nat) (cs : List UInt8) (hc : Bytes w0 e (.slice a0 cs.length c0) cs) (hcap : cs.length ≤ c0) : Ret Try.prog 25 #[Value.slice a0 cs.length c0] w0 (fun v w => (∃ (u : Value) (k : Int) (a : A), v = .tuple #[u, .int .i64 k] ∧ RowsA w u a ∧ Small 400 a ∧ -1 ≤ k ∧ k ≤ 8) ∧ Ext w0 w) := by
  have E := Ext.refl w0
  refine Ret.of (args := [Value.slice a0 cs.length c0]) Try.func25 rfl rfl rfl ?_
  rintro _ rfl
  show Cq _ _ _ _ [(0, Value.slice a0 cs.length c0)] _
  refine Cq.seq ?_
  refine Cq.region ?_
  refine Sq.alloc zero26 .plain rfl (fun b1 w2 e3 hB4 hlo5 => ?_)
  have hd6 := Nat.le_trans (Below.size E) hlo5
  have hs7 := Below.size e3
  replace E := E.trans e3
  refine Sq.assign .plain rfl rfl ?_
  refine Sq.nil ?_
  refine Eq.next ?_
  refine Cq.seq ?_
  refine Cq.region ?_
  refine Sq.move .plain rfl rfl ?_
  refine Sq.call fn50 .plain rfl rfl (open_c _ _ _ _ _ (hc.ext E) hcap) ?_
  rintro _ w8 ⟨⟨rb, bv, bs, rfl, hrb, hR, hb, hbl⟩, e9⟩
  have hrlt := hR.lt
  have hd10 := Nat.le_trans (Below.size E) hrb
  have hd11 := Nat.lt_of_lt_of_le hB4.lt hrb
  have hs12 := Below.size e9
  replace E := E.trans e9
  replace hB4 := hB4.ext e9
  have G := World.grownBy.refl w8 (some rb)
  refine Sq.assign .plain rfl rfl ?_
  refine Sq.nil ?_
  refine Eq.next ?_
  refine Cq.seq ?_
  refine Cq.region ?_
  refine Sq.move .plain rfl rfl ?_
  refine Sq.call fn51 .plain rfl rfl (l3Any_c _ _ _ _ _ _ hR (hb.go G) hbl (by omega) ) ?_
  rintro _ w14 ⟨⟨p15, hp18, hB17, g16⟩, ⟨a19, ⟨nx20, ac21, rfl, hn22, ha23⟩, hv24⟩⟩
  have hs25 := World.grownBy.size g16
  have hs26 := Below.size E
  have hs27 := World.grownBy.size G
  have hs28 := World.grownBy.size g16
  replace E := E.grown g16 (fun k hk => by injection hk with hk; subst hk; omega)
  replace hB4 := hB4.grown g16 (by intro h; injection h with h; omega)
  replace G := grown_trans G g16
  replace hR := hB17
  refine Sq.move .plain rfl rfl ?_
  refine Sq.lit sl47 rfl rfl .plain rfl rfl (one_cons rfl (one_cons rfl (one_cons rfl (one_cons rfl (one_cons rfl (one_cons rfl (one_cons rfl (one_cons rfl one_nil)))))))) (fun b29 w30 e31 hlo32 ho33 _ => ?_)
  replace ho33 := ho33 w14.heap.size (Nat.le_refl _)
  have hs35 := Below.size e31
  replace E := E.trans e31
  replace hB4 := hB4.ext e31
  replace hR := hR.ext e31
  replace G := grown_trans G (Ext.to_grown e31 _)
  replace hn22 := hn22.ext e31
  replace ha23 := ha23.ext e31
  refine Sq.call fn59 .plain rfl rfl (num_c _ _ _ _ _ _ hR (hb.go G) hbl (by omega) _ [3, 2, 4, 1, 0, 7, 8, -1] (Own.row ho33) (by simp)) ?_
  rintro _ w37 ⟨⟨p38, hp41, hB40, g39⟩, ⟨k42, rfl, hm43⟩⟩
  have hs44 := World.grownBy.size g39
  have hs45 := Below.size E
  have hs46 := World.grownBy.size G
  have hs47 := World.grownBy.size g39
  replace E := E.grown g39 (fun k hk => by injection hk with hk; subst hk; omega)
  replace hB4 := hB4.grown g39 (by intro h; injection h with h; omega)
  replace G := grown_trans G g39
  replace hn22 := hn22.stored g39 hR (by decide) (by decide)
  replace ha23 := ha23.stored g39 hR (by decide)
  replace ho33 := ho33.stored g39 hR (by decide)
  replace hR := hB40
  simp only [List.mem_cons, List.not_mem_nil, or_false] at hm43
  refine Sq.storeAgg agg26 .plain rfl rfl (one_cons rfl (one_cons (Rows.one hn22) (one_cons (Row.one ha23) one_nil))) hB4 rfl rfl (fun w48 g49 hB50 => ?_)
  have hs51 := World.grownBy.size g49
  replace E := E.grown g49 (fun k hk => by injection hk with hk; subst hk; omega)
  replace hR := hR.grown g49 (by intro h; injection h with h; omega)
  replace hn22 := hn22.stored g49 hB4 (by decide) (by decide)
  replace ha23 := ha23.stored g49 hB4 (by decide)
  replace ho33 := ho33.stored g49 hB4 (by decide)
  replace hB4 := hB50
  refine Sq.assign .plain rfl rfl ?_
  refine Sq.nil ?_
  refine Eq.next ?_
  refine Cq.ret ?_
  refine Eq.retCell2 rfl rfl agg26 hB4 rfl rfl ?_
  exact ⟨⟨_, _, _, rfl, ⟨_, _, rfl, hn22, ha23⟩, by first | exact (Small.of hv24).mono (by omega) | exact Small.mono hv24 (by omega), by omega⟩, E⟩

end Go.Proofs.Ytmlhgkfbiapakaa
