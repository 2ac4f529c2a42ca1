/-
  Walks, printed by a program out of the translation and a contract for each function; each step is one law.
-/
import Derived.Test.YtdkdpmmfebdeaaaPc
import Derived.Test.YtdkdpmmfebdeaaaWc
set_option linter.unusedSimpArgs false
set_option linter.unusedVariables false
namespace Go.Proofs.Ytdkdpmmfebdeaaa
open Go.RowKit

set_option maxRecDepth 100000 in
theorem ff1_c (w0 : World) (q x : Int) (a : A) (bt b : Nat) (xs : List Int) (hB : Blk w0 bt 60 [Value.slice (some ⟨b, 0, none⟩) a.next.length a.next.length]) (hT : Blk w0 b 64 (xs.map (Value.int .i64))) (hTab : Tab a xs) (hq : 0 ≤ q ∧ q < a.next.length) (hx : 0 ≤ x ∧ x < 6) : Ret Try.prog 96 #[Value.int .i64 q, Value.int .i64 x, Value.slice none 0 0, Value.pointer (some ⟨bt, 0, none⟩)] w0 (fun v w => Own w w0.heap.size 3 v [Value.int .i64 (goA a q x)] ∧ Ext w0 w) := by
  have E := Ext.refl w0
  refine Ret.of (args := [Value.int .i64 q, Value.int .i64 x, Value.slice none 0 0, Value.pointer (some ⟨bt, 0, none⟩)]) Try.func96 rfl rfl rfl ?_
  rintro _ rfl
  show Cq _ _ _ _ [(0, Value.int .i64 q), (1, Value.int .i64 x), (2, Value.slice none 0 0), (3, Value.pointer (some ⟨bt, 0, none⟩))] _
  refine Cq.seq ?_
  refine Cq.region ?_
  refine Sq.assign .plain rfl rfl ?_
  refine Sq.nil ?_
  refine Eq.next ?_
  refine Cq.seq ?_
  refine Cq.region ?_
  refine Sq.move .plain rfl rfl ?_
  refine Sq.loadB one60 .plain rfl rfl hB rfl ?_
  refine Sq.move .plain rfl rfl ?_
  refine Sq.move .plain rfl rfl ?_
  refine Sq.val .plain rfl rfl (Still.ixS slk60 rfl rfl (by omega) (by omega)) ?_
  refine Sq.val .plain rfl rfl (Still.ixA ar64 rfl rfl (by omega) (by omega)) ?_
  refine Sq.val .plain rfl rfl (Still.loadB one3 rfl hT (by rw [Nat.zero_add, List.getElem?_map, hTab.2 q x (by first | omega | assumption) (by omega)]; rfl)) ?_
  refine Sq.app1 sl52 (Own.nil w0 (w0.heap.size) 3) (by omega) (by simp) .plain rfl rfl rfl rfl rfl rfl rfl (fun v1 w2 ho4 g3 _ => ?_)
  have hs5 := g3.size
  replace E := E.owned (Own.nil w0 (w0.heap.size) 3) g3 (by omega)
  replace hB := hB.owned (Own.nil w0 (w0.heap.size) 3) g3 (by decide)
  replace hT := hT.owned (Own.nil w0 (w0.heap.size) 3) g3 (by decide)
  refine Sq.assign .plain rfl rfl ?_
  refine Sq.nil ?_
  refine Eq.next ?_
  refine Cq.ret ?_
  refine Eq.ret1 rfl rfl ?_
  exact ⟨by simpa using ho4, E⟩

set_option maxRecDepth 100000 in
theorem la1_c (w0 : World) (q x : Int) (a : A) (bt b : Nat) (xs : List Int) (hB : Blk w0 bt 60 [Value.slice (some ⟨b, 0, none⟩) a.next.length a.next.length]) (hT : Blk w0 b 64 (xs.map (Value.int .i64))) (hTab : Tab a xs) (hq : 0 ≤ q ∧ q < a.next.length) (hx : 0 ≤ x ∧ x < 6) : Ret Try.prog 100 #[Value.int .i64 q, Value.int .i64 x, Value.slice none 0 0, Value.pointer (some ⟨bt, 0, none⟩)] w0 (fun v w => Own w w0.heap.size 3 v [Value.int .i64 (goA a q x)] ∧ Ext w0 w) := by
  have E := Ext.refl w0
  refine Ret.of (args := [Value.int .i64 q, Value.int .i64 x, Value.slice none 0 0, Value.pointer (some ⟨bt, 0, none⟩)]) Try.func100 rfl rfl rfl ?_
  rintro _ rfl
  show Cq _ _ _ _ [(0, Value.int .i64 q), (1, Value.int .i64 x), (2, Value.slice none 0 0), (3, Value.pointer (some ⟨bt, 0, none⟩))] _
  refine Cq.seq ?_
  refine Cq.region ?_
  refine Sq.assign .plain rfl rfl ?_
  refine Sq.nil ?_
  refine Eq.next ?_
  refine Cq.seq ?_
  refine Cq.region ?_
  refine Sq.move .plain rfl rfl ?_
  refine Sq.loadB one60 .plain rfl rfl hB rfl ?_
  refine Sq.move .plain rfl rfl ?_
  refine Sq.move .plain rfl rfl ?_
  refine Sq.val .plain rfl rfl (Still.ixS slk60 rfl rfl (by omega) (by omega)) ?_
  refine Sq.val .plain rfl rfl (Still.ixA ar64 rfl rfl (by omega) (by omega)) ?_
  refine Sq.val .plain rfl rfl (Still.loadB one3 rfl hT (by rw [Nat.zero_add, List.getElem?_map, hTab.2 q x (by first | omega | assumption) (by omega)]; rfl)) ?_
  refine Sq.app1 sl52 (Own.nil w0 (w0.heap.size) 3) (by omega) (by simp) .plain rfl rfl rfl rfl rfl rfl rfl (fun v1 w2 ho4 g3 _ => ?_)
  have hs5 := g3.size
  replace E := E.owned (Own.nil w0 (w0.heap.size) 3) g3 (by omega)
  replace hB := hB.owned (Own.nil w0 (w0.heap.size) 3) g3 (by decide)
  replace hT := hT.owned (Own.nil w0 (w0.heap.size) 3) g3 (by decide)
  refine Sq.assign .plain rfl rfl ?_
  refine Sq.nil ?_
  refine Eq.next ?_
  refine Cq.ret ?_
  refine Eq.ret1 rfl rfl ?_
  exact ⟨by simpa using ho4, E⟩

set_option maxRecDepth 100000 in
theorem fa1_c (w0 : World) (q : Int) (a : A) (nx ac : Value) (b : Nat) (hB : Blk w0 b 27 [Value.int .i64 a.al, nx, ac]) (hac : Bools w0 4 ac a.acc) (hq : 0 ≤ q ∧ q < a.acc.length) : Ret Try.prog 62 #[Value.int .i64 q, Value.pointer (some ⟨b, 0, none⟩)] w0 (fun v w => v = .bool (accA a q) ∧ w0 = w) := by
  refine Ret.of (args := [Value.int .i64 q, Value.pointer (some ⟨b, 0, none⟩)]) Try.func62 rfl rfl rfl ?_
  rintro _ rfl
  show Cq _ _ _ _ [(0, Value.int .i64 q), (1, Value.pointer (some ⟨b, 0, none⟩))] _
  refine Cq.seq ?_
  refine Cq.region ?_
  refine Sq.assign .plain rfl rfl ?_
  refine Sq.nil ?_
  refine Eq.next ?_
  refine Cq.seq ?_
  refine Cq.region ?_
  refine Sq.fieldAddr fld27_2 .plain rfl rfl ?_
  refine Sq.loadB one23 .plain rfl rfl hB rfl ?_
  refine Sq.move .plain rfl rfl ?_
  refine Sq.idxBools sl23 one4 hac .plain rfl rfl rfl .plain rfl rfl (by omega) (by omega) ?_
  refine Sq.assign .plain rfl rfl ?_
  refine Sq.nil ?_
  refine Eq.next ?_
  refine Cq.ret ?_
  refine Eq.ret1 rfl rfl ?_
  exact ⟨rfl, rfl⟩

set_option maxRecDepth 100000 in
theorem la2_c (w0 : World) (q : Int) (a : A) (nx ac : Value) (b : Nat) (hB : Blk w0 b 27 [Value.int .i64 a.al, nx, ac]) (hac : Bools w0 4 ac a.acc) (hq : 0 ≤ q ∧ q < a.acc.length) : Ret Try.prog 101 #[Value.int .i64 q, Value.pointer (some ⟨b, 0, none⟩)] w0 (fun v w => v = .bool (accA a q) ∧ w0 = w) := by
  refine Ret.of (args := [Value.int .i64 q, Value.pointer (some ⟨b, 0, none⟩)]) Try.func101 rfl rfl rfl ?_
  rintro _ rfl
  show Cq _ _ _ _ [(0, Value.int .i64 q), (1, Value.pointer (some ⟨b, 0, none⟩))] _
  refine Cq.seq ?_
  refine Cq.region ?_
  refine Sq.assign .plain rfl rfl ?_
  refine Sq.nil ?_
  refine Eq.next ?_
  refine Cq.seq ?_
  refine Cq.region ?_
  refine Sq.fieldAddr fld27_2 .plain rfl rfl ?_
  refine Sq.loadB one23 .plain rfl rfl hB rfl ?_
  refine Sq.move .plain rfl rfl ?_
  refine Sq.idxBools sl23 one4 hac .plain rfl rfl rfl .plain rfl rfl (by omega) (by omega) ?_
  refine Sq.assign .plain rfl rfl ?_
  refine Sq.nil ?_
  refine Eq.next ?_
  refine Cq.ret ?_
  refine Eq.ret1 rfl rfl ?_
  exact ⟨rfl, rfl⟩

set_option maxRecDepth 100000 in
theorem aw1_c (w0 : World) (q s : Int) (b : Nat) (hB : Blk w0 b 3 [Value.int .i64 s]) : Ret Try.prog 64 #[Value.int .i64 q, Value.pointer (some ⟨b, 0, none⟩)] w0 (fun v w => v = .bool (decide (q = s)) ∧ w0 = w) := by
  refine Ret.of (args := [Value.int .i64 q, Value.pointer (some ⟨b, 0, none⟩)]) Try.func64 rfl rfl rfl ?_
  rintro _ rfl
  show Cq _ _ _ _ [(0, Value.int .i64 q), (1, Value.pointer (some ⟨b, 0, none⟩))] _
  refine Cq.seq ?_
  refine Cq.region ?_
  refine Sq.assign .plain rfl rfl ?_
  refine Sq.nil ?_
  refine Eq.next ?_
  refine Cq.seq ?_
  refine Cq.region ?_
  refine Sq.move .plain rfl rfl ?_
  refine Sq.loadB one3 .plain rfl rfl hB rfl ?_
  refine Sq.eql .plain rfl rfl rfl ?_
  refine Sq.assign .plain rfl rfl ?_
  refine Sq.nil ?_
  refine Eq.next ?_
  refine Cq.ret ?_
  refine Eq.ret1 rfl rfl ?_
  exact ⟨rfl, rfl⟩

set_option maxRecDepth 100000 in
theorem do1_c (w0 : World) (x y : Bool) : Ret Try.prog 69 #[Value.bool x, Value.bool y] w0 (fun v w => v = .bool (x != y) ∧ w0 = w) := by
  refine Ret.of (args := [Value.bool x, Value.bool y]) Try.func69 rfl rfl rfl ?_
  rintro _ rfl
  show Cq _ _ _ _ [(0, Value.bool x), (1, Value.bool y)] _
  refine Cq.seq ?_
  refine Cq.region ?_
  refine Sq.assign .plain rfl rfl ?_
  refine Sq.nil ?_
  refine Eq.next ?_
  refine Cq.seq ?_
  refine Cq.region ?_
  refine Sq.move .plain rfl rfl ?_
  refine Sq.move .plain rfl rfl ?_
  refine Sq.neqB und4 .plain rfl rfl rfl ?_
  refine Sq.assign .plain rfl rfl ?_
  refine Sq.nil ?_
  refine Eq.next ?_
  refine Cq.ret ?_
  refine Eq.ret1 rfl rfl ?_
  exact ⟨by cases x <;> cases y <;> rfl, rfl⟩

set_option maxRecDepth 100000 in
theorem ss1_c (w0 : World) (x y : Bool) : Ret Try.prog 66 #[Value.bool x, Value.bool y] w0 (fun v w => v = .bool (x != y) ∧ w0 = w) := by
  refine Ret.of (args := [Value.bool x, Value.bool y]) Try.func66 rfl rfl rfl ?_
  rintro _ rfl
  show Cq _ _ _ _ [(0, Value.bool x), (1, Value.bool y)] _
  refine Cq.seq ?_
  refine Cq.region ?_
  refine Sq.assign .plain rfl rfl ?_
  refine Sq.nil ?_
  refine Eq.next ?_
  refine Cq.seq ?_
  refine Cq.region ?_
  refine Sq.move .plain rfl rfl ?_
  refine Sq.move .plain rfl rfl ?_
  refine Sq.neqB und4 .plain rfl rfl rfl ?_
  refine Sq.assign .plain rfl rfl ?_
  refine Sq.nil ?_
  refine Eq.next ?_
  refine Cq.ret ?_
  refine Eq.ret1 rfl rfl ?_
  exact ⟨by cases x <;> cases y <;> rfl, rfl⟩

set_option maxRecDepth 100000 in
theorem fo1_c (w0 : World) (x y : Bool) : Ret Try.prog 70 #[Value.bool x, Value.bool y] w0 (fun v w => v = .bool (x && !y) ∧ w0 = w) := by
  refine Ret.of (args := [Value.bool x, Value.bool y]) Try.func70 rfl rfl rfl ?_
  rintro _ rfl
  show Cq _ _ _ _ [(0, Value.bool x), (1, Value.bool y)] _
  refine Cq.seq ?_
  refine Cq.region ?_
  refine Sq.assign .plain rfl rfl ?_
  refine Sq.nil ?_
  refine Eq.next ?_
  refine Cq.seq ?_
  refine Cq.region ?_
  refine Sq.move .plain rfl rfl ?_
  refine Sq.partB (fun hx => ?_) (fun hx => ?_)
  · refine Sq.move .plain rfl rfl ?_
    refine Sq.move (.met rfl rfl rfl) rfl rfl ?_
    refine Sq.not (.met rfl rfl rfl) rfl rfl ?_
    refine Sq.pickT .plain rfl rfl rfl ?_
    refine Sq.assign .plain rfl rfl ?_
    refine Sq.nil ?_
    refine Eq.next ?_
    refine Cq.ret ?_
    refine Eq.ret1 rfl rfl ?_
    exact ⟨by simp [*], rfl⟩
  · refine Sq.move .plain rfl rfl ?_
    refine Sq.off rfl rfl rfl rfl rfl rfl ?_
    refine Sq.off rfl rfl rfl rfl rfl rfl ?_
    refine Sq.pickF .plain rfl rfl rfl ?_
    refine Sq.assign .plain rfl rfl ?_
    refine Sq.nil ?_
    refine Eq.next ?_
    refine Cq.ret ?_
    refine Eq.ret1 rfl rfl ?_
    exact ⟨by simp [*], rfl⟩

set_option maxRecDepth 100000 in
theorem firstFrom_c (w0 : World) (a : A) (nx ac : Value) (hnx : Rows w0 52 3 nx a.next) (hac : Bools w0 4 ac a.acc) (hv : validA a = true) (gv : Value) (G : Int → Bool) (hgo : GClo Try.prog w0 gv (fun q => 0 ≤ q ∧ q < (a.next.length : Int)) G) : Ret Try.prog 61 #[Value.agg #[Value.int .i64 a.al, nx, ac], gv] w0 (fun v w => v = resW (firstA a 0 G) ∧ Ext w0 w) := by
  have E := Ext.refl w0
  have hal := (validA_spec.1 hv).1
  refine Ret.of (args := [Value.agg #[Value.int .i64 a.al, nx, ac], gv]) Try.func61 rfl rfl rfl ?_
  rintro _ rfl
  show Cq _ _ _ _ [(0, Value.agg #[Value.int .i64 a.al, nx, ac]), (1, gv)] _
  refine Cq.seq ?_
  refine Cq.region ?_
  refine Sq.box .plain rfl rfl (fun b1 w2 e3 hB4 hlo5 => ?_)
  have hd6 := Nat.le_trans (Below.size E) hlo5
  have hs7 := Below.size e3
  replace E := E.trans e3
  refine Sq.assign .plain rfl rfl ?_
  refine Sq.assign .plain rfl rfl ?_
  refine Sq.nil ?_
  refine Eq.next ?_
  refine Cq.seq ?_
  refine Cq.region ?_
  refine Sq.loadAgg agg27 .plain rfl rfl hB4 rfl ?_
  have hd16 := hB4.lt
  refine Sq.call fn56 .plain rfl rfl (tableOf_c _ a _ _ (hnx.ext E) (hac.ext E) hv) ?_
  rintro _ w9 ⟨⟨b11, xs12, rfl, hlo13, hT14, hTab15⟩, e10⟩
  have hs17 := Below.size E
  have hs18 := Below.size e10
  replace E := E.trans e10
  replace hB4 := hB4.ext e10
  refine Sq.alloc1 zero60 rfl .plain rfl (fun b19 w20 e21 hB22 hlo23 => ?_)
  have hd24 := Nat.le_trans (Below.size E) hlo23
  have hd25 := Nat.lt_of_lt_of_le hB4.lt hlo23
  have hd26 := Nat.lt_of_lt_of_le hT14.lt hlo23
  have hs27 := Below.size e21
  replace E := E.trans e21
  replace hB4 := hB4.ext e21
  replace hT14 := hT14.ext e21
  refine Sq.store one60 .plain rfl rfl rfl hB22 (by simp) (fun w28 g29 hB30 => ?_)
  have hs31 := World.grownBy.size g29
  replace E := E.grown g29 (fun k hk => by injection hk with hk; subst hk; omega)
  replace hB4 := hB4.grown g29 (by intro h; injection h with h; omega)
  replace hT14 := hT14.grown g29 (by intro h; injection h with h; omega)
  replace hB22 := hB30
  refine Sq.nil ?_
  refine Eq.next ?_
  refine Cq.seq ?_
  refine Cq.drawS 11 (fun w' => Blk w' b1 27 [Value.int .i64 a.al, nx, ac] ∧ Blk w' b19 60 [Value.slice (some ⟨b11, 0, none⟩) a.next.length a.next.length] ∧ Blk w' b11 64 (xs12.map (Value.int .i64)) ∧ Ext w0 w') mixed (⟨hB4, hB22, hT14, E⟩) (fun w32 e33 hS => ?_)
  clear hS
  have hs34 := Below.size e33
  replace E := E.trans e33
  replace hB4 := hB4.ext e33
  replace hT14 := hT14.ext e33
  replace hB22 := hB22.ext e33
  have E_w32 := E
  have hB4_w32 := hB4
  have hT14_w32 := hT14
  have hB22_w32 := hB22
  refine Gq.st 0 rfl (by kernel_rfl) rfl .plain rfl (fun _ _ _ h => h) ⟨hB4, hB22, hT14, E⟩ (fun w' x => Still.loadB one60 rfl x.2.1 rfl) ?_
  refine Gq.st 1 rfl (by kernel_rfl) rfl .plain rfl (fun _ _ _ h => h) ⟨hB4, hB22, hT14, E⟩ (fun w' x => Still.len und60 rfl) ?_
  refine Gq.st 3 rfl (by kernel_rfl) rfl .plain rfl (fun _ _ _ h => h) ⟨hB4, hB22, hT14, E⟩ (fun w' x => Still.fieldAddr fld27_0 rfl) ?_
  refine Gq.st 4 rfl (by kernel_rfl) rfl .plain rfl (fun _ _ _ h => h) ⟨hB4, hB22, hT14, E⟩ (fun w' x => Still.loadB one3 rfl x.1 rfl) ?_
  refine Gq.st 6 rfl (by kernel_rfl) rfl .plain rfl (fun _ _ _ h => h) ⟨hB4, hB22, hT14, E⟩ (fun w' x => Still.makeFunc rfl) ?_
  refine Gq.st 7 rfl (by kernel_rfl) rfl .plain rfl (fun _ _ _ h => h) ⟨hB4, hB22, hT14, E⟩ (fun w' x => Still.move rfl) ?_
  refine Gq.two 2 5 rfl rfl (by kernel_rfl) ?_ ?_
  · refine Sq.lit sl52 rfl rfl .plain rfl rfl (one_cons rfl one_nil) (fun b35 w36 e37 hlo38 ho39 _ => ?_)
    replace ho39 := ho39 w32.heap.size (Nat.le_refl _)
    have hs41 := Below.size e37
    replace E := E.trans e37
    replace hB4 := hB4.ext e37
    replace hT14 := hT14.ext e37
    replace hB22 := hB22.ext e37
    refine Sq.nil ?_
    refine Eq.goes (fun _ => ⟨hB4, hB22, hT14, E⟩) ?_
    refine Gq.one 5 rfl (by kernel_rfl) ?_
    have hd46 := hB4.lt
    have hd47 := hT14.lt
    have hd48 := hB22.lt
    refine Sq.call fn58 .plain rfl rfl (lettersOf_c a.al (by omega) _) ?_
    rintro v42 w43 ⟨hl45, e44⟩
    have hs49 := Below.size E
    have hs50 := Below.size e44
    replace E := E.trans e44
    replace hB4 := hB4.ext e44
    replace hT14 := hT14.ext e44
    replace hB22 := hB22.ext e44
    replace ho39 := ho39.ext e44
    refine Sq.nil ?_
    refine Eq.goes (fun _ => ⟨hB4, hB22, hT14, E⟩) ?_
    refine Gq.one 8 rfl (by kernel_rfl) ?_
    have hd53 := hB4.lt
    have hd54 := hT14.lt
    have hd55 := hB22.lt
    have hvs := validA_spec.1 hv
    have hlet := letters_len6 a.al
    refine Sq.call fn95 .plain rfl rfl (firstPath_c _ (List.length a.next : Int) a.next.length 0 (letters a.al) _ _ _ _ (goA a) G (fun q => 0 ≤ q ∧ q < (a.next.length : Int)) rfl (Own.row ho39) (Own.row hl45) (by omega) (fun x hx => ⟨(mem_letters hx).1, (mem_letters hx).2.1⟩) (zero_in hv) (fun q hq x hx => goA_in hv hq ⟨(mem_letters hx).1, (mem_letters hx).2.1⟩) (fun q hq => hq) (by omega) ⟨96, _, [Value.pointer (some ⟨b19, 0, none⟩)], rfl, fn96, fun w q x hx hq hxx => ff1_c w q x a _ _ _ (hB22.ext hx) (hT14.ext hx) hTab15 hq hxx⟩ (GClo.up hgo E)) ?_
    rintro _ w51 ⟨rfl, e52⟩
    have hs56 := Below.size E
    have hs57 := Below.size e52
    replace E := E.trans e52
    replace hB4 := hB4.ext e52
    replace hT14 := hT14.ext e52
    replace hB22 := hB22.ext e52
    replace ho39 := ho39.ext e52
    replace hl45 := hl45.ext e52
    refine Sq.nil ?_
    refine Eq.goes (fun _ => ⟨hB4, hB22, hT14, E⟩) ?_
    refine Gq.st 9 rfl (by kernel_rfl) rfl .plain rfl (fun _ _ _ h => h) ⟨hB4, hB22, hT14, E⟩ (fun w' x => Still.extract rfl rfl) ?_
    refine Gq.st 10 rfl (by kernel_rfl) rfl .plain rfl (fun _ _ _ h => h) ⟨hB4, hB22, hT14, E⟩ (fun w' x => Still.extract rfl rfl) ?_
    refine Gq.one 11 rfl (by kernel_rfl) ?_
    refine Sq.assign .plain rfl rfl ?_
    refine Sq.nil ?_
    refine Eq.goes (fun h => absurd h (by decide)) ?_
    refine Gq.one 12 rfl (by kernel_rfl) ?_
    refine Sq.assign .plain rfl rfl ?_
    refine Sq.nil ?_
    refine Eq.goes (fun h => absurd h (by decide)) ?_
    refine Gq.done (by kernel_rfl) ?_
    refine Eq.next ?_
    refine Cq.ret ?_
    refine Eq.ret2 rfl rfl rfl ?_
    exact ⟨rfl, E⟩
  · have hd62 := hB4.lt
    have hd63 := hT14.lt
    have hd64 := hB22.lt
    refine Sq.call fn58 .plain rfl rfl (lettersOf_c a.al (by omega) _) ?_
    rintro v58 w59 ⟨hl61, e60⟩
    have hs65 := Below.size E
    have hs66 := Below.size e60
    replace E := E.trans e60
    replace hB4 := hB4.ext e60
    replace hT14 := hT14.ext e60
    replace hB22 := hB22.ext e60
    refine Sq.nil ?_
    refine Eq.goes (fun _ => ⟨hB4, hB22, hT14, E⟩) ?_
    refine Gq.one 2 rfl (by kernel_rfl) ?_
    refine Sq.lit sl52 rfl rfl .plain rfl rfl (one_cons rfl one_nil) (fun b67 w68 e69 hlo70 ho71 _ => ?_)
    replace ho71 := ho71 w59.heap.size (Nat.le_refl _)
    have hs73 := Below.size e69
    replace E := E.trans e69
    replace hB4 := hB4.ext e69
    replace hT14 := hT14.ext e69
    replace hB22 := hB22.ext e69
    replace hl61 := hl61.ext e69
    refine Sq.nil ?_
    refine Eq.goes (fun _ => ⟨hB4, hB22, hT14, E⟩) ?_
    refine Gq.one 8 rfl (by kernel_rfl) ?_
    have hd76 := hB4.lt
    have hd77 := hT14.lt
    have hd78 := hB22.lt
    have hvs := validA_spec.1 hv
    have hlet := letters_len6 a.al
    refine Sq.call fn95 .plain rfl rfl (firstPath_c _ (List.length a.next : Int) a.next.length 0 (letters a.al) _ _ _ _ (goA a) G (fun q => 0 ≤ q ∧ q < (a.next.length : Int)) rfl (Own.row ho71) (Own.row hl61) (by omega) (fun x hx => ⟨(mem_letters hx).1, (mem_letters hx).2.1⟩) (zero_in hv) (fun q hq x hx => goA_in hv hq ⟨(mem_letters hx).1, (mem_letters hx).2.1⟩) (fun q hq => hq) (by omega) ⟨96, _, [Value.pointer (some ⟨b19, 0, none⟩)], rfl, fn96, fun w q x hx hq hxx => ff1_c w q x a _ _ _ (hB22.ext hx) (hT14.ext hx) hTab15 hq hxx⟩ (GClo.up hgo E)) ?_
    rintro _ w74 ⟨rfl, e75⟩
    have hs79 := Below.size E
    have hs80 := Below.size e75
    replace E := E.trans e75
    replace hB4 := hB4.ext e75
    replace hT14 := hT14.ext e75
    replace hB22 := hB22.ext e75
    replace hl61 := hl61.ext e75
    replace ho71 := ho71.ext e75
    refine Sq.nil ?_
    refine Eq.goes (fun _ => ⟨hB4, hB22, hT14, E⟩) ?_
    refine Gq.st 9 rfl (by kernel_rfl) rfl .plain rfl (fun _ _ _ h => h) ⟨hB4, hB22, hT14, E⟩ (fun w' x => Still.extract rfl rfl) ?_
    refine Gq.st 10 rfl (by kernel_rfl) rfl .plain rfl (fun _ _ _ h => h) ⟨hB4, hB22, hT14, E⟩ (fun w' x => Still.extract rfl rfl) ?_
    refine Gq.one 11 rfl (by kernel_rfl) ?_
    refine Sq.assign .plain rfl rfl ?_
    refine Sq.nil ?_
    refine Eq.goes (fun h => absurd h (by decide)) ?_
    refine Gq.one 12 rfl (by kernel_rfl) ?_
    refine Sq.assign .plain rfl rfl ?_
    refine Sq.nil ?_
    refine Eq.goes (fun h => absurd h (by decide)) ?_
    refine Gq.done (by kernel_rfl) ?_
    refine Eq.next ?_
    refine Cq.ret ?_
    refine Eq.ret2 rfl rfl rfl ?_
    exact ⟨rfl, E⟩

set_option maxRecDepth 100000 in
theorem leads_c (w0 : World) (a : A) (nx ac : Value) (hnx : Rows w0 52 3 nx a.next) (hac : Bools w0 4 ac a.acc) (hv : validA a = true) (s : Int) (hs : 0 ≤ s ∧ s < a.next.length) : Ret Try.prog 72 #[Value.agg #[Value.int .i64 a.al, nx, ac], Value.int .i64 s] w0 (fun v w => v = .bool (firstA a s (accA a)).isSome ∧ Ext w0 w) := by
  have E := Ext.refl w0
  have hal := (validA_spec.1 hv).1
  refine Ret.of (args := [Value.agg #[Value.int .i64 a.al, nx, ac], Value.int .i64 s]) Try.func72 rfl rfl rfl ?_
  rintro _ rfl
  show Cq _ _ _ _ [(0, Value.agg #[Value.int .i64 a.al, nx, ac]), (1, Value.int .i64 s)] _
  refine Cq.seq ?_
  refine Cq.region ?_
  refine Sq.box .plain rfl rfl (fun b1 w2 e3 hB4 hlo5 => ?_)
  have hd6 := Nat.le_trans (Below.size E) hlo5
  have hs7 := Below.size e3
  replace E := E.trans e3
  refine Sq.assign .plain rfl rfl ?_
  refine Sq.nil ?_
  refine Eq.next ?_
  refine Cq.seq ?_
  refine Cq.region ?_
  refine Sq.loadAgg agg27 .plain rfl rfl hB4 rfl ?_
  have hd16 := hB4.lt
  refine Sq.call fn56 .plain rfl rfl (tableOf_c _ a _ _ (hnx.ext E) (hac.ext E) hv) ?_
  rintro _ w9 ⟨⟨b11, xs12, rfl, hlo13, hT14, hTab15⟩, e10⟩
  have hs17 := Below.size E
  have hs18 := Below.size e10
  replace E := E.trans e10
  replace hB4 := hB4.ext e10
  refine Sq.alloc1 zero60 rfl .plain rfl (fun b19 w20 e21 hB22 hlo23 => ?_)
  have hd24 := Nat.le_trans (Below.size E) hlo23
  have hd25 := Nat.lt_of_lt_of_le hB4.lt hlo23
  have hd26 := Nat.lt_of_lt_of_le hT14.lt hlo23
  have hs27 := Below.size e21
  replace E := E.trans e21
  replace hB4 := hB4.ext e21
  replace hT14 := hT14.ext e21
  refine Sq.store one60 .plain rfl rfl rfl hB22 (by simp) (fun w28 g29 hB30 => ?_)
  have hs31 := World.grownBy.size g29
  replace E := E.grown g29 (fun k hk => by injection hk with hk; subst hk; omega)
  replace hB4 := hB4.grown g29 (by intro h; injection h with h; omega)
  replace hT14 := hT14.grown g29 (by intro h; injection h with h; omega)
  replace hB22 := hB30
  refine Sq.nil ?_
  refine Eq.next ?_
  refine Cq.seq ?_
  refine Cq.drawS 14 (fun w' => Blk w' b1 27 [Value.int .i64 a.al, nx, ac] ∧ Blk w' b19 60 [Value.slice (some ⟨b11, 0, none⟩) a.next.length a.next.length] ∧ Blk w' b11 64 (xs12.map (Value.int .i64)) ∧ Ext w0 w') mixed (⟨hB4, hB22, hT14, E⟩) (fun w32 e33 hS => ?_)
  clear hS
  have hs34 := Below.size e33
  replace E := E.trans e33
  replace hB4 := hB4.ext e33
  replace hT14 := hT14.ext e33
  replace hB22 := hB22.ext e33
  have E_w32 := E
  have hB4_w32 := hB4
  have hT14_w32 := hT14
  have hB22_w32 := hB22
  refine Gq.st 0 rfl (by kernel_rfl) rfl .plain rfl (fun _ _ _ h => h) ⟨hB4, hB22, hT14, E⟩ (fun w' x => Still.loadB one60 rfl x.2.1 rfl) ?_
  refine Gq.st 1 rfl (by kernel_rfl) rfl .plain rfl (fun _ _ _ h => h) ⟨hB4, hB22, hT14, E⟩ (fun w' x => Still.len und60 rfl) ?_
  refine Gq.st 2 rfl (by kernel_rfl) rfl .plain rfl (fun _ _ _ h => h) ⟨hB4, hB22, hT14, E⟩ (fun w' x => Still.move rfl) ?_
  refine Gq.st 4 rfl (by kernel_rfl) rfl .plain rfl (fun _ _ _ h => h) ⟨hB4, hB22, hT14, E⟩ (fun w' x => Still.fieldAddr fld27_0 rfl) ?_
  refine Gq.st 5 rfl (by kernel_rfl) rfl .plain rfl (fun _ _ _ h => h) ⟨hB4, hB22, hT14, E⟩ (fun w' x => Still.loadB one3 rfl x.1 rfl) ?_
  refine Gq.st 7 rfl (by kernel_rfl) rfl .plain rfl (fun _ _ _ h => h) ⟨hB4, hB22, hT14, E⟩ (fun w' x => Still.makeFunc rfl) ?_
  refine Gq.st 8 rfl (by kernel_rfl) rfl .plain rfl (fun _ _ _ h => h) ⟨hB4, hB22, hT14, E⟩ (fun w' x => Still.makeFunc rfl) ?_
  refine Gq.two 3 6 rfl rfl (by kernel_rfl) ?_ ?_
  · refine Sq.lit sl52 rfl rfl .plain rfl rfl (one_cons rfl one_nil) (fun b35 w36 e37 hlo38 ho39 _ => ?_)
    replace ho39 := ho39 w32.heap.size (Nat.le_refl _)
    have hs41 := Below.size e37
    replace E := E.trans e37
    replace hB4 := hB4.ext e37
    replace hT14 := hT14.ext e37
    replace hB22 := hB22.ext e37
    refine Sq.nil ?_
    refine Eq.goes (fun _ => ⟨hB4, hB22, hT14, E⟩) ?_
    refine Gq.one 6 rfl (by kernel_rfl) ?_
    have hd46 := hB4.lt
    have hd47 := hT14.lt
    have hd48 := hB22.lt
    refine Sq.call fn58 .plain rfl rfl (lettersOf_c a.al (by omega) _) ?_
    rintro v42 w43 ⟨hl45, e44⟩
    have hs49 := Below.size E
    have hs50 := Below.size e44
    replace E := E.trans e44
    replace hB4 := hB4.ext e44
    replace hT14 := hT14.ext e44
    replace hB22 := hB22.ext e44
    replace ho39 := ho39.ext e44
    refine Sq.nil ?_
    refine Eq.goes (fun _ => ⟨hB4, hB22, hT14, E⟩) ?_
    refine Gq.one 9 rfl (by kernel_rfl) ?_
    have hd53 := hB4.lt
    have hd54 := hT14.lt
    have hd55 := hB22.lt
    have hvs := validA_spec.1 hv
    have hlet := letters_len6 a.al
    refine Sq.call fn95 .plain rfl rfl (firstPath_c _ (List.length a.next : Int) a.next.length s (letters a.al) _ _ _ _ (goA a) (accA a) (fun q => 0 ≤ q ∧ q < (a.next.length : Int)) rfl (Own.row ho39) (Own.row hl45) (by omega) (fun x hx => ⟨(mem_letters hx).1, (mem_letters hx).2.1⟩) hs (fun q hq x hx => goA_in hv hq ⟨(mem_letters hx).1, (mem_letters hx).2.1⟩) (fun q hq => hq) (by omega) ⟨100, _, [Value.pointer (some ⟨b19, 0, none⟩)], rfl, fn100, fun w q x hx hq hxx => la1_c w q x a _ _ _ (hB22.ext hx) (hT14.ext hx) hTab15 hq hxx⟩ ⟨101, _, [Value.pointer (some ⟨b1, 0, none⟩)], rfl, fn101, fun w q hx hq => (la2_c w q a _ _ _ (hB4.ext hx) ((hac.ext E).ext hx) (by have := (validA_spec.1 hv).2; omega)).mono fun v w' h => ⟨h.1, h.2 ▸ Ext.refl w⟩⟩) ?_
    rintro _ w51 ⟨rfl, e52⟩
    have hs56 := Below.size E
    have hs57 := Below.size e52
    replace E := E.trans e52
    replace hB4 := hB4.ext e52
    replace hT14 := hT14.ext e52
    replace hB22 := hB22.ext e52
    replace ho39 := ho39.ext e52
    replace hl45 := hl45.ext e52
    refine Sq.nil ?_
    refine Eq.goes (fun _ => ⟨hB4, hB22, hT14, E⟩) ?_
    refine Gq.st 10 rfl (by kernel_rfl) rfl .plain rfl (fun _ _ _ h => h) ⟨hB4, hB22, hT14, E⟩ (fun w' x => Still.move rfl) ?_
    refine Gq.st 11 rfl (by kernel_rfl) rfl .plain rfl (fun _ _ _ h => h) ⟨hB4, hB22, hT14, E⟩ (fun w' x => Still.extract rfl rfl) ?_
    refine Gq.st 12 rfl (by kernel_rfl) rfl .plain rfl (fun _ _ _ h => h) ⟨hB4, hB22, hT14, E⟩ (fun w' x => Still.extract rfl rfl) ?_
    refine Gq.st 13 rfl (by kernel_rfl) rfl .plain rfl (fun _ _ _ h => h) ⟨hB4, hB22, hT14, E⟩ (fun w' x => Still.assign rfl) ?_
    refine Gq.one 14 rfl (by kernel_rfl) ?_
    refine Sq.assign .plain rfl rfl ?_
    refine Sq.nil ?_
    refine Eq.goes (fun h => absurd h (by decide)) ?_
    refine Gq.done (by kernel_rfl) ?_
    refine Eq.next ?_
    refine Cq.seq ?_
    refine Cq.region ?_
    refine Sq.move .plain rfl rfl ?_
    refine Sq.assign .plain rfl rfl ?_
    refine Sq.nil ?_
    refine Eq.next ?_
    refine Cq.ret ?_
    refine Eq.ret1 rfl rfl ?_
    exact ⟨rfl, E⟩
  · have hd62 := hB4.lt
    have hd63 := hT14.lt
    have hd64 := hB22.lt
    refine Sq.call fn58 .plain rfl rfl (lettersOf_c a.al (by omega) _) ?_
    rintro v58 w59 ⟨hl61, e60⟩
    have hs65 := Below.size E
    have hs66 := Below.size e60
    replace E := E.trans e60
    replace hB4 := hB4.ext e60
    replace hT14 := hT14.ext e60
    replace hB22 := hB22.ext e60
    refine Sq.nil ?_
    refine Eq.goes (fun _ => ⟨hB4, hB22, hT14, E⟩) ?_
    refine Gq.one 3 rfl (by kernel_rfl) ?_
    refine Sq.lit sl52 rfl rfl .plain rfl rfl (one_cons rfl one_nil) (fun b67 w68 e69 hlo70 ho71 _ => ?_)
    replace ho71 := ho71 w59.heap.size (Nat.le_refl _)
    have hs73 := Below.size e69
    replace E := E.trans e69
    replace hB4 := hB4.ext e69
    replace hT14 := hT14.ext e69
    replace hB22 := hB22.ext e69
    replace hl61 := hl61.ext e69
    refine Sq.nil ?_
    refine Eq.goes (fun _ => ⟨hB4, hB22, hT14, E⟩) ?_
    refine Gq.one 9 rfl (by kernel_rfl) ?_
    have hd76 := hB4.lt
    have hd77 := hT14.lt
    have hd78 := hB22.lt
    have hvs := validA_spec.1 hv
    have hlet := letters_len6 a.al
    refine Sq.call fn95 .plain rfl rfl (firstPath_c _ (List.length a.next : Int) a.next.length s (letters a.al) _ _ _ _ (goA a) (accA a) (fun q => 0 ≤ q ∧ q < (a.next.length : Int)) rfl (Own.row ho71) (Own.row hl61) (by omega) (fun x hx => ⟨(mem_letters hx).1, (mem_letters hx).2.1⟩) hs (fun q hq x hx => goA_in hv hq ⟨(mem_letters hx).1, (mem_letters hx).2.1⟩) (fun q hq => hq) (by omega) ⟨100, _, [Value.pointer (some ⟨b19, 0, none⟩)], rfl, fn100, fun w q x hx hq hxx => la1_c w q x a _ _ _ (hB22.ext hx) (hT14.ext hx) hTab15 hq hxx⟩ ⟨101, _, [Value.pointer (some ⟨b1, 0, none⟩)], rfl, fn101, fun w q hx hq => (la2_c w q a _ _ _ (hB4.ext hx) ((hac.ext E).ext hx) (by have := (validA_spec.1 hv).2; omega)).mono fun v w' h => ⟨h.1, h.2 ▸ Ext.refl w⟩⟩) ?_
    rintro _ w74 ⟨rfl, e75⟩
    have hs79 := Below.size E
    have hs80 := Below.size e75
    replace E := E.trans e75
    replace hB4 := hB4.ext e75
    replace hT14 := hT14.ext e75
    replace hB22 := hB22.ext e75
    replace hl61 := hl61.ext e75
    replace ho71 := ho71.ext e75
    refine Sq.nil ?_
    refine Eq.goes (fun _ => ⟨hB4, hB22, hT14, E⟩) ?_
    refine Gq.st 10 rfl (by kernel_rfl) rfl .plain rfl (fun _ _ _ h => h) ⟨hB4, hB22, hT14, E⟩ (fun w' x => Still.move rfl) ?_
    refine Gq.st 11 rfl (by kernel_rfl) rfl .plain rfl (fun _ _ _ h => h) ⟨hB4, hB22, hT14, E⟩ (fun w' x => Still.extract rfl rfl) ?_
    refine Gq.st 12 rfl (by kernel_rfl) rfl .plain rfl (fun _ _ _ h => h) ⟨hB4, hB22, hT14, E⟩ (fun w' x => Still.extract rfl rfl) ?_
    refine Gq.st 13 rfl (by kernel_rfl) rfl .plain rfl (fun _ _ _ h => h) ⟨hB4, hB22, hT14, E⟩ (fun w' x => Still.assign rfl) ?_
    refine Gq.one 14 rfl (by kernel_rfl) ?_
    refine Sq.assign .plain rfl rfl ?_
    refine Sq.nil ?_
    refine Eq.goes (fun h => absurd h (by decide)) ?_
    refine Gq.done (by kernel_rfl) ?_
    refine Eq.next ?_
    refine Cq.seq ?_
    refine Cq.region ?_
    refine Sq.move .plain rfl rfl ?_
    refine Sq.assign .plain rfl rfl ?_
    refine Sq.nil ?_
    refine Eq.next ?_
    refine Cq.ret ?_
    refine Eq.ret1 rfl rfl ?_
    exact ⟨rfl, E⟩

end Go.Proofs.Ytdkdpmmfebdeaaa
