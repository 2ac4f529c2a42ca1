/-
  Walks, printed by a program out of the translation and a contract for each function; each step is one law.
-/
import Derived.Test.YtdejmfkpohgamaaWi
import Derived.Test.YtdejmfkpohgamaaRun
set_option linter.unusedSimpArgs false
set_option linter.unusedVariables false
namespace Go.Proofs.Ytdejmfkpohgamaa
open Go.RowKit

set_option maxRecDepth 100000 in
theorem l1HasW_c (s n : Int) (hn : 0 ≤ n ∧ n ≤ 9223372036854775807) (w0 : World) : Ret Try.prog 91 #[Value.int .i64 s, Value.int .i64 n] w0 (fun v w => (∃ b, v = .bool b) ∧ w0 = w) := by
  refine Ret.of (args := [Value.int .i64 s, Value.int .i64 n]) Try.func91 rfl rfl rfl ?_
  rintro _ rfl
  show Cq _ _ _ _ [(0, Value.int .i64 s), (1, Value.int .i64 n)] _
  refine Cq.seq ?_
  refine Cq.region ?_
  refine Sq.assign .plain rfl rfl ?_
  refine Sq.nil ?_
  refine Eq.next ?_
  refine Cq.seq ?_
  refine Cq.region ?_
  refine Sq.move .plain rfl rfl ?_
  refine Sq.move .plain rfl rfl ?_
  refine Sq.convU conv3_115 .plain rfl rfl (by omega) ?_
  refine Sq.shr .plain rfl rfl rfl (by omega) ?_
  refine Sq.andW .plain rfl rfl rfl ?_
  refine Sq.eql .plain rfl rfl rfl ?_
  refine Sq.assign .plain rfl rfl ?_
  refine Sq.nil ?_
  refine Eq.next ?_
  refine Cq.ret ?_
  refine Eq.ret1 rfl rfl ?_
  exact ⟨⟨_, rfl⟩, rfl⟩

set_option maxRecDepth 100000 in
theorem l1LettersW_c (al : Int) (w0 : World) : Ret Try.prog 53 #[Value.int .i64 al] w0 (fun v w => (∃ xs : List Int, Own w w0.heap.size 3 v (xs.map (Value.int .i64)) ∧ (xs.length : Int) ≤ 6 ∧ ∀ x ∈ xs, 0 ≤ x ∧ x < 6) ∧ Ext w0 w) := by
  have E := Ext.refl w0
  refine Ret.of (args := [Value.int .i64 al]) Try.func53 rfl rfl rfl ?_
  rintro _ rfl
  show Cq _ _ _ _ [(0, Value.int .i64 al)] _
  refine Cq.seq ?_
  refine Cq.region ?_
  refine Sq.assign .plain rfl rfl ?_
  refine Sq.nil ?_
  refine Eq.next ?_
  refine Cq.seq ?_
  refine Cq.region ?_
  refine Sq.lit sl56 rfl rfl .plain rfl rfl one_nil (fun b1 w2 e3 hlo4 ho5 _ => ?_)
  replace ho5 := ho5 w0.heap.size (Nat.le_refl _)
  have hs7 := Below.size e3
  replace E := E.trans e3
  refine Sq.assign .plain rfl rfl ?_
  refine Sq.nil ?_
  refine Eq.next ?_
  refine Cq.seq ?_
  refine Cq.seq ?_
  refine Cq.region ?_
  refine Sq.assign .plain rfl rfl ?_
  refine Sq.nil ?_
  refine Eq.next ?_
  refine Cq.block ?_
  refine Cq.loop (fun nn w ls => ∃ (k : Int), ∃ (v : Value), ∃ (xs : List Int), ls = [(0, Value.int .i64 al), (3, v), (4, Value.int .i64 k)] ∧ (0 ≤ k ∧ k ≤ 6) ∧ Own w w0.heap.size 3 v (xs.map (Value.int .i64)) ∧ ((xs.length : Int) ≤ k ∧ ∀ x ∈ xs, 0 ≤ x ∧ x < 6) ∧ Ext w0 w ∧ nn = (6 - k).toNat) _ _ ⟨0, _, [], rfl, by omega, Own.mono ho5 (by omega), by simp, E, rfl⟩ (.cons rfl (.cons rfl (.cons rfl (.nil)))) ?_
  rintro nn wl1 ls ⟨k, v, xs, rfl, hk, ho, hx, E, rfl⟩
  have hs8 := Below.size E
  refine Cq.seq ?_
  refine Cq.seq ?_
  refine Cq.region ?_
  refine Sq.move .plain rfl rfl ?_
  refine Sq.lss .plain rfl rfl rfl ?_
  refine Sq.part (fun c9 => ?_) (fun c9 => ?_)
  · refine Sq.nil ?_
    refine Eq.next ?_
    refine Cq.thn rfl ?_
    refine Cq.skip ?_
    refine Eq.next ?_
    refine Cq.seq ?_
    refine Cq.block ?_
    refine Cq.seq ?_
    refine Cq.region ?_
    refine Sq.move .plain rfl rfl ?_
    refine Sq.move .plain rfl rfl ?_
    refine Sq.call fn91 .plain rfl rfl (l1HasW_c _ _ (by omega) _) ?_
    rintro _ _ ⟨⟨bq, rfl⟩, rfl⟩
    refine Sq.partB (fun hb => ?_) (fun hb => ?_)
    · refine Sq.nil ?_
      refine Eq.next ?_
      refine Cq.thn rfl ?_
      refine Cq.region ?_
      refine Sq.move .plain rfl rfl ?_
      refine Sq.move .plain rfl rfl ?_
      refine Sq.app1 sl56 ho (by omega) (by simp; omega) .plain rfl rfl rfl rfl rfl rfl rfl (fun v10 w11 ho13 g12 _ => ?_)
      have hs14 := g12.size
      replace E := E.owned ho g12 (by omega)
      refine Sq.assign .plain rfl rfl ?_
      refine Sq.nil ?_
      refine Eq.end ?_
      refine Eq.next ?_
      refine Cq.region ?_
      refine Sq.move .plain rfl rfl ?_
      refine Sq.add .plain rfl rfl rfl (by omega) ?_
      refine Sq.assign .plain rfl rfl ?_
      refine Sq.nil ?_
      refine Eq.round _ _ ⟨k + 1, _, _, rfl, by omega, Own.snocI ho13, ⟨by simp; omega, all_app hx.2 (by omega)⟩, E, rfl⟩ (by omega) (.cons rfl (.cons rfl (.cons rfl (.nil))))
    · refine Sq.nil ?_
      refine Eq.next ?_
      refine Cq.els rfl ?_
      refine Cq.skip ?_
      refine Eq.end ?_
      refine Eq.next ?_
      refine Cq.region ?_
      refine Sq.move .plain rfl rfl ?_
      refine Sq.add .plain rfl rfl rfl (by omega) ?_
      refine Sq.assign .plain rfl rfl ?_
      refine Sq.nil ?_
      refine Eq.round _ _ ⟨k + 1, _, _, rfl, by omega, ho, ⟨by omega, hx.2⟩, E, rfl⟩ (by omega) (.cons rfl (.cons rfl (.cons rfl (.nil))))
  · refine Sq.nil ?_
    refine Eq.next ?_
    refine Cq.els rfl ?_
    refine Cq.exit ?_
    refine Eq.past ?_
    refine Eq.past ?_
    refine Eq.hit ?_
    refine Eq.next ?_
    refine Cq.seq ?_
    refine Cq.region ?_
    refine Sq.move .plain rfl rfl ?_
    refine Sq.assign .plain rfl rfl ?_
    refine Sq.nil ?_
    refine Eq.next ?_
    refine Cq.ret ?_
    refine Eq.ret1 rfl rfl ?_
    exact ⟨⟨xs, ho, by omega, hx.2⟩, E⟩

set_option maxRecDepth 100000 in
theorem l19Many_c (s : ByteArray) (n : Int) (K : Nat) (hK : K ≤ 1000000) (hn : 0 ≤ n ∧ n ≤ 1000000) (hs : s.size * n.toNat ≤ K) (w0 : World) : Ret Try.prog 97 #[Value.string s, Value.int .i64 n] w0 (fun v w => (∃ t, v = .string t ∧ t.size ≤ K) ∧ w0 = w) := by
  refine Ret.of (args := [Value.string s, Value.int .i64 n]) Try.func97 rfl rfl rfl ?_
  rintro _ rfl
  show Cq _ _ _ _ [(0, Value.string s), (1, Value.int .i64 n)] _
  refine Cq.seq ?_
  refine Cq.region ?_
  refine Sq.assign .plain rfl rfl ?_
  refine Sq.nil ?_
  refine Eq.next ?_
  refine Cq.seq ?_
  refine Cq.region ?_
  refine Sq.assign .plain rfl rfl ?_
  refine Sq.nil ?_
  refine Eq.next ?_
  refine Cq.seq ?_
  refine Cq.block ?_
  refine Cq.loop (fun nn w ls => ∃ (u : ByteArray), ∃ (m : Int), ∃ (t : ByteArray), ls = [(0, Value.string u), (1, Value.int .i64 m), (5, Value.string t)] ∧ w0 = w ∧ (0 ≤ m ∧ m ≤ 1000000) ∧ (t.size + u.size * m.toNat ≤ K) ∧ nn = m.toNat) _ _ ⟨_, _, _, rfl, rfl, by omega, by show 0 + s.size * n.toNat ≤ K; omega, rfl⟩ (.cons rfl (.cons rfl (.cons rfl (.nil)))) ?_
  rintro n1 w ls ⟨u, m, t, rfl, rfl, hm, hu, rfl⟩
  have hst := fun h => many_step (n := m) hu h
  refine Cq.seq ?_
  refine Cq.seq ?_
  refine Cq.region ?_
  refine Sq.move .plain rfl rfl ?_
  refine Sq.gtr .plain rfl rfl rfl ?_
  refine Sq.part (fun c1 => ?_) (fun c1 => ?_)
  · refine Sq.nil ?_
    refine Eq.next ?_
    refine Cq.thn rfl ?_
    refine Cq.skip ?_
    refine Eq.next ?_
    refine Cq.block ?_
    refine Cq.seq ?_
    refine Cq.seq ?_
    refine Cq.region ?_
    refine Sq.move .plain rfl rfl ?_
    refine Sq.rem .plain rfl rfl rfl (by omega) ?_
    refine Sq.eql .plain rfl rfl rfl ?_
    refine Sq.part (fun c2 => ?_) (fun c2 => ?_)
    · refine Sq.nil ?_
      refine Eq.next ?_
      refine Cq.thn rfl ?_
      refine Cq.region ?_
      refine Sq.move .plain rfl rfl ?_
      refine Sq.move .plain rfl rfl ?_
      refine Sq.cat .plain rfl rfl rfl (by have := hst (by omega); omega) ?_
      refine Sq.assign .plain rfl rfl ?_
      refine Sq.nil ?_
      refine Eq.next ?_
      refine Cq.seq ?_
      refine Cq.region ?_
      refine Sq.move .plain rfl rfl ?_
      refine Sq.move .plain rfl rfl ?_
      refine Sq.cat .plain rfl rfl rfl (by have := hst (by omega); omega) ?_
      refine Sq.assign .plain rfl rfl ?_
      refine Sq.nil ?_
      refine Eq.next ?_
      refine Cq.region ?_
      refine Sq.move .plain rfl rfl ?_
      refine Sq.quo .plain rfl rfl rfl (by omega) ?_
      refine Sq.assign .plain rfl rfl ?_
      refine Sq.nil ?_
      refine Eq.end ?_
      have hst2 := hst (by omega)
      refine Eq.round _ _ ⟨_, _, _, rfl, rfl, by omega, by simp only [size_cat]; exact hst2.2.2.1 (by omega), rfl⟩ (by omega) (.cons rfl (.cons rfl (.cons rfl (.nil))))
    · refine Sq.nil ?_
      refine Eq.next ?_
      refine Cq.els rfl ?_
      refine Cq.skip ?_
      refine Eq.next ?_
      refine Cq.seq ?_
      refine Cq.region ?_
      refine Sq.move .plain rfl rfl ?_
      refine Sq.move .plain rfl rfl ?_
      refine Sq.cat .plain rfl rfl rfl (by have := hst (by omega); omega) ?_
      refine Sq.assign .plain rfl rfl ?_
      refine Sq.nil ?_
      refine Eq.next ?_
      refine Cq.region ?_
      refine Sq.move .plain rfl rfl ?_
      refine Sq.quo .plain rfl rfl rfl (by omega) ?_
      refine Sq.assign .plain rfl rfl ?_
      refine Sq.nil ?_
      refine Eq.end ?_
      have hst2 := hst (by omega)
      refine Eq.round _ _ ⟨_, _, _, rfl, rfl, by omega, by simp only [size_cat]; exact hst2.2.2.2 (by omega), rfl⟩ (by omega) (.cons rfl (.cons rfl (.cons rfl (.nil))))
  · refine Sq.nil ?_
    refine Eq.next ?_
    refine Cq.els rfl ?_
    refine Cq.exit ?_
    refine Eq.past ?_
    refine Eq.past ?_
    refine Eq.hit ?_
    refine Eq.next ?_
    refine Cq.seq ?_
    refine Cq.region ?_
    refine Sq.move .plain rfl rfl ?_
    refine Sq.assign .plain rfl rfl ?_
    refine Sq.nil ?_
    refine Eq.next ?_
    refine Cq.ret ?_
    refine Eq.ret1 rfl rfl ?_
    exact ⟨⟨_, rfl, by omega⟩, rfl⟩

set_option maxRecDepth 100000 in
theorem l1Word_c (w0 : World) (rb : Nat) (bv : Value) (p : Int) (bs : List UInt8) (e0 : TypeId) (hR : Blk w0 rb 88 [bv, .int .i64 p]) (hb : Src w0 e0 bv bs rb) (hbl : bs.length ≤ 2000) (hp : 0 ≤ p ∧ p ≤ 450000000) (al most : Int) (hmost : 0 ≤ most ∧ most ≤ 20) : Ret Try.prog 66 #[Value.pointer (some ⟨rb, 0, none⟩), Value.int .i64 al, Value.int .i64 most] w0 (fun v w => (∃ p', (p ≤ p' ∧ p' ≤ p + 30) ∧ Blk w rb 88 [bv, .int .i64 p'] ∧ w0.grownBy w (some rb)) ∧ ∃ s, v = .string s ∧ (s.size : Int) ≤ most) := by
  have G := World.grownBy.refl w0 (some rb)
  have hlt := hR.lt
  refine Ret.of (args := [Value.pointer (some ⟨rb, 0, none⟩), Value.int .i64 al, Value.int .i64 most]) Try.func66 rfl rfl rfl ?_
  rintro _ rfl
  show Cq _ _ _ _ [(0, Value.pointer (some ⟨rb, 0, none⟩)), (1, Value.int .i64 al), (2, Value.int .i64 most)] _
  refine Cq.seq ?_
  refine Cq.region ?_
  refine Sq.assign .plain rfl rfl ?_
  refine Sq.nil ?_
  refine Eq.next ?_
  refine Cq.seq ?_
  refine Cq.region ?_
  refine Sq.move .plain rfl rfl ?_
  have hd8 := hR.lt
  refine Sq.call fn53 .plain rfl rfl (l1LettersW_c _ _) ?_
  rintro v1 w2 ⟨⟨xs4, ho5, hxl6, hlx7⟩, e3⟩
  have hs9 := World.grownBy.size G
  have hs10 := Below.size e3
  replace hR := hR.ext e3
  replace G := grown_trans G (Ext.to_grown e3 _)
  refine Sq.assign .plain rfl rfl ?_
  refine Sq.nil ?_
  refine Eq.next ?_
  refine Cq.seq ?_
  refine Cq.region ?_
  refine Sq.assign .plain rfl rfl ?_
  refine Sq.nil ?_
  refine Eq.next ?_
  refine Cq.seq ?_
  refine Cq.seq ?_
  refine Cq.region ?_
  refine Sq.move .plain rfl rfl ?_
  refine Sq.move .plain rfl rfl ?_
  refine Sq.add .plain rfl rfl rfl (by omega) ?_
  refine Sq.call fn43 .plain rfl rfl (pick_c _ _ _ _ _ _ hR (hb.go G) hbl (by omega) (most + 1) (by omega)) ?_
  rintro _ w12 ⟨⟨p13, hp16, hB15, g14⟩, ⟨k17, rfl, hk18⟩⟩
  have hs19 := World.grownBy.size g14
  have hs20 := World.grownBy.size G
  have hs21 := World.grownBy.size g14
  replace G := grown_trans G g14
  replace ho5 := ho5.stored g14 hR (by decide)
  replace hR := hB15
  refine Sq.assign .plain rfl rfl ?_
  refine Sq.nil ?_
  refine Eq.next ?_
  refine Cq.block ?_
  refine Cq.loop (fun nn w ls => ∃ (i : Int), ∃ (p1 : Int), ∃ (t : ByteArray), ls = [(0, Value.pointer (some ⟨rb, 0, none⟩)), (7, v1), (8, Value.string t), (9, Value.int .i64 i)] ∧ (0 ≤ i ∧ i ≤ most) ∧ (p ≤ p1 ∧ p1 + i ≤ p + 1 + most) ∧ Blk w rb 88 [bv, Value.int .i64 p1] ∧ ((t.size : Int) + i ≤ most) ∧ World.grownBy w0 w (some rb) ∧ Own w w0.heap.size 3 v1 (xs4.map (Value.int .i64)) ∧ nn = i.toNat) _ _ ⟨k17, _, _, rfl, by omega, by omega, hR, by show (0 : Int) + _ ≤ _; omega, G, ho5, rfl⟩ (.cons rfl (.cons rfl (.cons rfl (.cons rfl (.nil))))) ?_
  rintro nn wl1 ls ⟨i, p1, t, rfl, hi, hp1, hR, ht, G, ho5, rfl⟩
  have hs22 := World.grownBy.size G
  refine Cq.seq ?_
  refine Cq.seq ?_
  refine Cq.region ?_
  refine Sq.move .plain rfl rfl ?_
  refine Sq.gtr .plain rfl rfl rfl ?_
  refine Sq.part (fun c23 => ?_) (fun c23 => ?_)
  · refine Sq.move .plain rfl rfl ?_
    refine Sq.move (.met rfl rfl rfl) rfl rfl ?_
    refine Sq.lenInts (Own.row ho5) (.met rfl rfl rfl) rfl und56 rfl ?_
    refine Sq.gtr (.met rfl rfl rfl) rfl rfl rfl ?_
    refine Sq.part (fun c24 => ?_) (fun c24 => ?_)
    · refine Sq.pickT .plain rfl rfl rfl ?_
      refine Sq.nil ?_
      refine Eq.next ?_
      refine Cq.thn rfl ?_
      refine Cq.skip ?_
      refine Eq.next ?_
      refine Cq.seq ?_
      refine Cq.block ?_
      refine Cq.region ?_
      refine Sq.move .plain rfl rfl ?_
      refine Sq.move .plain rfl rfl ?_
      refine Sq.move .plain rfl rfl ?_
      refine Sq.move .plain rfl rfl ?_
      refine Sq.lenInts (Own.row ho5) .plain rfl und56 rfl ?_
      refine Sq.call fn43 .plain rfl rfl (pick_c _ _ _ _ _ _ hR (hb.go G) hbl (by omega) (List.length xs4 : Int) (by omega)) ?_
      rintro _ w26 ⟨⟨p27, hp30, hB29, g28⟩, ⟨k31, rfl, hk32⟩⟩
      have hs33 := World.grownBy.size g28
      have hs34 := World.grownBy.size G
      have hs35 := World.grownBy.size g28
      replace G := grown_trans G g28
      replace ho5 := ho5.stored g28 hR (by decide)
      replace hR := hB29
      refine Sq.idxInts sl56 one3 (Own.row ho5) .plain rfl rfl rfl .plain rfl rfl (by omega) (by omega) ?_
      have hd39 := hR.lt
      refine Sq.call fn98 .plain rfl rfl (l1Text_c (xs4.getD k31.toNat 0) (by exact lw_at hlx7 (by omega)) _) ?_
      rintro _ w37 ⟨rfl, e38⟩
      have hs40 := World.grownBy.size G
      have hs41 := Below.size e38
      replace G := grown_trans G (Ext.to_grown e38 _)
      replace ho5 := ho5.ext e38
      replace hR := hR.ext e38
      refine Sq.cat .plain rfl rfl rfl (by rw [chr_size]; omega) ?_
      refine Sq.assign .plain rfl rfl ?_
      refine Sq.nil ?_
      refine Eq.end ?_
      refine Eq.next ?_
      refine Cq.region ?_
      refine Sq.move .plain rfl rfl ?_
      refine Sq.sub .plain rfl rfl rfl (by omega) ?_
      refine Sq.assign .plain rfl rfl ?_
      refine Sq.nil ?_
      refine Eq.round _ _ ⟨_, _, _, rfl, by omega, by omega, hR, by rw [size_cat, chr_size]; omega, G, ho5, rfl⟩ (by omega) (.cons rfl (.cons rfl (.cons rfl (.cons rfl (.nil)))))
    · refine Sq.pickT .plain rfl rfl rfl ?_
      refine Sq.nil ?_
      refine Eq.next ?_
      refine Cq.els rfl ?_
      refine Cq.exit ?_
      refine Eq.past ?_
      refine Eq.past ?_
      refine Eq.hit ?_
      refine Eq.next ?_
      refine Cq.seq ?_
      refine Cq.region ?_
      refine Sq.move .plain rfl rfl ?_
      refine Sq.assign .plain rfl rfl ?_
      refine Sq.nil ?_
      refine Eq.next ?_
      refine Cq.ret ?_
      refine Eq.ret1 rfl rfl ?_
      exact ⟨⟨_, by omega, hR, G⟩, _, rfl, by omega⟩
  · refine Sq.move .plain rfl rfl ?_
    refine Sq.off rfl rfl rfl rfl rfl rfl ?_
    refine Sq.off rfl rfl rfl rfl rfl rfl ?_
    refine Sq.off rfl rfl rfl rfl rfl rfl ?_
    refine Sq.pickF .plain rfl rfl rfl ?_
    refine Sq.nil ?_
    refine Eq.next ?_
    refine Cq.els rfl ?_
    refine Cq.exit ?_
    refine Eq.past ?_
    refine Eq.past ?_
    refine Eq.hit ?_
    refine Eq.next ?_
    refine Cq.seq ?_
    refine Cq.region ?_
    refine Sq.move .plain rfl rfl ?_
    refine Sq.assign .plain rfl rfl ?_
    refine Sq.nil ?_
    refine Eq.next ?_
    refine Cq.ret ?_
    refine Eq.ret1 rfl rfl ?_
    exact ⟨⟨_, by omega, hR, G⟩, _, rfl, by omega⟩

set_option maxRecDepth 100000 in
theorem l1Bad_c (w0 : World) (rb : Nat) (bv : Value) (p : Int) (bs : List UInt8) (e0 : TypeId) (hR : Blk w0 rb 88 [bv, .int .i64 p]) (hb : Src w0 e0 bv bs rb) (hbl : bs.length ≤ 2000) (hp : 0 ≤ p ∧ p ≤ 460000000) (s : ByteArray) (hs : s.size ≤ 1000) : Ret Try.prog 65 #[Value.pointer (some ⟨rb, 0, none⟩), Value.string s] w0 (fun v w => (∃ p', (p ≤ p' ∧ p' ≤ p + 10) ∧ Blk w rb 88 [bv, .int .i64 p'] ∧ w0.grownBy w (some rb)) ∧ ∃ t, v = .string t ∧ t.size ≤ 60000) := by
  have G := World.grownBy.refl w0 (some rb)
  have hlt := hR.lt
  refine Ret.of (args := [Value.pointer (some ⟨rb, 0, none⟩), Value.string s]) Try.func65 rfl rfl rfl ?_
  rintro _ rfl
  show Cq _ _ _ _ [(0, Value.pointer (some ⟨rb, 0, none⟩)), (1, Value.string s)] _
  refine Cq.seq ?_
  refine Cq.region ?_
  refine Sq.assign .plain rfl rfl ?_
  refine Sq.nil ?_
  refine Eq.next ?_
  refine Cq.seq ?_
  refine Cq.seq ?_
  refine Cq.region ?_
  refine Sq.move .plain rfl rfl ?_
  refine Sq.call fn43 .plain rfl rfl (pick_c _ _ _ _ _ _ hR (hb.go G) hbl (by omega) 24 (by omega)) ?_
  rintro _ w2 ⟨⟨p3, hp6, hB5, g4⟩, ⟨k7, rfl, hk8⟩⟩
  have hs9 := World.grownBy.size g4
  have hs10 := World.grownBy.size G
  have hs11 := World.grownBy.size g4
  replace G := grown_trans G g4
  replace hR := hB5
  refine Sq.nil ?_
  refine Eq.next ?_
  refine Cq.block ?_
  refine Cq.seq ?_
  refine Cq.region ?_
  refine Sq.eql .plain rfl rfl rfl ?_
  refine Sq.part (fun c12 => ?_) (fun c12 => ?_)
  · refine Sq.assign .plain rfl rfl ?_
    refine Sq.nil ?_
    refine Eq.next ?_
    refine Cq.thn rfl ?_
    refine Cq.seq ?_
    refine Cq.region ?_
    refine Sq.move .plain rfl rfl ?_
    refine Sq.move .plain rfl rfl ?_
    refine Sq.lit sl91 rfl rfl .plain rfl rfl (one_cons rfl (one_cons rfl (one_cons rfl (one_cons rfl (one_cons rfl (one_cons rfl one_nil)))))) (fun b13 w14 e15 hlo16 ho17 _ => ?_)
    replace ho17 := ho17 w2.heap.size (Nat.le_refl _)
    have hs19 := Below.size e15
    replace hR := hR.ext e15
    replace G := grown_trans G (Ext.to_grown e15 _)
    refine Sq.call fn85 .plain rfl rfl (of_c _ _ _ _ _ _ hR (hb.go G) hbl (by omega) _ (([(⟨#[103]⟩ : ByteArray), (⟨#[65]⟩ : ByteArray), (⟨#[96]⟩ : ByteArray), (⟨#[32]⟩ : ByteArray), (⟨#[97]⟩ : ByteArray), (⟨#[0]⟩ : ByteArray)] : List ByteArray)) (Own.row ho17) (by first | omega | simp)) ?_
    rintro _ w21 ⟨⟨p22, hp25, hB24, g23⟩, ⟨s26, rfl, hm27⟩⟩
    have hs28 := World.grownBy.size g23
    have hs29 := World.grownBy.size G
    have hs30 := World.grownBy.size g23
    replace G := grown_trans G g23
    replace ho17 := ho17.stored g23 hR (by decide)
    replace hR := hB24
    have hz31 := of_size (n := 10) (by decide) hm27
    refine Sq.cat .plain rfl rfl rfl (by first | omega | (simp only [size_cat]; omega) | (simp only [chr_size]; omega) | (simp; omega)) ?_
    refine Sq.assign .plain rfl rfl ?_
    refine Sq.nil ?_
    refine Eq.next ?_
    refine Cq.ret ?_
    refine Eq.outRet ?_
    refine Eq.pastRet ?_
    refine Eq.ret1 rfl rfl ?_
    exact ⟨⟨_, by omega, hR, G⟩, _, rfl, by (try rw [size_cat]); omega⟩
  · refine Sq.assign .plain rfl rfl ?_
    refine Sq.nil ?_
    refine Eq.next ?_
    refine Cq.els rfl ?_
    refine Cq.seq ?_
    refine Cq.region ?_
    refine Sq.eql .plain rfl rfl rfl ?_
    refine Sq.part (fun c32 => ?_) (fun c32 => ?_)
    · refine Sq.assign .plain rfl rfl ?_
      refine Sq.nil ?_
      refine Eq.next ?_
      refine Cq.thn rfl ?_
      refine Cq.seq ?_
      refine Cq.region ?_
      refine Sq.move .plain rfl rfl ?_
      refine Sq.lit sl91 rfl rfl .plain rfl rfl (one_cons rfl (one_cons rfl (one_cons rfl (one_cons rfl one_nil)))) (fun b33 w34 e35 hlo36 ho37 _ => ?_)
      replace ho37 := ho37 w2.heap.size (Nat.le_refl _)
      have hs39 := Below.size e35
      replace hR := hR.ext e35
      replace G := grown_trans G (Ext.to_grown e35 _)
      refine Sq.call fn85 .plain rfl rfl (of_c _ _ _ _ _ _ hR (hb.go G) hbl (by omega) _ (([(⟨#[98]⟩ : ByteArray), (⟨#[120]⟩ : ByteArray), (⟨#[45]⟩ : ByteArray), (⟨#[102]⟩ : ByteArray)] : List ByteArray)) (Own.row ho37) (by first | omega | simp)) ?_
      rintro _ w41 ⟨⟨p42, hp45, hB44, g43⟩, ⟨s46, rfl, hm47⟩⟩
      have hs48 := World.grownBy.size g43
      have hs49 := World.grownBy.size G
      have hs50 := World.grownBy.size g43
      replace G := grown_trans G g43
      replace ho37 := ho37.stored g43 hR (by decide)
      replace hR := hB44
      have hz51 := of_size (n := 10) (by decide) hm47
      refine Sq.move .plain rfl rfl ?_
      refine Sq.cat .plain rfl rfl rfl (by first | omega | (simp only [size_cat]; omega) | (simp only [chr_size]; omega) | (simp; omega)) ?_
      refine Sq.assign .plain rfl rfl ?_
      refine Sq.nil ?_
      refine Eq.next ?_
      refine Cq.ret ?_
      refine Eq.outRet ?_
      refine Eq.pastRet ?_
      refine Eq.ret1 rfl rfl ?_
      exact ⟨⟨_, by omega, hR, G⟩, _, rfl, by (try rw [size_cat]); omega⟩
    · refine Sq.assign .plain rfl rfl ?_
      refine Sq.nil ?_
      refine Eq.next ?_
      refine Cq.els rfl ?_
      refine Cq.seq ?_
      refine Cq.region ?_
      refine Sq.eql .plain rfl rfl rfl ?_
      refine Sq.part (fun c52 => ?_) (fun c52 => ?_)
      · refine Sq.assign .plain rfl rfl ?_
        refine Sq.nil ?_
        refine Eq.next ?_
        refine Cq.thn rfl ?_
        refine Cq.seq ?_
        refine Cq.region ?_
        refine Sq.move .plain rfl rfl ?_
        refine Sq.lit sl56 rfl rfl .plain rfl rfl (one_cons rfl (one_cons rfl (one_cons rfl (one_cons rfl one_nil)))) (fun b53 w54 e55 hlo56 ho57 _ => ?_)
        replace ho57 := ho57 w2.heap.size (Nat.le_refl _)
        have hs59 := Below.size e55
        replace hR := hR.ext e55
        replace G := grown_trans G (Ext.to_grown e55 _)
        refine Sq.call fn47 .plain rfl rfl (num_c _ _ _ _ _ _ hR (hb.go G) hbl (by omega) _ [50000, 50001, 49999, 8] (Own.row ho57) (by simp)) ?_
        rintro _ w61 ⟨⟨p62, hp65, hB64, g63⟩, ⟨k66, rfl, hm67⟩⟩
        have hs68 := World.grownBy.size g63
        have hs69 := World.grownBy.size G
        have hs70 := World.grownBy.size g63
        replace G := grown_trans G g63
        replace ho57 := ho57.stored g63 hR (by decide)
        replace hR := hB64
        simp only [List.mem_cons, List.not_mem_nil, or_false] at hm67
        refine Sq.call fn97 .plain rfl rfl (l19Many_c (⟨#[97]⟩ : ByteArray) k66 60000 (by omega) (by omega) (by show 1 * _ ≤ _; omega) _) ?_
        rintro _ _ ⟨⟨t71, rfl, ht72⟩, rfl⟩
        refine Sq.assign .plain rfl rfl ?_
        refine Sq.nil ?_
        refine Eq.next ?_
        refine Cq.ret ?_
        refine Eq.outRet ?_
        refine Eq.pastRet ?_
        refine Eq.ret1 rfl rfl ?_
        exact ⟨⟨_, by omega, hR, G⟩, _, rfl, by (try rw [size_cat]); omega⟩
      · refine Sq.assign .plain rfl rfl ?_
        refine Sq.nil ?_
        refine Eq.next ?_
        refine Cq.els rfl ?_
        refine Cq.seq ?_
        refine Cq.region ?_
        refine Sq.eql .plain rfl rfl rfl ?_
        refine Sq.part (fun c73 => ?_) (fun c73 => ?_)
        · refine Sq.assign .plain rfl rfl ?_
          refine Sq.nil ?_
          refine Eq.next ?_
          refine Cq.thn rfl ?_
          refine Cq.seq ?_
          refine Cq.region ?_
          refine Sq.move .plain rfl rfl ?_
          refine Sq.lit sl56 rfl rfl .plain rfl rfl (one_cons rfl (one_cons rfl (one_cons rfl one_nil))) (fun b74 w75 e76 hlo77 ho78 _ => ?_)
          replace ho78 := ho78 w2.heap.size (Nat.le_refl _)
          have hs80 := Below.size e76
          replace hR := hR.ext e76
          replace G := grown_trans G (Ext.to_grown e76 _)
          refine Sq.call fn47 .plain rfl rfl (num_c _ _ _ _ _ _ hR (hb.go G) hbl (by omega) _ [50000, 8, 7] (Own.row ho78) (by simp)) ?_
          rintro _ w82 ⟨⟨p83, hp86, hB85, g84⟩, ⟨k87, rfl, hm88⟩⟩
          have hs89 := World.grownBy.size g84
          have hs90 := World.grownBy.size G
          have hs91 := World.grownBy.size g84
          replace G := grown_trans G g84
          replace ho78 := ho78.stored g84 hR (by decide)
          replace hR := hB85
          simp only [List.mem_cons, List.not_mem_nil, or_false] at hm88
          refine Sq.call fn97 .plain rfl rfl (l19Many_c (⟨#[102]⟩ : ByteArray) k87 60000 (by omega) (by omega) (by show 1 * _ ≤ _; omega) _) ?_
          rintro _ _ ⟨⟨t92, rfl, ht93⟩, rfl⟩
          refine Sq.assign .plain rfl rfl ?_
          refine Sq.nil ?_
          refine Eq.next ?_
          refine Cq.ret ?_
          refine Eq.outRet ?_
          refine Eq.pastRet ?_
          refine Eq.ret1 rfl rfl ?_
          exact ⟨⟨_, by omega, hR, G⟩, _, rfl, by (try rw [size_cat]); omega⟩
        · refine Sq.assign .plain rfl rfl ?_
          refine Sq.nil ?_
          refine Eq.next ?_
          refine Cq.els rfl ?_
          refine Cq.skip ?_
          refine Eq.end ?_
          refine Eq.next ?_
          refine Cq.seq ?_
          refine Cq.region ?_
          refine Sq.move .plain rfl rfl ?_
          refine Sq.assign .plain rfl rfl ?_
          refine Sq.nil ?_
          refine Eq.next ?_
          refine Cq.ret ?_
          refine Eq.ret1 rfl rfl ?_
          exact ⟨⟨_, by omega, hR, G⟩, _, rfl, by (try rw [size_cat]); omega⟩

set_option maxRecDepth 100000 in
theorem drawWord_c (w0 : World) (e : TypeId) (a0 : Option Addr) (c0 : Nat) (cs : List UInt8) (hc : Bytes w0 e (.slice a0 cs.length c0) cs) (hcap : cs.length ≤ c0) : Ret Try.prog 24 #[Value.slice a0 cs.length c0] w0 (fun v w => (∃ s, v = .string s ∧ s.size ≤ 60000) ∧ Ext w0 w) := by
  have E := Ext.refl w0
  refine Ret.of (args := [Value.slice a0 cs.length c0]) Try.func24 rfl rfl rfl ?_
  rintro _ rfl
  show Cq _ _ _ _ [(0, Value.slice a0 cs.length c0)] _
  refine Cq.seq ?_
  refine Cq.region ?_
  refine Sq.assign .plain rfl rfl ?_
  refine Sq.nil ?_
  refine Eq.next ?_
  refine Cq.seq ?_
  refine Cq.region ?_
  refine Sq.move .plain rfl rfl ?_
  refine Sq.call fn41 .plain rfl rfl (open_c _ _ _ _ _ (hc.ext E) hcap) ?_
  rintro _ w1 ⟨⟨rb, bv, bs, rfl, hrb, hR, hb, hbl⟩, e2⟩
  have hrlt := hR.lt
  have hd3 := Nat.le_trans (Below.size E) hrb
  have hs4 := Below.size e2
  replace E := E.trans e2
  have G := World.grownBy.refl w1 (some rb)
  refine Sq.assign .plain rfl rfl ?_
  refine Sq.nil ?_
  refine Eq.next ?_
  refine Cq.seq ?_
  refine Cq.region ?_
  refine Sq.move .plain rfl rfl ?_
  refine Sq.move .plain rfl rfl ?_
  refine Sq.move .plain rfl rfl ?_
  refine Sq.call fn67 .plain rfl rfl (l1Some_c _ _ _ _ _ _ hR (hb.go G) hbl (by omega) ) ?_
  rintro _ w6 ⟨⟨p7, hp10, hB9, g8⟩, ⟨k11, rfl, hk12⟩⟩
  have hs13 := World.grownBy.size g8
  have hs14 := Below.size E
  have hs15 := World.grownBy.size G
  have hs16 := World.grownBy.size g8
  replace E := E.grown g8 (fun k hk => by injection hk with hk; subst hk; omega)
  replace G := grown_trans G g8
  replace hR := hB9
  refine Sq.call fn66 .plain rfl rfl (l1Word_c _ _ _ _ _ _ hR (hb.go G) hbl (by omega) k11 8 (by omega)) ?_
  rintro _ w18 ⟨⟨p19, hp22, hB21, g20⟩, ⟨s23, rfl, hsz24⟩⟩
  have hs25 := World.grownBy.size g20
  have hs26 := Below.size E
  have hs27 := World.grownBy.size G
  have hs28 := World.grownBy.size g20
  replace E := E.grown g20 (fun k hk => by injection hk with hk; subst hk; omega)
  replace G := grown_trans G g20
  replace hR := hB21
  refine Sq.call fn65 .plain rfl rfl (l1Bad_c _ _ _ _ _ _ hR (hb.go G) hbl (by omega) s23 (by omega)) ?_
  rintro _ w30 ⟨⟨p31, hp34, hB33, g32⟩, ⟨t35, rfl, hsz36⟩⟩
  have hs37 := World.grownBy.size g32
  have hs38 := Below.size E
  have hs39 := World.grownBy.size G
  have hs40 := World.grownBy.size g32
  replace E := E.grown g32 (fun k hk => by injection hk with hk; subst hk; omega)
  replace G := grown_trans G g32
  replace hR := hB33
  refine Sq.assign .plain rfl rfl ?_
  refine Sq.nil ?_
  refine Eq.next ?_
  refine Cq.ret ?_
  refine Eq.ret1 rfl rfl ?_
  exact ⟨⟨_, rfl, by omega⟩, E⟩

end Go.Proofs.Ytdejmfkpohgamaa
